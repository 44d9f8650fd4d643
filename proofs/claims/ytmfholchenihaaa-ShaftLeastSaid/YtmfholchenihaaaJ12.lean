/- Joined of: H30 Ha18 H32. No condition. -/
import Derived.Test.YtmfholchenihaaaJ9
import Derived.Test.YtmfholchenihaaaJ11
import Derived.Test.YtmfholchenihaaaJ8

namespace Go.Proofs.Ytmfholchenihaaa
open Go Go.Vc Go.Sh
set_option linter.unusedVariables false
set_option linter.unusedSimpArgs false
theorem sm4_wf {x : List Jb} (h : (Ty.sl U4).wf x) : sm4 x := fun i => by
  have h2 : ∀ y ∈ x, U4.wf y := h.2
  by_cases hi : i < x.length
  · have h3 := h2 _ (getD_mem (d := J0) hi)
    exact ⟨wf_u8 h3.1, wf_u8 h3.2.1, wf_u8 h3.2.2.1, wf_u8 h3.2.2.2.1⟩
  · have : x.getD i J0 = J0 := by simp [List.getD, List.getElem?_eq_none (Nat.le_of_not_lt hi)]
    rw [this]; decide
theorem sm2_wf {y : List Od} (h : (Ty.sl U2).wf y) : sm2 y := fun i => by
  have h2 : ∀ z ∈ y, U2.wf z := h.2
  by_cases hi : i < y.length
  · have h3 := h2 _ (getD_mem (d := O0) hi)
    exact ⟨wf_u8 h3.1, wf_u8 h3.2.1⟩
  · have : y.getD i O0 = O0 := by simp [List.getD, List.getElem?_eq_none (Nat.le_of_not_lt hi)]
    rw [this]; decide
theorem made_eq {p Q : Int} {x J : List Jb} {y O : List Od} (hp : 0 ≤ p ∧ p ≤ 255) (hx : sm4 x) (hy : sm2 y) (hQ : Q = p % 6 + 1) (hJ : J = mkJs x) (hO : O = mkOs J.length y) :
    VS Q J O ∧ (1 ≤ Q ∧ Q ≤ 6) ∧ FnAt Try.prog false 27 [.agg [.lit (.int .u8 p), .arr U4 x, .arr U2 y]] (.strct [.lit (.int .i64 Q), .own 0, .own 1]) [(0, .row 45 JT true J), (1, .row 79 OT true O)] := by
  subst hQ hO hJ
  exact ⟨mk_vs (by omega), by omega, made_at hp hx hy⟩
end Go.Proofs.Ytmfholchenihaaa
namespace Go.Sh
set_option linter.unusedVariables false
set_option linter.unusedSimpArgs false
def upL (V : Nat → Int) (i : Nat) : List Int := (List.range i).map V
theorem upL_len {V : Nat → Int} {i : Nat} : (upL V i).length = i := by simp [upL]
theorem upL_get {V : Nat → Int} {i k : Nat} (h : k < i) : (upL V i).getD k 0 = V k := by
  unfold upL
  rw [List.getD_eq_getElem?_getD, List.getElem?_map, List.getElem?_range h]
  rfl
theorem upL_step {V : Nat → Int} {i : Nat} : upL V i ++ [V i] = upL V (i + 1) := by simp [upL, List.range_succ]
theorem lexle_at {r s : List Int} (h : lexle r s) {i : Nat} (hi : i < r.length) (he : ∀ j, j < i → r.getD j 0 = s.getD j 0) (hn : r.getD i 0 ≠ s.getD i 0) : r.getD i 0 < s.getD i 0 := by
  rcases h with rfl | ⟨k, hk, h1, h2⟩
  · exact absurd rfl hn
  · by_cases e : k = i
    · subst e; exact h2
    · by_cases c : k < i
      · have := he k c; omega
      · exact absurd (h1 i (by omega)) hn
def lsV (l : List Jb) (y : List Int) (i : Nat) : Int := if i < y.length then jf l i + y.getD i 0 % (jt l i - jl l i - jf l i + 1) else jf l i
end Go.Sh
namespace Go.Proofs.Ytmfholchenihaaa
open Go Go.Vc Go.Sh
set_option linter.unusedVariables false
set_option linter.unusedSimpArgs false
def sm1 (y : List Int) : Prop := ∀ i : Nat, 0 ≤ y.getD i 0 ∧ y.getD i 0 ≤ 255
theorem sm1_wf {y : List Int} (h : (Ty.sl (.int .u8)).wf y) : sm1 y := fun i => by
  have h2 : ∀ z ∈ y, (Ty.int .u8).wf z := h.2
  by_cases hi : i < y.length
  · exact wf_u8 (h2 _ (getD_mem (d := (0 : Int)) hi))
  · have : y.getD i 0 = 0 := by simp [List.getD, List.getElem?_eq_none (Nat.le_of_not_lt hi)]
    rw [this]; decide
theorem lsV_yes {l : List Jb} {y : List Int} {i : Nat} (h : i < y.length) : jf l i + y.getD i 0 % (jt l i - jl l i - jf l i + 1) = lsV l y i := by unfold lsV; rw [if_pos h]
theorem lsV_no {l : List Jb} {y : List Int} {i : Nat} (h : ¬ i < y.length) : jf l i = lsV l y i := by unfold lsV; rw [if_neg h]
set_option maxHeartbeats 16000000 in
theorem ShaftLeast_at {p : Int} {x : List Jb} {y : List Od} {z : List Int} (hp : 0 ≤ p ∧ p ≤ 255) (hx : sm4 x) (hy : sm2 y) (hz : sm1 z) : FnAt Try.prog false 11 [.agg [.lit (.int .u8 p), .arr U4 x, .arr U2 y], .arr (.int .u8) z] (.lit (.bool true)) [] := by
  obtain ⟨P, hP⟩ : ∃ P, P = p % 6 + 1 := ⟨_, rfl⟩
  obtain ⟨l, hl⟩ : ∃ l, l = mkJs x := ⟨_, rfl⟩
  obtain ⟨os, hos⟩ : ∃ os, os = mkOs l.length y := ⟨_, rfl⟩
  obtain ⟨h, hP6, hmk⟩ := made_eq hp hx hy hP hl hos
  clear hP hl hos
  have c2 := Short_at h
  have hlj : @List.length JT.T l = l.length := rfl
  have hlz : @List.length (Ty.int .u8).T z = z.length := rfl
  have hzd : ∀ i, @List.getD (Ty.int .u8).T z i (Ty.int .u8).dflt = z.getD i 0 := fun i => rfl
  have hl6 := h.ln
  have hbd := bd_of h
  have hMl : ∀ i, @List.length (Ty.int .i64).T (upL (lsV l z) i) = i := fun i => upL_len
  have hMs : ∀ i, upL (lsV l z) i ++ [lsV l z i] = upL (lsV l z) (i + 1) := fun i => upL_step
  have hVy := fun i => lsV_yes (l := l) (y := z) (i := i)
  have hVn := fun i => lsV_no (l := l) (y := z) (i := i)
  have hff := fun b (hb : fitB P l os (upL (lsV l z) l.length) = b) => (hb ▸ Fits_ok h (upL_len (V := lsV l z) (i := l.length)) : FnAt Try.prog false 34 [.agg [I64 P, .arr JT l, .arr OT os], .arr (.int .i64) (upL (lsV l z) l.length)] (.tup [.lit (.bool b), .lit (.int .i64 0)]) [])
  obtain ⟨V, hV⟩ : ∃ V, V = lsV l z := ⟨_, rfl⟩
  rw [← hV] at hMl hMs hVy hVn hff
  clear hV
  rcases first_spec h with ⟨h1, h2⟩ | ⟨h1, h2, h3⟩
  · have c1 := First_none h h1
    rcases sh_spec h with ⟨g1, g2, g3⟩ | ⟨g1, g2, g3⟩
    · rw [g1, g2, if_pos rfl] at c2
      have hf := hff false (fitB_no (h2 _))
      refine FnAt.of_body tys_ok Try.func11 (by rfl) rfl Try.ntmps11 (by rw [Try.results11]) (by simp) ?_
  
      repeat' (first
 | refine W.seq ?_
 | refine W.block ?_
 | (refine W.resub (x := Code.region 2 _ _) (Γ' := ⟨[(1, .st false (.arr (.int .u8) z)), (5, .st true (.sadr (.agg [I64 P, .arr JT l, .arr OT os])))], []⟩) ?_ (W.region tys_ok [] ?_); rotate_left; (conv => whnf))
 | (refine W.resub (x := Code.region 4 _ _) (Γ' := ⟨[(1, .st false (.arr (.int .u8) z)), (5, .st true (.sadr (.agg [I64 P, .arr JT l, .arr OT os]))), (6, .st true (.narr (.int .i64) ([] : List Int))), (7, .lit (.int .i64 (5))), (8, .st true (.narr (.int .i64) ([] : List Int))), (9, .lit (.int .i64 (0))), (10, .lit (.int .i64 (5)))], []⟩) ?_ (W.drawPh (id := 4) tys_ok [] mixed [0, 0, 3, 4, 8, 24, 40, 64, 192, 328, 520, 1088, 2048, 6144, 10240] [([0, 1, 2, 3, 4, 5, 6, 7, 8, 9, 10, 11], 1, 8191), ([13, 14], 0, 32767)] (by decide +kernel) ?_); rotate_left; (conv => whnf))
 | (refine W.region tys_ok [] ?_; conv => whnf)
 | (refine W.drawAll tys_ok [] mixed rfl ?_; conv => whnf)
 | (refine W.ret ?_; conv => whnf)
 | (refine W.skip ?_; conv => whnf)
 | (refine W.exit ?_; conv => whnf)
 | (refine call_at (al := false) (hmk) rfl rfl rfl rfl ?_; conv => whnf)
 | (refine call_at (al := true) (c1) rfl rfl rfl rfl ?_; conv => whnf)
 | (refine call_at (al := true) (c2) rfl rfl rfl rfl ?_; conv => whnf)
 | (refine call_at (al := false) (lives_at) rfl rfl rfl rfl ?_; conv => whnf)
 | (refine Both.mk ?_ ?_ <;> (conv => whnf))
 | (refine W.cond rfl (fun hb => ?_) (fun hb => ?_) <;> (try simp only [Int.reduceToNat, Int.reduceTDiv, Int.reduceTMod, minL, maxL, pickB, zHB, zSH] at hb) <;> (try (first | (cases hb; done) | exact absurd hb (by decide) | (exfalso; omega) | (omega))))
 | ((with_reducible refine And.intro ?_ ?_); (focus (first | (with_reducible rfl) | omega | rfl | ((try simp only [Int.reduceToNat, Int.reduceTDiv, Int.reduceTMod, minL, maxL, pickB, zHB, zSH, InK, Path.imp, zL] at *); omega))); (conv => whnf))
 | ((with_reducible refine And.intro (Side.out ?_) ?_); rotate_left; (conv => whnf))
 | ((first | refine retF1 ?_ | refine retF2 ?_ | refine subF.leaf ?_ | refine subF.side ?_) <;> (conv => whnf) <;> repeat' (first
 | exact trivial
 | (with_reducible rfl)
 | ((with_reducible refine And.intro ?_ ?_) <;> conv => whnf)
 | omega
 | rfl
 | (refine congrArg (SV.arr _) ?_)
 | (refine congrArg (Value.int _) ?_)
 | (refine congrArg Value.bool ?_)))); all_goals (try unfold Side)
      all_goals try (repeat' (first | (with_reducible rfl) | (with_reducible refine And.intro ?_ ?_) | omega | rfl | exact Or.inl rfl | exact Or.inr rfl | exact of_decide_eq_true rfl | exact Path.imp_of (of_decide_eq_true rfl) | (focus ((try simp only [Int.reduceToNat, Int.reduceTDiv, Int.reduceTMod, minL, maxL, pickB, zHB, zSH, InK, Path.imp, zL] at *); omega)) | (refine app_le rfl ?_; omega)))
      all_goals try refine subF.ok ?_ <;> (conv => whnf) <;> repeat' (first
 | exact trivial
 | (with_reducible rfl)
 | ((with_reducible refine And.intro ?_ ?_) <;> conv => whnf)
 | omega
 | rfl
 | (refine congrArg (SV.arr _) ?_)
 | (refine congrArg (Value.int _) ?_)
 | (refine congrArg Value.bool ?_))
      refine W.loop (fun i : Nat => ⟨[(1, .st false (.arr (.int .u8) z)), (5, .st true (.sadr (.agg [I64 P, .arr JT l, .arr OT os]))), (6, .st true (.narr (.int .i64) ([] : List Int))), (7, .lit (.int .i64 (5))), (8, .st true (.narr (.int .i64) ([] : List Int))), (9, .lit (.int .i64 (0))), (10, .lit (.int .i64 (5))), (11, .own 5000), (12, .lit (.int .i64 (i)))], [(5000, .row 3 (.int .i64) true ((upL V i) : List Int))]⟩) (fun i => i ≤ l.length) (fun i => l.length - i) (0) ?_ ?_
      · refine ⟨Nat.zero_le _, ?_⟩
        refine subF.ok ?_ <;> (conv => whnf) <;> repeat' (first
 | exact trivial
 | (with_reducible rfl)
 | ((with_reducible refine And.intro ?_ ?_) <;> conv => whnf)
 | omega
 | rfl
 | (refine congrArg (SV.arr _) ?_)
 | (refine congrArg (Value.int _) ?_)
 | (refine congrArg Value.bool ?_))
        all_goals rfl
      · intro i hi
        have hl5 := hMl i
        by_cases hil : i < l.length
        · have q1 := hbd.rg i hil
          have q2 := h.pre.rg i hil
          have q3 := hz i
          have q4 := hMs i
          have tm1 : Int.tmod (z.getD i 0) (jt l i - jl l i - jf l i + 1) = z.getD i 0 % (jt l i - jl l i - jf l i + 1) := tm q3.1 _
          have q5 := Int.emod_nonneg (z.getD i 0) (b := jt l i - jl l i - jf l i + 1) (by omega)
          have q6 := Int.emod_lt_of_pos (z.getD i 0) (b := jt l i - jl l i - jf l i + 1) (by omega)
          have ik : InK .i64 (z.getD i 0) := by simp only [InK]; omega
          by_cases hc : i < z.length
          · have q7 := hVy i hc
            rw [← tm1] at q5 q6 q7
            unfold jf jt jl at q5 q6 q7 q2
            repeat' (first
 | refine W.seq ?_
 | refine W.block ?_
 | (refine W.drawPh (id := 12) tys_ok [] mixed [0, 0, 0, 6, 8, 16, 0, 64, 0, 384, 512, 1024, 0, 4096, 0, 24576, 32768, 65536, 133120, 0, 524288, 0, 3145728, 4194304, 8388608, 17039360, 33554432, 67108896, 134217729, 536870911] [([0, 1, 2, 3, 4, 5, 6, 7, 8, 9, 10, 11, 12, 13, 14, 15, 16, 17, 18, 19, 20, 21, 22, 23, 24, 25, 26, 27, 28, 29], 0, 1073741823)] (by decide +kernel) ?_; conv => whnf)
 | (refine W.resub (x := Code.region 13 _ _) (Γ' := ⟨[(1, .st false (.arr (.int .u8) z)), (5, .st true (.sadr (.agg [I64 P, .arr JT l, .arr OT os]))), (6, .st true (.narr (.int .i64) ([] : List Int))), (7, .lit (.int .i64 (5))), (8, .st true (.narr (.int .i64) ([] : List Int))), (9, .lit (.int .i64 (0))), (10, .lit (.int .i64 (5))), (11, .own 5000), (12, .lit (.int .i64 (i))), (13, .lit (.int .i64 ((V i))))], [(5000, .row 3 (.int .i64) true ((upL V i) : List Int))]⟩) ?_ (W.region tys_ok [] ?_); rotate_left; (conv => whnf))
 | (refine W.region tys_ok [] ?_; conv => whnf)
 | (refine W.drawAll tys_ok [] mixed rfl ?_; conv => whnf)
 | (refine W.ret ?_; conv => whnf)
 | (refine W.skip ?_; conv => whnf)
 | (refine W.exit ?_; conv => whnf)
 | (refine Both.mk ?_ ?_ <;> (conv => whnf))
 | (refine W.cond rfl (fun hb => ?_) (fun hb => ?_) <;> (try simp only [Int.reduceToNat, Int.reduceTDiv, Int.reduceTMod, minL, maxL, pickB, zHB, zSH] at hb) <;> (try (first | (cases hb; done) | exact absurd hb (by decide) | (exfalso; omega) | (omega))))
 | ((with_reducible refine And.intro ?_ ?_); (focus (first | (with_reducible rfl) | omega | rfl | ((try simp only [Int.reduceToNat, Int.reduceTDiv, Int.reduceTMod, minL, maxL, pickB, zHB, zSH, InK, Path.imp, zL] at *); omega))); (conv => whnf))
 | ((with_reducible refine And.intro (Side.out ?_) ?_); rotate_left; (conv => whnf))
 | ((first | refine retF1 ?_ | refine retF2 ?_ | refine subF.leaf ?_ | refine subF.side ?_) <;> (conv => whnf) <;> repeat' (first
 | exact trivial
 | (with_reducible rfl)
 | ((with_reducible refine And.intro ?_ ?_) <;> conv => whnf)
 | omega
 | rfl
 | (refine congrArg (SV.arr _) ?_)
 | (refine congrArg (Value.int _) ?_)
 | (refine congrArg Value.bool ?_)))); all_goals (try unfold Side)
            all_goals try (repeat' (first | (with_reducible rfl) | (with_reducible refine And.intro ?_ ?_) | omega | rfl | exact Or.inl rfl | exact Or.inr rfl | exact of_decide_eq_true rfl | exact Path.imp_of (of_decide_eq_true rfl) | (focus ((try simp only [Int.reduceToNat, Int.reduceTDiv, Int.reduceTMod, minL, maxL, pickB, zHB, zSH, InK, Path.imp, zL] at *); omega)) | (refine app_le rfl ?_; omega)))
            all_goals try (first | exact Path.imp_of ik)
            all_goals try refine subF.ok ?_ <;> (conv => whnf) <;> repeat' (first
 | exact trivial
 | (with_reducible rfl)
 | ((with_reducible refine And.intro ?_ ?_) <;> conv => whnf)
 | omega
 | rfl
 | (refine congrArg (SV.arr _) ?_)
 | (refine congrArg (Value.int _) ?_)
 | (refine congrArg Value.bool ?_))
            all_goals try exact q7
            refine ⟨i + 1, ⟨by omega, by omega⟩, ?_⟩
            refine subF.ok ?_ <;> (conv => whnf) <;> repeat' (first
 | exact trivial
 | (with_reducible rfl)
 | ((with_reducible refine And.intro ?_ ?_) <;> conv => whnf)
 | omega
 | rfl
 | (refine congrArg (SV.arr _) ?_)
 | (refine congrArg (Value.int _) ?_)
 | (refine congrArg Value.bool ?_))
            all_goals exact q4
          · have q7 := hVn i hc
            unfold jf at q7
            repeat' (first
 | refine W.seq ?_
 | refine W.block ?_
 | (refine W.drawPh (id := 12) tys_ok [] mixed [0, 0, 0, 6, 8, 16, 0, 64, 0, 384, 512, 1024, 0, 4096, 0, 24576, 32768, 65536, 133120, 0, 524288, 0, 3145728, 4194304, 8388608, 17039360, 33554432, 67108896, 134217729, 536870911] [([0, 1, 2, 3, 4, 5, 6, 7, 8, 9, 10, 11, 12, 13, 14, 15, 16, 17, 18, 19, 20, 21, 22, 23, 24, 25, 26, 27, 28, 29], 0, 1073741823)] (by decide +kernel) ?_; conv => whnf)
 | (refine W.resub (x := Code.region 13 _ _) (Γ' := ⟨[(1, .st false (.arr (.int .u8) z)), (5, .st true (.sadr (.agg [I64 P, .arr JT l, .arr OT os]))), (6, .st true (.narr (.int .i64) ([] : List Int))), (7, .lit (.int .i64 (5))), (8, .st true (.narr (.int .i64) ([] : List Int))), (9, .lit (.int .i64 (0))), (10, .lit (.int .i64 (5))), (11, .own 5000), (12, .lit (.int .i64 (i))), (13, .lit (.int .i64 ((V i))))], [(5000, .row 3 (.int .i64) true ((upL V i) : List Int))]⟩) ?_ (W.region tys_ok [] ?_); rotate_left; (conv => whnf))
 | (refine W.region tys_ok [] ?_; conv => whnf)
 | (refine W.drawAll tys_ok [] mixed rfl ?_; conv => whnf)
 | (refine W.ret ?_; conv => whnf)
 | (refine W.skip ?_; conv => whnf)
 | (refine W.exit ?_; conv => whnf)
 | (refine Both.mk ?_ ?_ <;> (conv => whnf))
 | (refine W.cond rfl (fun hb => ?_) (fun hb => ?_) <;> (try simp only [Int.reduceToNat, Int.reduceTDiv, Int.reduceTMod, minL, maxL, pickB, zHB, zSH] at hb) <;> (try (first | (cases hb; done) | exact absurd hb (by decide) | (exfalso; omega) | (omega))))
 | ((with_reducible refine And.intro ?_ ?_); (focus (first | (with_reducible rfl) | omega | rfl | ((try simp only [Int.reduceToNat, Int.reduceTDiv, Int.reduceTMod, minL, maxL, pickB, zHB, zSH, InK, Path.imp, zL] at *); omega))); (conv => whnf))
 | ((with_reducible refine And.intro (Side.out ?_) ?_); rotate_left; (conv => whnf))
 | ((first | refine retF1 ?_ | refine retF2 ?_ | refine subF.leaf ?_ | refine subF.side ?_) <;> (conv => whnf) <;> repeat' (first
 | exact trivial
 | (with_reducible rfl)
 | ((with_reducible refine And.intro ?_ ?_) <;> conv => whnf)
 | omega
 | rfl
 | (refine congrArg (SV.arr _) ?_)
 | (refine congrArg (Value.int _) ?_)
 | (refine congrArg Value.bool ?_)))); all_goals (try unfold Side)
            all_goals try (repeat' (first | (with_reducible rfl) | (with_reducible refine And.intro ?_ ?_) | omega | rfl | exact Or.inl rfl | exact Or.inr rfl | exact of_decide_eq_true rfl | exact Path.imp_of (of_decide_eq_true rfl) | (focus ((try simp only [Int.reduceToNat, Int.reduceTDiv, Int.reduceTMod, minL, maxL, pickB, zHB, zSH, InK, Path.imp, zL] at *); omega)) | (refine app_le rfl ?_; omega)))
            all_goals try refine subF.ok ?_ <;> (conv => whnf) <;> repeat' (first
 | exact trivial
 | (with_reducible rfl)
 | ((with_reducible refine And.intro ?_ ?_) <;> conv => whnf)
 | omega
 | rfl
 | (refine congrArg (SV.arr _) ?_)
 | (refine congrArg (Value.int _) ?_)
 | (refine congrArg Value.bool ?_))
            all_goals try exact q7
            refine ⟨i + 1, ⟨by omega, by omega⟩, ?_⟩
            refine subF.ok ?_ <;> (conv => whnf) <;> repeat' (first
 | exact trivial
 | (with_reducible rfl)
 | ((with_reducible refine And.intro ?_ ?_) <;> conv => whnf)
 | omega
 | rfl
 | (refine congrArg (SV.arr _) ?_)
 | (refine congrArg (Value.int _) ?_)
 | (refine congrArg Value.bool ?_))
            all_goals exact q4
        · have hie : l.length = i := by omega
          subst hie
          repeat' (first
 | refine W.seq ?_
 | refine W.block ?_
 | (refine W.resub (x := Code.region 14 _ _) (Γ' := ⟨[(1, .st false (.arr (.int .u8) z)), (5, .st true (.sadr (.agg [I64 P, .arr JT l, .arr OT os]))), (6, .st true (.narr (.int .i64) ([] : List Int))), (7, .lit (.int .i64 (5))), (8, .st true (.narr (.int .i64) ([] : List Int))), (9, .lit (.int .i64 (0))), (10, .lit (.int .i64 (5))), (11, .st true (.arr (.int .i64) (upL V l.length : List Int)))], []⟩) ?_ (W.region tys_ok [] ?_); rotate_left; (conv => whnf))
 | (refine W.region tys_ok [] ?_; conv => whnf)
 | (refine W.drawAll tys_ok [] mixed rfl ?_; conv => whnf)
 | (refine W.ret ?_; conv => whnf)
 | (refine W.skip ?_; conv => whnf)
 | (refine W.exit ?_; conv => whnf)
 | (refine call_at (al := false) (hf) rfl rfl rfl rfl ?_; conv => whnf)
 | (refine W.cond rfl (fun hb => ?_) (fun hb => ?_) <;> (try simp only [Int.reduceToNat, Int.reduceTDiv, Int.reduceTMod, minL, maxL, pickB, zHB, zSH] at hb) <;> (try (first | (cases hb; done) | exact absurd hb (by decide) | (exfalso; omega) | (omega))))
 | ((with_reducible refine And.intro ?_ ?_); (focus (first | (with_reducible rfl) | omega | rfl | ((try simp only [Int.reduceToNat, Int.reduceTDiv, Int.reduceTMod, minL, maxL, pickB, zHB, zSH, InK, Path.imp, zL] at *); omega))); (conv => whnf))
 | ((with_reducible refine And.intro (Side.out ?_) ?_); rotate_left; (conv => whnf))
 | ((first | refine retF1 ?_ | refine retF2 ?_) <;> (conv => whnf) <;> repeat' (first
 | exact trivial
 | (with_reducible rfl)
 | ((with_reducible refine And.intro ?_ ?_) <;> conv => whnf)
 | omega
 | rfl
 | (refine congrArg (SV.arr _) ?_)
 | (refine congrArg (Value.int _) ?_)
 | (refine congrArg Value.bool ?_)))); all_goals (try unfold Side)
          all_goals try (repeat' (first | (with_reducible rfl) | (with_reducible refine And.intro ?_ ?_) | omega | rfl | exact Or.inl rfl | exact Or.inr rfl | exact of_decide_eq_true rfl | exact Path.imp_of (of_decide_eq_true rfl) | (focus ((try simp only [Int.reduceToNat, Int.reduceTDiv, Int.reduceTMod, minL, maxL, pickB, zHB, zSH, InK, Path.imp, zL] at *); omega)) | (refine app_le rfl ?_; omega)))
          all_goals try refine subF.ok ?_ <;> (conv => whnf) <;> repeat' (first
 | exact trivial
 | (with_reducible rfl)
 | ((with_reducible refine And.intro ?_ ?_) <;> conv => whnf)
 | omega
 | rfl
 | (refine congrArg (SV.arr _) ?_)
 | (refine congrArg (Value.int _) ?_)
 | (refine congrArg Value.bool ?_))
    · exact absurd g2 (h2 _)
  · rcases sh_spec h with ⟨g1, g2, g3⟩ | ⟨g1, g2, g3, g4, g5⟩
    · exact absurd h2 (g3 _)
    obtain ⟨r, hr⟩ : ∃ r, r = firstT P l os := ⟨_, rfl⟩
    rw [← hr] at h1 h2 h3
    have c1 := First_ok h hr.symm h1
    rw [if_neg g1] at c2
    obtain ⟨m, hm⟩ : ∃ m, m = shT P l os := ⟨_, rfl⟩
    obtain ⟨E, hE⟩ : ∃ E, E = shE P l os := ⟨_, rfl⟩
    rw [← hm, ← hE] at c2
    rw [← hm] at g1 g2 g3 g5
    rw [← hE] at g3 g4 g5
    obtain ⟨r1, r2, r3⟩ := fit_rg h h2
    obtain ⟨m1, m2, m3⟩ := fit_rg h g2
    have fr := fitsR_at (P := P) (vj_of h) r1
    have fm := fitsR_at (P := P) (vj_of h) m1
    rw [fitB_yes h2] at fr
    rw [fitB_yes g2] at fm
    have er := endR_at (P := P) (os := os) hbd (Nat.le_of_eq r1) (fun i hi => by have := r2 i hi; omega)
    have em := endR_at (P := P) (os := os) hbd (Nat.le_of_eq m1) (fun i hi => by have := m2 i hi; omega)
    rw [g3] at em
    have hEr := (g5 r h2).1
    have hlr : @List.length (Ty.int .i64).T r = l.length := r1
    have hlm : @List.length (Ty.int .i64).T m = l.length := m1
    cases hb : fitB P l os (upL V l.length) with
    | false =>
      have hf := hff false hb
      refine FnAt.of_body tys_ok Try.func11 (by rfl) rfl Try.ntmps11 (by rw [Try.results11]) (by simp) ?_
  
      repeat' (first
 | refine W.seq ?_
 | refine W.block ?_
 | (refine W.resub (x := Code.region 2 _ _) (Γ' := ⟨[(1, .st false (.arr (.int .u8) z)), (5, .st true (.sadr (.agg [I64 P, .arr JT l, .arr OT os])))], []⟩) ?_ (W.region tys_ok [] ?_); rotate_left; (conv => whnf))
 | (refine W.resub (x := Code.region 4 _ _) (Γ' := ⟨[(1, .st false (.arr (.int .u8) z)), (5, .st true (.sadr (.agg [I64 P, .arr JT l, .arr OT os]))), (6, .st true (.arr (.int .i64) (r : List Int))), (7, .lit (.int .i64 (0))), (8, .st true (.arr (.int .i64) (m : List Int))), (9, .lit (.int .i64 (E))), (10, .lit (.int .i64 (0)))], []⟩) ?_ (W.drawPh (id := 4) tys_ok [] mixed [0, 0, 3, 4, 8, 24, 40, 64, 192, 328, 520, 1088, 2048, 6144, 10240] [([0, 1, 2, 3, 4, 5, 6, 7, 8, 9, 10, 11], 1, 8191), ([13, 14], 0, 32767)] (by decide +kernel) ?_); rotate_left; (conv => whnf))
 | (refine W.region tys_ok [] ?_; conv => whnf)
 | (refine W.drawAll tys_ok [] mixed rfl ?_; conv => whnf)
 | (refine W.ret ?_; conv => whnf)
 | (refine W.skip ?_; conv => whnf)
 | (refine W.exit ?_; conv => whnf)
 | (refine call_at (al := false) (hmk) rfl rfl rfl rfl ?_; conv => whnf)
 | (refine call_at (al := true) (c1) rfl rfl rfl rfl ?_; conv => whnf)
 | (refine call_at (al := true) (c2) rfl rfl rfl rfl ?_; conv => whnf)
 | (refine call_at (al := false) (lives_at) rfl rfl rfl rfl ?_; conv => whnf)
 | (refine Both.mk ?_ ?_ <;> (conv => whnf))
 | (refine W.cond rfl (fun hb => ?_) (fun hb => ?_) <;> (try simp only [Int.reduceToNat, Int.reduceTDiv, Int.reduceTMod, minL, maxL, pickB, zHB, zSH] at hb) <;> (try (first | (cases hb; done) | exact absurd hb (by decide) | (exfalso; omega) | (omega))))
 | ((with_reducible refine And.intro ?_ ?_); (focus (first | (with_reducible rfl) | omega | rfl | ((try simp only [Int.reduceToNat, Int.reduceTDiv, Int.reduceTMod, minL, maxL, pickB, zHB, zSH, InK, Path.imp, zL] at *); omega))); (conv => whnf))
 | ((with_reducible refine And.intro (Side.out ?_) ?_); rotate_left; (conv => whnf))
 | ((first | refine retF1 ?_ | refine retF2 ?_ | refine subF.leaf ?_ | refine subF.side ?_) <;> (conv => whnf) <;> repeat' (first
 | exact trivial
 | (with_reducible rfl)
 | ((with_reducible refine And.intro ?_ ?_) <;> conv => whnf)
 | omega
 | rfl
 | (refine congrArg (SV.arr _) ?_)
 | (refine congrArg (Value.int _) ?_)
 | (refine congrArg Value.bool ?_)))); all_goals (try unfold Side)
      all_goals try (repeat' (first | (with_reducible rfl) | (with_reducible refine And.intro ?_ ?_) | omega | rfl | exact Or.inl rfl | exact Or.inr rfl | exact of_decide_eq_true rfl | exact Path.imp_of (of_decide_eq_true rfl) | (focus ((try simp only [Int.reduceToNat, Int.reduceTDiv, Int.reduceTMod, minL, maxL, pickB, zHB, zSH, InK, Path.imp, zL] at *); omega)) | (refine app_le rfl ?_; omega)))
      all_goals try refine subF.ok ?_ <;> (conv => whnf) <;> repeat' (first
 | exact trivial
 | (with_reducible rfl)
 | ((with_reducible refine And.intro ?_ ?_) <;> conv => whnf)
 | omega
 | rfl
 | (refine congrArg (SV.arr _) ?_)
 | (refine congrArg (Value.int _) ?_)
 | (refine congrArg Value.bool ?_))
      refine W.loop (fun i : Nat => ⟨[(1, .st false (.arr (.int .u8) z)), (5, .st true (.sadr (.agg [I64 P, .arr JT l, .arr OT os]))), (6, .st true (.arr (.int .i64) (r : List Int))), (7, .lit (.int .i64 (0))), (8, .st true (.arr (.int .i64) (m : List Int))), (9, .lit (.int .i64 (E))), (10, .lit (.int .i64 (0))), (11, .own 5000), (12, .lit (.int .i64 (i)))], [(5000, .row 3 (.int .i64) true ((upL V i) : List Int))]⟩) (fun i => i ≤ l.length) (fun i => l.length - i) (0) ?_ ?_
      · refine ⟨Nat.zero_le _, ?_⟩
        refine subF.ok ?_ <;> (conv => whnf) <;> repeat' (first
 | exact trivial
 | (with_reducible rfl)
 | ((with_reducible refine And.intro ?_ ?_) <;> conv => whnf)
 | omega
 | rfl
 | (refine congrArg (SV.arr _) ?_)
 | (refine congrArg (Value.int _) ?_)
 | (refine congrArg Value.bool ?_))
        all_goals rfl
      · intro i hi
        have hl5 := hMl i
        by_cases hil : i < l.length
        · have q1 := hbd.rg i hil
          have q2 := h.pre.rg i hil
          have q3 := hz i
          have q4 := hMs i
          have tm1 : Int.tmod (z.getD i 0) (jt l i - jl l i - jf l i + 1) = z.getD i 0 % (jt l i - jl l i - jf l i + 1) := tm q3.1 _
          have q5 := Int.emod_nonneg (z.getD i 0) (b := jt l i - jl l i - jf l i + 1) (by omega)
          have q6 := Int.emod_lt_of_pos (z.getD i 0) (b := jt l i - jl l i - jf l i + 1) (by omega)
          have ik : InK .i64 (z.getD i 0) := by simp only [InK]; omega
          by_cases hc : i < z.length
          · have q7 := hVy i hc
            rw [← tm1] at q5 q6 q7
            unfold jf jt jl at q5 q6 q7 q2
            repeat' (first
 | refine W.seq ?_
 | refine W.block ?_
 | (refine W.drawPh (id := 12) tys_ok [] mixed [0, 0, 0, 6, 8, 16, 0, 64, 0, 384, 512, 1024, 0, 4096, 0, 24576, 32768, 65536, 133120, 0, 524288, 0, 3145728, 4194304, 8388608, 17039360, 33554432, 67108896, 134217729, 536870911] [([0, 1, 2, 3, 4, 5, 6, 7, 8, 9, 10, 11, 12, 13, 14, 15, 16, 17, 18, 19, 20, 21, 22, 23, 24, 25, 26, 27, 28, 29], 0, 1073741823)] (by decide +kernel) ?_; conv => whnf)
 | (refine W.resub (x := Code.region 13 _ _) (Γ' := ⟨[(1, .st false (.arr (.int .u8) z)), (5, .st true (.sadr (.agg [I64 P, .arr JT l, .arr OT os]))), (6, .st true (.arr (.int .i64) (r : List Int))), (7, .lit (.int .i64 (0))), (8, .st true (.arr (.int .i64) (m : List Int))), (9, .lit (.int .i64 (E))), (10, .lit (.int .i64 (0))), (11, .own 5000), (12, .lit (.int .i64 (i))), (13, .lit (.int .i64 ((V i))))], [(5000, .row 3 (.int .i64) true ((upL V i) : List Int))]⟩) ?_ (W.region tys_ok [] ?_); rotate_left; (conv => whnf))
 | (refine W.region tys_ok [] ?_; conv => whnf)
 | (refine W.drawAll tys_ok [] mixed rfl ?_; conv => whnf)
 | (refine W.ret ?_; conv => whnf)
 | (refine W.skip ?_; conv => whnf)
 | (refine W.exit ?_; conv => whnf)
 | (refine Both.mk ?_ ?_ <;> (conv => whnf))
 | (refine W.cond rfl (fun hb => ?_) (fun hb => ?_) <;> (try simp only [Int.reduceToNat, Int.reduceTDiv, Int.reduceTMod, minL, maxL, pickB, zHB, zSH] at hb) <;> (try (first | (cases hb; done) | exact absurd hb (by decide) | (exfalso; omega) | (omega))))
 | ((with_reducible refine And.intro ?_ ?_); (focus (first | (with_reducible rfl) | omega | rfl | ((try simp only [Int.reduceToNat, Int.reduceTDiv, Int.reduceTMod, minL, maxL, pickB, zHB, zSH, InK, Path.imp, zL] at *); omega))); (conv => whnf))
 | ((with_reducible refine And.intro (Side.out ?_) ?_); rotate_left; (conv => whnf))
 | ((first | refine retF1 ?_ | refine retF2 ?_ | refine subF.leaf ?_ | refine subF.side ?_) <;> (conv => whnf) <;> repeat' (first
 | exact trivial
 | (with_reducible rfl)
 | ((with_reducible refine And.intro ?_ ?_) <;> conv => whnf)
 | omega
 | rfl
 | (refine congrArg (SV.arr _) ?_)
 | (refine congrArg (Value.int _) ?_)
 | (refine congrArg Value.bool ?_)))); all_goals (try unfold Side)
            all_goals try (repeat' (first | (with_reducible rfl) | (with_reducible refine And.intro ?_ ?_) | omega | rfl | exact Or.inl rfl | exact Or.inr rfl | exact of_decide_eq_true rfl | exact Path.imp_of (of_decide_eq_true rfl) | (focus ((try simp only [Int.reduceToNat, Int.reduceTDiv, Int.reduceTMod, minL, maxL, pickB, zHB, zSH, InK, Path.imp, zL] at *); omega)) | (refine app_le rfl ?_; omega)))
            all_goals try (first | exact Path.imp_of ik)
            all_goals try refine subF.ok ?_ <;> (conv => whnf) <;> repeat' (first
 | exact trivial
 | (with_reducible rfl)
 | ((with_reducible refine And.intro ?_ ?_) <;> conv => whnf)
 | omega
 | rfl
 | (refine congrArg (SV.arr _) ?_)
 | (refine congrArg (Value.int _) ?_)
 | (refine congrArg Value.bool ?_))
            all_goals try exact q7
            refine ⟨i + 1, ⟨by omega, by omega⟩, ?_⟩
            refine subF.ok ?_ <;> (conv => whnf) <;> repeat' (first
 | exact trivial
 | (with_reducible rfl)
 | ((with_reducible refine And.intro ?_ ?_) <;> conv => whnf)
 | omega
 | rfl
 | (refine congrArg (SV.arr _) ?_)
 | (refine congrArg (Value.int _) ?_)
 | (refine congrArg Value.bool ?_))
            all_goals exact q4
          · have q7 := hVn i hc
            unfold jf at q7
            repeat' (first
 | refine W.seq ?_
 | refine W.block ?_
 | (refine W.drawPh (id := 12) tys_ok [] mixed [0, 0, 0, 6, 8, 16, 0, 64, 0, 384, 512, 1024, 0, 4096, 0, 24576, 32768, 65536, 133120, 0, 524288, 0, 3145728, 4194304, 8388608, 17039360, 33554432, 67108896, 134217729, 536870911] [([0, 1, 2, 3, 4, 5, 6, 7, 8, 9, 10, 11, 12, 13, 14, 15, 16, 17, 18, 19, 20, 21, 22, 23, 24, 25, 26, 27, 28, 29], 0, 1073741823)] (by decide +kernel) ?_; conv => whnf)
 | (refine W.resub (x := Code.region 13 _ _) (Γ' := ⟨[(1, .st false (.arr (.int .u8) z)), (5, .st true (.sadr (.agg [I64 P, .arr JT l, .arr OT os]))), (6, .st true (.arr (.int .i64) (r : List Int))), (7, .lit (.int .i64 (0))), (8, .st true (.arr (.int .i64) (m : List Int))), (9, .lit (.int .i64 (E))), (10, .lit (.int .i64 (0))), (11, .own 5000), (12, .lit (.int .i64 (i))), (13, .lit (.int .i64 ((V i))))], [(5000, .row 3 (.int .i64) true ((upL V i) : List Int))]⟩) ?_ (W.region tys_ok [] ?_); rotate_left; (conv => whnf))
 | (refine W.region tys_ok [] ?_; conv => whnf)
 | (refine W.drawAll tys_ok [] mixed rfl ?_; conv => whnf)
 | (refine W.ret ?_; conv => whnf)
 | (refine W.skip ?_; conv => whnf)
 | (refine W.exit ?_; conv => whnf)
 | (refine Both.mk ?_ ?_ <;> (conv => whnf))
 | (refine W.cond rfl (fun hb => ?_) (fun hb => ?_) <;> (try simp only [Int.reduceToNat, Int.reduceTDiv, Int.reduceTMod, minL, maxL, pickB, zHB, zSH] at hb) <;> (try (first | (cases hb; done) | exact absurd hb (by decide) | (exfalso; omega) | (omega))))
 | ((with_reducible refine And.intro ?_ ?_); (focus (first | (with_reducible rfl) | omega | rfl | ((try simp only [Int.reduceToNat, Int.reduceTDiv, Int.reduceTMod, minL, maxL, pickB, zHB, zSH, InK, Path.imp, zL] at *); omega))); (conv => whnf))
 | ((with_reducible refine And.intro (Side.out ?_) ?_); rotate_left; (conv => whnf))
 | ((first | refine retF1 ?_ | refine retF2 ?_ | refine subF.leaf ?_ | refine subF.side ?_) <;> (conv => whnf) <;> repeat' (first
 | exact trivial
 | (with_reducible rfl)
 | ((with_reducible refine And.intro ?_ ?_) <;> conv => whnf)
 | omega
 | rfl
 | (refine congrArg (SV.arr _) ?_)
 | (refine congrArg (Value.int _) ?_)
 | (refine congrArg Value.bool ?_)))); all_goals (try unfold Side)
            all_goals try (repeat' (first | (with_reducible rfl) | (with_reducible refine And.intro ?_ ?_) | omega | rfl | exact Or.inl rfl | exact Or.inr rfl | exact of_decide_eq_true rfl | exact Path.imp_of (of_decide_eq_true rfl) | (focus ((try simp only [Int.reduceToNat, Int.reduceTDiv, Int.reduceTMod, minL, maxL, pickB, zHB, zSH, InK, Path.imp, zL] at *); omega)) | (refine app_le rfl ?_; omega)))
            all_goals try refine subF.ok ?_ <;> (conv => whnf) <;> repeat' (first
 | exact trivial
 | (with_reducible rfl)
 | ((with_reducible refine And.intro ?_ ?_) <;> conv => whnf)
 | omega
 | rfl
 | (refine congrArg (SV.arr _) ?_)
 | (refine congrArg (Value.int _) ?_)
 | (refine congrArg Value.bool ?_))
            all_goals try exact q7
            refine ⟨i + 1, ⟨by omega, by omega⟩, ?_⟩
            refine subF.ok ?_ <;> (conv => whnf) <;> repeat' (first
 | exact trivial
 | (with_reducible rfl)
 | ((with_reducible refine And.intro ?_ ?_) <;> conv => whnf)
 | omega
 | rfl
 | (refine congrArg (SV.arr _) ?_)
 | (refine congrArg (Value.int _) ?_)
 | (refine congrArg Value.bool ?_))
            all_goals exact q4
        · have hie : l.length = i := by omega
          subst hie
          repeat' (first
 | refine W.seq ?_
 | refine W.block ?_
 | (refine W.resub (x := Code.region 14 _ _) (Γ' := ⟨[(1, .st false (.arr (.int .u8) z)), (5, .st true (.sadr (.agg [I64 P, .arr JT l, .arr OT os]))), (6, .st true (.arr (.int .i64) (r : List Int))), (7, .lit (.int .i64 (0))), (8, .st true (.arr (.int .i64) (m : List Int))), (9, .lit (.int .i64 (E))), (10, .lit (.int .i64 (0))), (11, .st true (.arr (.int .i64) (upL V l.length : List Int)))], []⟩) ?_ (W.region tys_ok [] ?_); rotate_left; (conv => whnf))
 | (refine W.resub (x := Code.region 19 _ _) (Γ' := ⟨[(1, .st false (.arr (.int .u8) z)), (5, .st true (.sadr (.agg [I64 P, .arr JT l, .arr OT os]))), (6, .st true (.arr (.int .i64) (r : List Int))), (7, .lit (.int .i64 (0))), (8, .st true (.arr (.int .i64) (m : List Int))), (9, .lit (.int .i64 (E))), (10, .lit (.int .i64 (0))), (14, .lit (.bool (false)))], []⟩) ?_ (W.drawPh (id := 19) tys_ok [] mixed [0, 1, 0, 4, 8, 18, 32, 64, 192, 64, 576, 1088, 2368, 4160, 8256, 16384, 16384, 114688, 147456, 278528, 655360, 1048576, 1048576, 7340032, 9437184, 17825792, 41943040, 67108864, 67108864, 469762048, 67108864, 1677721600, 2214592512, 4831838208, 8589934592, 8589934592, 60129542144, 8589934592, 214748364800, 283467841536] [([0, 1, 2, 3, 4, 5, 6, 7, 8, 9, 10, 11, 12, 13, 14, 15, 16], 1, 262143), ([18, 19, 20, 21, 22], 1, 16777215), ([24, 25, 26, 27, 28, 30], 1, 2147483647), ([31, 32, 33, 34, 35, 37], 1, 274877906943), ([38, 39], 0, 1099511627775)] (by decide +kernel) ?_); rotate_left; (conv => whnf))
 | (refine W.region tys_ok [] ?_; conv => whnf)
 | (refine W.drawAll tys_ok [] mixed rfl ?_; conv => whnf)
 | (refine W.ret ?_; conv => whnf)
 | (refine W.skip ?_; conv => whnf)
 | (refine W.exit ?_; conv => whnf)
 | (refine call_at (al := false) (hf) rfl rfl rfl rfl ?_; conv => whnf)
 | (refine call_at (al := false) (fr) rfl rfl rfl rfl ?_; conv => whnf)
 | (refine call_at (al := false) (fm) rfl rfl rfl rfl ?_; conv => whnf)
 | (refine call_at (al := false) (er) rfl rfl rfl rfl ?_; conv => whnf)
 | (refine call_at (al := false) (em) rfl rfl rfl rfl ?_; conv => whnf)
 | (refine Both.mk ?_ ?_ <;> (conv => whnf))
 | (refine W.cond rfl (fun hb => ?_) (fun hb => ?_) <;> (try simp only [Int.reduceToNat, Int.reduceTDiv, Int.reduceTMod, minL, maxL, pickB, zHB, zSH] at hb) <;> (try (first | (cases hb; done) | exact absurd hb (by decide) | (exfalso; omega) | (omega))))
 | ((with_reducible refine And.intro ?_ ?_); (focus (first | (with_reducible rfl) | omega | rfl | ((try simp only [Int.reduceToNat, Int.reduceTDiv, Int.reduceTMod, minL, maxL, pickB, zHB, zSH, InK, Path.imp, zL] at *); omega))); (conv => whnf))
 | ((with_reducible refine And.intro (Side.out ?_) ?_); rotate_left; (conv => whnf))
 | ((first | refine retF1 ?_ | refine retF2 ?_ | refine subF.leaf ?_ | refine subF.side ?_) <;> (conv => whnf) <;> repeat' (first
 | exact trivial
 | (with_reducible rfl)
 | ((with_reducible refine And.intro ?_ ?_) <;> conv => whnf)
 | omega
 | rfl
 | (refine congrArg (SV.arr _) ?_)
 | (refine congrArg (Value.int _) ?_)
 | (refine congrArg Value.bool ?_)))); all_goals (try unfold Side)
          all_goals try (repeat' (first | (with_reducible rfl) | (with_reducible refine And.intro ?_ ?_) | omega | rfl | exact Or.inl rfl | exact Or.inr rfl | exact of_decide_eq_true rfl | exact Path.imp_of (of_decide_eq_true rfl) | (focus ((try simp only [Int.reduceToNat, Int.reduceTDiv, Int.reduceTMod, minL, maxL, pickB, zHB, zSH, InK, Path.imp, zL] at *); omega)) | (refine app_le rfl ?_; omega)))
          all_goals try refine subF.ok ?_ <;> (conv => whnf) <;> repeat' (first
 | exact trivial
 | (with_reducible rfl)
 | ((with_reducible refine And.intro ?_ ?_) <;> conv => whnf)
 | omega
 | rfl
 | (refine congrArg (SV.arr _) ?_)
 | (refine congrArg (Value.int _) ?_)
 | (refine congrArg Value.bool ?_))
    | true =>
      have hf := hff true hb
      obtain ⟨s1, s2, s3⟩ := fit_rg h (fitB_iff.1 hb)
      have hs := fitB_iff.1 hb
      have hEs := (g5 _ hs).1
      have hlx := h3 _ hs
      have es := endR_at (P := P) (os := os) hbd (Nat.le_of_eq s1) (fun i hi => by have := s2 i hi; omega)
      refine FnAt.of_body tys_ok Try.func11 (by rfl) rfl Try.ntmps11 (by rw [Try.results11]) (by simp) ?_
  
      repeat' (first
 | refine W.seq ?_
 | refine W.block ?_
 | (refine W.resub (x := Code.region 2 _ _) (Γ' := ⟨[(1, .st false (.arr (.int .u8) z)), (5, .st true (.sadr (.agg [I64 P, .arr JT l, .arr OT os])))], []⟩) ?_ (W.region tys_ok [] ?_); rotate_left; (conv => whnf))
 | (refine W.resub (x := Code.region 4 _ _) (Γ' := ⟨[(1, .st false (.arr (.int .u8) z)), (5, .st true (.sadr (.agg [I64 P, .arr JT l, .arr OT os]))), (6, .st true (.arr (.int .i64) (r : List Int))), (7, .lit (.int .i64 (0))), (8, .st true (.arr (.int .i64) (m : List Int))), (9, .lit (.int .i64 (E))), (10, .lit (.int .i64 (0)))], []⟩) ?_ (W.drawPh (id := 4) tys_ok [] mixed [0, 0, 3, 4, 8, 24, 40, 64, 192, 328, 520, 1088, 2048, 6144, 10240] [([0, 1, 2, 3, 4, 5, 6, 7, 8, 9, 10, 11], 1, 8191), ([13, 14], 0, 32767)] (by decide +kernel) ?_); rotate_left; (conv => whnf))
 | (refine W.region tys_ok [] ?_; conv => whnf)
 | (refine W.drawAll tys_ok [] mixed rfl ?_; conv => whnf)
 | (refine W.ret ?_; conv => whnf)
 | (refine W.skip ?_; conv => whnf)
 | (refine W.exit ?_; conv => whnf)
 | (refine call_at (al := false) (hmk) rfl rfl rfl rfl ?_; conv => whnf)
 | (refine call_at (al := true) (c1) rfl rfl rfl rfl ?_; conv => whnf)
 | (refine call_at (al := true) (c2) rfl rfl rfl rfl ?_; conv => whnf)
 | (refine call_at (al := false) (lives_at) rfl rfl rfl rfl ?_; conv => whnf)
 | (refine Both.mk ?_ ?_ <;> (conv => whnf))
 | (refine W.cond rfl (fun hb => ?_) (fun hb => ?_) <;> (try simp only [Int.reduceToNat, Int.reduceTDiv, Int.reduceTMod, minL, maxL, pickB, zHB, zSH] at hb) <;> (try (first | (cases hb; done) | exact absurd hb (by decide) | (exfalso; omega) | (omega))))
 | ((with_reducible refine And.intro ?_ ?_); (focus (first | (with_reducible rfl) | omega | rfl | ((try simp only [Int.reduceToNat, Int.reduceTDiv, Int.reduceTMod, minL, maxL, pickB, zHB, zSH, InK, Path.imp, zL] at *); omega))); (conv => whnf))
 | ((with_reducible refine And.intro (Side.out ?_) ?_); rotate_left; (conv => whnf))
 | ((first | refine retF1 ?_ | refine retF2 ?_ | refine subF.leaf ?_ | refine subF.side ?_) <;> (conv => whnf) <;> repeat' (first
 | exact trivial
 | (with_reducible rfl)
 | ((with_reducible refine And.intro ?_ ?_) <;> conv => whnf)
 | omega
 | rfl
 | (refine congrArg (SV.arr _) ?_)
 | (refine congrArg (Value.int _) ?_)
 | (refine congrArg Value.bool ?_)))); all_goals (try unfold Side)
      all_goals try (repeat' (first | (with_reducible rfl) | (with_reducible refine And.intro ?_ ?_) | omega | rfl | exact Or.inl rfl | exact Or.inr rfl | exact of_decide_eq_true rfl | exact Path.imp_of (of_decide_eq_true rfl) | (focus ((try simp only [Int.reduceToNat, Int.reduceTDiv, Int.reduceTMod, minL, maxL, pickB, zHB, zSH, InK, Path.imp, zL] at *); omega)) | (refine app_le rfl ?_; omega)))
      all_goals try refine subF.ok ?_ <;> (conv => whnf) <;> repeat' (first
 | exact trivial
 | (with_reducible rfl)
 | ((with_reducible refine And.intro ?_ ?_) <;> conv => whnf)
 | omega
 | rfl
 | (refine congrArg (SV.arr _) ?_)
 | (refine congrArg (Value.int _) ?_)
 | (refine congrArg Value.bool ?_))
      refine W.loop (fun i : Nat => ⟨[(1, .st false (.arr (.int .u8) z)), (5, .st true (.sadr (.agg [I64 P, .arr JT l, .arr OT os]))), (6, .st true (.arr (.int .i64) (r : List Int))), (7, .lit (.int .i64 (0))), (8, .st true (.arr (.int .i64) (m : List Int))), (9, .lit (.int .i64 (E))), (10, .lit (.int .i64 (0))), (11, .own 5000), (12, .lit (.int .i64 (i)))], [(5000, .row 3 (.int .i64) true ((upL V i) : List Int))]⟩) (fun i => i ≤ l.length) (fun i => l.length - i) (0) ?_ ?_
      · refine ⟨Nat.zero_le _, ?_⟩
        refine subF.ok ?_ <;> (conv => whnf) <;> repeat' (first
 | exact trivial
 | (with_reducible rfl)
 | ((with_reducible refine And.intro ?_ ?_) <;> conv => whnf)
 | omega
 | rfl
 | (refine congrArg (SV.arr _) ?_)
 | (refine congrArg (Value.int _) ?_)
 | (refine congrArg Value.bool ?_))
        all_goals rfl
      · intro i hi
        have hl5 := hMl i
        by_cases hil : i < l.length
        · have q1 := hbd.rg i hil
          have q2 := h.pre.rg i hil
          have q3 := hz i
          have q4 := hMs i
          have tm1 : Int.tmod (z.getD i 0) (jt l i - jl l i - jf l i + 1) = z.getD i 0 % (jt l i - jl l i - jf l i + 1) := tm q3.1 _
          have q5 := Int.emod_nonneg (z.getD i 0) (b := jt l i - jl l i - jf l i + 1) (by omega)
          have q6 := Int.emod_lt_of_pos (z.getD i 0) (b := jt l i - jl l i - jf l i + 1) (by omega)
          have ik : InK .i64 (z.getD i 0) := by simp only [InK]; omega
          by_cases hc : i < z.length
          · have q7 := hVy i hc
            rw [← tm1] at q5 q6 q7
            unfold jf jt jl at q5 q6 q7 q2
            repeat' (first
 | refine W.seq ?_
 | refine W.block ?_
 | (refine W.drawPh (id := 12) tys_ok [] mixed [0, 0, 0, 6, 8, 16, 0, 64, 0, 384, 512, 1024, 0, 4096, 0, 24576, 32768, 65536, 133120, 0, 524288, 0, 3145728, 4194304, 8388608, 17039360, 33554432, 67108896, 134217729, 536870911] [([0, 1, 2, 3, 4, 5, 6, 7, 8, 9, 10, 11, 12, 13, 14, 15, 16, 17, 18, 19, 20, 21, 22, 23, 24, 25, 26, 27, 28, 29], 0, 1073741823)] (by decide +kernel) ?_; conv => whnf)
 | (refine W.resub (x := Code.region 13 _ _) (Γ' := ⟨[(1, .st false (.arr (.int .u8) z)), (5, .st true (.sadr (.agg [I64 P, .arr JT l, .arr OT os]))), (6, .st true (.arr (.int .i64) (r : List Int))), (7, .lit (.int .i64 (0))), (8, .st true (.arr (.int .i64) (m : List Int))), (9, .lit (.int .i64 (E))), (10, .lit (.int .i64 (0))), (11, .own 5000), (12, .lit (.int .i64 (i))), (13, .lit (.int .i64 ((V i))))], [(5000, .row 3 (.int .i64) true ((upL V i) : List Int))]⟩) ?_ (W.region tys_ok [] ?_); rotate_left; (conv => whnf))
 | (refine W.region tys_ok [] ?_; conv => whnf)
 | (refine W.drawAll tys_ok [] mixed rfl ?_; conv => whnf)
 | (refine W.ret ?_; conv => whnf)
 | (refine W.skip ?_; conv => whnf)
 | (refine W.exit ?_; conv => whnf)
 | (refine Both.mk ?_ ?_ <;> (conv => whnf))
 | (refine W.cond rfl (fun hb => ?_) (fun hb => ?_) <;> (try simp only [Int.reduceToNat, Int.reduceTDiv, Int.reduceTMod, minL, maxL, pickB, zHB, zSH] at hb) <;> (try (first | (cases hb; done) | exact absurd hb (by decide) | (exfalso; omega) | (omega))))
 | ((with_reducible refine And.intro ?_ ?_); (focus (first | (with_reducible rfl) | omega | rfl | ((try simp only [Int.reduceToNat, Int.reduceTDiv, Int.reduceTMod, minL, maxL, pickB, zHB, zSH, InK, Path.imp, zL] at *); omega))); (conv => whnf))
 | ((with_reducible refine And.intro (Side.out ?_) ?_); rotate_left; (conv => whnf))
 | ((first | refine retF1 ?_ | refine retF2 ?_ | refine subF.leaf ?_ | refine subF.side ?_) <;> (conv => whnf) <;> repeat' (first
 | exact trivial
 | (with_reducible rfl)
 | ((with_reducible refine And.intro ?_ ?_) <;> conv => whnf)
 | omega
 | rfl
 | (refine congrArg (SV.arr _) ?_)
 | (refine congrArg (Value.int _) ?_)
 | (refine congrArg Value.bool ?_)))); all_goals (try unfold Side)
            all_goals try (repeat' (first | (with_reducible rfl) | (with_reducible refine And.intro ?_ ?_) | omega | rfl | exact Or.inl rfl | exact Or.inr rfl | exact of_decide_eq_true rfl | exact Path.imp_of (of_decide_eq_true rfl) | (focus ((try simp only [Int.reduceToNat, Int.reduceTDiv, Int.reduceTMod, minL, maxL, pickB, zHB, zSH, InK, Path.imp, zL] at *); omega)) | (refine app_le rfl ?_; omega)))
            all_goals try (first | exact Path.imp_of ik)
            all_goals try refine subF.ok ?_ <;> (conv => whnf) <;> repeat' (first
 | exact trivial
 | (with_reducible rfl)
 | ((with_reducible refine And.intro ?_ ?_) <;> conv => whnf)
 | omega
 | rfl
 | (refine congrArg (SV.arr _) ?_)
 | (refine congrArg (Value.int _) ?_)
 | (refine congrArg Value.bool ?_))
            all_goals try exact q7
            refine ⟨i + 1, ⟨by omega, by omega⟩, ?_⟩
            refine subF.ok ?_ <;> (conv => whnf) <;> repeat' (first
 | exact trivial
 | (with_reducible rfl)
 | ((with_reducible refine And.intro ?_ ?_) <;> conv => whnf)
 | omega
 | rfl
 | (refine congrArg (SV.arr _) ?_)
 | (refine congrArg (Value.int _) ?_)
 | (refine congrArg Value.bool ?_))
            all_goals exact q4
          · have q7 := hVn i hc
            unfold jf at q7
            repeat' (first
 | refine W.seq ?_
 | refine W.block ?_
 | (refine W.drawPh (id := 12) tys_ok [] mixed [0, 0, 0, 6, 8, 16, 0, 64, 0, 384, 512, 1024, 0, 4096, 0, 24576, 32768, 65536, 133120, 0, 524288, 0, 3145728, 4194304, 8388608, 17039360, 33554432, 67108896, 134217729, 536870911] [([0, 1, 2, 3, 4, 5, 6, 7, 8, 9, 10, 11, 12, 13, 14, 15, 16, 17, 18, 19, 20, 21, 22, 23, 24, 25, 26, 27, 28, 29], 0, 1073741823)] (by decide +kernel) ?_; conv => whnf)
 | (refine W.resub (x := Code.region 13 _ _) (Γ' := ⟨[(1, .st false (.arr (.int .u8) z)), (5, .st true (.sadr (.agg [I64 P, .arr JT l, .arr OT os]))), (6, .st true (.arr (.int .i64) (r : List Int))), (7, .lit (.int .i64 (0))), (8, .st true (.arr (.int .i64) (m : List Int))), (9, .lit (.int .i64 (E))), (10, .lit (.int .i64 (0))), (11, .own 5000), (12, .lit (.int .i64 (i))), (13, .lit (.int .i64 ((V i))))], [(5000, .row 3 (.int .i64) true ((upL V i) : List Int))]⟩) ?_ (W.region tys_ok [] ?_); rotate_left; (conv => whnf))
 | (refine W.region tys_ok [] ?_; conv => whnf)
 | (refine W.drawAll tys_ok [] mixed rfl ?_; conv => whnf)
 | (refine W.ret ?_; conv => whnf)
 | (refine W.skip ?_; conv => whnf)
 | (refine W.exit ?_; conv => whnf)
 | (refine Both.mk ?_ ?_ <;> (conv => whnf))
 | (refine W.cond rfl (fun hb => ?_) (fun hb => ?_) <;> (try simp only [Int.reduceToNat, Int.reduceTDiv, Int.reduceTMod, minL, maxL, pickB, zHB, zSH] at hb) <;> (try (first | (cases hb; done) | exact absurd hb (by decide) | (exfalso; omega) | (omega))))
 | ((with_reducible refine And.intro ?_ ?_); (focus (first | (with_reducible rfl) | omega | rfl | ((try simp only [Int.reduceToNat, Int.reduceTDiv, Int.reduceTMod, minL, maxL, pickB, zHB, zSH, InK, Path.imp, zL] at *); omega))); (conv => whnf))
 | ((with_reducible refine And.intro (Side.out ?_) ?_); rotate_left; (conv => whnf))
 | ((first | refine retF1 ?_ | refine retF2 ?_ | refine subF.leaf ?_ | refine subF.side ?_) <;> (conv => whnf) <;> repeat' (first
 | exact trivial
 | (with_reducible rfl)
 | ((with_reducible refine And.intro ?_ ?_) <;> conv => whnf)
 | omega
 | rfl
 | (refine congrArg (SV.arr _) ?_)
 | (refine congrArg (Value.int _) ?_)
 | (refine congrArg Value.bool ?_)))); all_goals (try unfold Side)
            all_goals try (repeat' (first | (with_reducible rfl) | (with_reducible refine And.intro ?_ ?_) | omega | rfl | exact Or.inl rfl | exact Or.inr rfl | exact of_decide_eq_true rfl | exact Path.imp_of (of_decide_eq_true rfl) | (focus ((try simp only [Int.reduceToNat, Int.reduceTDiv, Int.reduceTMod, minL, maxL, pickB, zHB, zSH, InK, Path.imp, zL] at *); omega)) | (refine app_le rfl ?_; omega)))
            all_goals try refine subF.ok ?_ <;> (conv => whnf) <;> repeat' (first
 | exact trivial
 | (with_reducible rfl)
 | ((with_reducible refine And.intro ?_ ?_) <;> conv => whnf)
 | omega
 | rfl
 | (refine congrArg (SV.arr _) ?_)
 | (refine congrArg (Value.int _) ?_)
 | (refine congrArg Value.bool ?_))
            all_goals try exact q7
            refine ⟨i + 1, ⟨by omega, by omega⟩, ?_⟩
            refine subF.ok ?_ <;> (conv => whnf) <;> repeat' (first
 | exact trivial
 | (with_reducible rfl)
 | ((with_reducible refine And.intro ?_ ?_) <;> conv => whnf)
 | omega
 | rfl
 | (refine congrArg (SV.arr _) ?_)
 | (refine congrArg (Value.int _) ?_)
 | (refine congrArg Value.bool ?_))
            all_goals exact q4
        · have hie : l.length = i := by omega
          subst hie
          obtain ⟨s, hsd⟩ : ∃ s, s = upL V l.length := ⟨_, rfl⟩
          rw [← hsd] at hf s1 s2 s3 hEs hlx es
          have hls : @List.length (Ty.int .i64).T s = l.length := s1
          repeat' (first
 | refine W.seq ?_
 | refine W.block ?_
 | (refine W.resub (x := Code.region 14 _ _) (Γ' := ⟨[(1, .st false (.arr (.int .u8) z)), (5, .st true (.sadr (.agg [I64 P, .arr JT l, .arr OT os]))), (6, .st true (.arr (.int .i64) (r : List Int))), (7, .lit (.int .i64 (0))), (8, .st true (.arr (.int .i64) (m : List Int))), (9, .lit (.int .i64 (E))), (10, .lit (.int .i64 (0))), (11, .st true (.arr (.int .i64) (s : List Int)))], []⟩) ?_ (W.region tys_ok [] ?_); rotate_left; (conv => whnf))
 | (refine W.resub (x := Code.region 19 _ _) (Γ' := ⟨[(1, .st false (.arr (.int .u8) z)), (5, .st true (.sadr (.agg [I64 P, .arr JT l, .arr OT os]))), (6, .st true (.arr (.int .i64) (r : List Int))), (7, .lit (.int .i64 (0))), (8, .st true (.arr (.int .i64) (m : List Int))), (9, .lit (.int .i64 (E))), (10, .lit (.int .i64 (0))), (11, .st true (.arr (.int .i64) (s : List Int))), (14, .lit (.bool (true)))], []⟩) ?_ (W.drawPh (id := 19) tys_ok [] mixed [0, 1, 0, 4, 8, 18, 32, 64, 192, 64, 576, 1088, 2368, 4160, 8256, 16384, 16384, 114688, 147456, 278528, 655360, 1048576, 1048576, 7340032, 9437184, 17825792, 41943040, 67108864, 67108864, 469762048, 67108864, 1677721600, 2214592512, 4831838208, 8589934592, 8589934592, 60129542144, 8589934592, 214748364800, 283467841536] [([0, 1, 2, 3, 4, 5, 6, 7, 8, 9, 10, 11, 12, 13, 14, 15, 16], 1, 262143), ([18, 19, 20, 21, 22], 1, 16777215), ([24, 25, 26, 27, 28, 30], 1, 2147483647), ([31, 32, 33, 34, 35, 37], 1, 274877906943), ([38, 39], 0, 1099511627775)] (by decide +kernel) ?_); rotate_left; (conv => whnf))
 | (refine W.region tys_ok [] ?_; conv => whnf)
 | (refine W.drawAll tys_ok [] mixed rfl ?_; conv => whnf)
 | (refine W.ret ?_; conv => whnf)
 | (refine W.skip ?_; conv => whnf)
 | (refine W.exit ?_; conv => whnf)
 | (refine call_at (al := false) (hf) rfl rfl rfl rfl ?_; conv => whnf)
 | (refine call_at (al := false) (fr) rfl rfl rfl rfl ?_; conv => whnf)
 | (refine call_at (al := false) (fm) rfl rfl rfl rfl ?_; conv => whnf)
 | (refine call_at (al := false) (es) rfl rfl rfl rfl ?_; conv => whnf)
 | (refine call_at (al := false) (er) rfl rfl rfl rfl ?_; conv => whnf)
 | (refine call_at (al := false) (em) rfl rfl rfl rfl ?_; conv => whnf)
 | (refine Both.mk ?_ ?_ <;> (conv => whnf))
 | (refine W.cond rfl (fun hb => ?_) (fun hb => ?_) <;> (try simp only [Int.reduceToNat, Int.reduceTDiv, Int.reduceTMod, minL, maxL, pickB, zHB, zSH] at hb) <;> (try (first | (cases hb; done) | exact absurd hb (by decide) | (exfalso; omega) | (omega))))
 | ((with_reducible refine And.intro ?_ ?_); (focus (first | (with_reducible rfl) | omega | rfl | ((try simp only [Int.reduceToNat, Int.reduceTDiv, Int.reduceTMod, minL, maxL, pickB, zHB, zSH, InK, Path.imp, zL] at *); omega))); (conv => whnf))
 | ((with_reducible refine And.intro (Side.out ?_) ?_); rotate_left; (conv => whnf))
 | ((first | refine retF1 ?_ | refine retF2 ?_ | refine subF.leaf ?_ | refine subF.side ?_) <;> (conv => whnf) <;> repeat' (first
 | exact trivial
 | (with_reducible rfl)
 | ((with_reducible refine And.intro ?_ ?_) <;> conv => whnf)
 | omega
 | rfl
 | (refine congrArg (SV.arr _) ?_)
 | (refine congrArg (Value.int _) ?_)
 | (refine congrArg Value.bool ?_)))); all_goals (try unfold Side)
          all_goals try (repeat' (first | (with_reducible rfl) | (with_reducible refine And.intro ?_ ?_) | omega | rfl | exact Or.inl rfl | exact Or.inr rfl | exact of_decide_eq_true rfl | exact Path.imp_of (of_decide_eq_true rfl) | (focus ((try simp only [Int.reduceToNat, Int.reduceTDiv, Int.reduceTMod, minL, maxL, pickB, zHB, zSH, InK, Path.imp, zL] at *); omega)) | (refine app_le rfl ?_; omega)))
          all_goals try refine subF.ok ?_ <;> (conv => whnf) <;> repeat' (first
 | exact trivial
 | (with_reducible rfl)
 | ((with_reducible refine And.intro ?_ ?_) <;> conv => whnf)
 | omega
 | rfl
 | (refine congrArg (SV.arr _) ?_)
 | (refine congrArg (Value.int _) ?_)
 | (refine congrArg Value.bool ?_))
          all_goals try exact hsd.symm
          refine W.loop (fun k : Nat => ⟨[(6, .st true (.arr (.int .i64) (r : List Int))), (11, .st true (.arr (.int .i64) (s : List Int))), (16, .lit (.int .i64 (k)))], []⟩) (fun k => k ≤ l.length ∧ (∀ j, j < k → r.getD j 0 = s.getD j 0)) (fun k => l.length - k) (0) ?_ ?_
          · refine ⟨⟨Nat.zero_le _, by omega⟩, ?_⟩
            refine subF.ok ?_ <;> (conv => whnf) <;> repeat' (first
 | exact trivial
 | (with_reducible rfl)
 | ((with_reducible refine And.intro ?_ ?_) <;> conv => whnf)
 | omega
 | rfl
 | (refine congrArg (SV.arr _) ?_)
 | (refine congrArg (Value.int _) ?_)
 | (refine congrArg Value.bool ?_))
          · rintro k ⟨hk, hkj⟩
            by_cases hkl : k < l.length
            · by_cases hc : r.getD k 0 = s.getD k 0
              · repeat' (first
 | refine W.seq ?_
 | refine W.block ?_
 | (refine W.drawPh (id := 28) tys_ok [] mixed [0, 0, 3, 4, 0, 0, 48, 64, 136] [([0, 1, 2, 3, 4, 5, 6, 7, 8], 0, 511)] (by decide +kernel) ?_; conv => whnf)
 | (refine W.drawPh (id := 29) tys_ok [] mixed [0, 0, 3, 4, 0, 0, 48, 64, 136, 511] [([0, 1, 2, 3, 4, 5, 6, 7, 8, 9], 0, 1023)] (by decide +kernel) ?_; conv => whnf)
 | (refine W.region tys_ok [] ?_; conv => whnf)
 | (refine W.drawAll tys_ok [] mixed rfl ?_; conv => whnf)
 | (refine W.ret ?_; conv => whnf)
 | (refine W.skip ?_; conv => whnf)
 | (refine W.exit ?_; conv => whnf)
 | (refine Both.mk ?_ ?_ <;> (conv => whnf))
 | (refine W.cond rfl (fun hb => ?_) (fun hb => ?_) <;> (try simp only [Int.reduceToNat, Int.reduceTDiv, Int.reduceTMod, minL, maxL, pickB, zHB, zSH] at hb) <;> (try (first | (cases hb; done) | exact absurd hb (by decide) | (exfalso; omega) | (omega))))
 | ((with_reducible refine And.intro ?_ ?_); (focus (first | (with_reducible rfl) | omega | rfl | ((try simp only [Int.reduceToNat, Int.reduceTDiv, Int.reduceTMod, minL, maxL, pickB, zHB, zSH, InK, Path.imp, zL] at *); omega))); (conv => whnf))
 | ((with_reducible refine And.intro (Side.out ?_) ?_); rotate_left; (conv => whnf))
 | ((first | refine retF1 ?_ | refine retF2 ?_ | refine subF.leaf ?_ | refine subF.side ?_) <;> (conv => whnf) <;> repeat' (first
 | exact trivial
 | (with_reducible rfl)
 | ((with_reducible refine And.intro ?_ ?_) <;> conv => whnf)
 | omega
 | rfl
 | (refine congrArg (SV.arr _) ?_)
 | (refine congrArg (Value.int _) ?_)
 | (refine congrArg Value.bool ?_)))); all_goals (try unfold Side)
                all_goals try (repeat' (first | (with_reducible rfl) | (with_reducible refine And.intro ?_ ?_) | omega | rfl | exact Or.inl rfl | exact Or.inr rfl | exact of_decide_eq_true rfl | exact Path.imp_of (of_decide_eq_true rfl) | (focus ((try simp only [Int.reduceToNat, Int.reduceTDiv, Int.reduceTMod, minL, maxL, pickB, zHB, zSH, InK, Path.imp, zL] at *); omega)) | (refine app_le rfl ?_; omega)))
                refine ⟨k + 1, ⟨⟨by omega, fun m' hm' => ?_⟩, by omega⟩, ?_⟩
                · by_cases e2 : m' = k
                  · subst e2; exact hc
                  · exact hkj m' (by omega)
                · refine subF.ok ?_ <;> (conv => whnf) <;> repeat' (first
 | exact trivial
 | (with_reducible rfl)
 | ((with_reducible refine And.intro ?_ ?_) <;> conv => whnf)
 | omega
 | rfl
 | (refine congrArg (SV.arr _) ?_)
 | (refine congrArg (Value.int _) ?_)
 | (refine congrArg Value.bool ?_))
              · have hlt := lexle_at hlx (i := k) (by omega) hkj hc
                repeat' (first
 | refine W.seq ?_
 | refine W.block ?_
 | (refine W.drawPh (id := 28) tys_ok [] mixed [0, 0, 3, 4, 0, 0, 48, 64, 136] [([0, 1, 2, 3, 4, 5, 6, 7, 8], 0, 511)] (by decide +kernel) ?_; conv => whnf)
 | (refine W.drawPh (id := 29) tys_ok [] mixed [0, 0, 3, 4, 0, 0, 48, 64, 136, 511] [([0, 1, 2, 3, 4, 5, 6, 7, 8, 9], 0, 1023)] (by decide +kernel) ?_; conv => whnf)
 | (refine W.region tys_ok [] ?_; conv => whnf)
 | (refine W.drawAll tys_ok [] mixed rfl ?_; conv => whnf)
 | (refine W.ret ?_; conv => whnf)
 | (refine W.skip ?_; conv => whnf)
 | (refine W.exit ?_; conv => whnf)
 | (refine Both.mk ?_ ?_ <;> (conv => whnf))
 | (refine W.cond rfl (fun hb => ?_) (fun hb => ?_) <;> (try simp only [Int.reduceToNat, Int.reduceTDiv, Int.reduceTMod, minL, maxL, pickB, zHB, zSH] at hb) <;> (try (first | (cases hb; done) | exact absurd hb (by decide) | (exfalso; omega) | (omega))))
 | ((with_reducible refine And.intro ?_ ?_); (focus (first | (with_reducible rfl) | omega | rfl | ((try simp only [Int.reduceToNat, Int.reduceTDiv, Int.reduceTMod, minL, maxL, pickB, zHB, zSH, InK, Path.imp, zL] at *); omega))); (conv => whnf))
 | ((with_reducible refine And.intro (Side.out ?_) ?_); rotate_left; (conv => whnf))
 | ((first | refine retF1 ?_ | refine retF2 ?_ | refine subF.leaf ?_ | refine subF.side ?_) <;> (conv => whnf) <;> repeat' (first
 | exact trivial
 | (with_reducible rfl)
 | ((with_reducible refine And.intro ?_ ?_) <;> conv => whnf)
 | omega
 | rfl
 | (refine congrArg (SV.arr _) ?_)
 | (refine congrArg (Value.int _) ?_)
 | (refine congrArg Value.bool ?_)))); all_goals (try unfold Side)
                all_goals try (repeat' (first | (with_reducible rfl) | (with_reducible refine And.intro ?_ ?_) | omega | rfl | exact Or.inl rfl | exact Or.inr rfl | exact of_decide_eq_true rfl | exact Path.imp_of (of_decide_eq_true rfl) | (focus ((try simp only [Int.reduceToNat, Int.reduceTDiv, Int.reduceTMod, minL, maxL, pickB, zHB, zSH, InK, Path.imp, zL] at *); omega)) | (refine app_le rfl ?_; omega)))
                all_goals try exact (decide_eq_true hlt).symm
            · have hke : l.length = k := by omega
              subst hke
              repeat' (first
 | refine W.seq ?_
 | refine W.block ?_
 | (refine W.region tys_ok [] ?_; conv => whnf)
 | (refine W.drawAll tys_ok [] mixed rfl ?_; conv => whnf)
 | (refine W.ret ?_; conv => whnf)
 | (refine W.skip ?_; conv => whnf)
 | (refine W.exit ?_; conv => whnf)
 | (refine W.cond rfl (fun hb => ?_) (fun hb => ?_) <;> (try simp only [Int.reduceToNat, Int.reduceTDiv, Int.reduceTMod, minL, maxL, pickB, zHB, zSH] at hb) <;> (try (first | (cases hb; done) | exact absurd hb (by decide) | (exfalso; omega) | (omega))))
 | ((with_reducible refine And.intro ?_ ?_); (focus (first | (with_reducible rfl) | omega | rfl | ((try simp only [Int.reduceToNat, Int.reduceTDiv, Int.reduceTMod, minL, maxL, pickB, zHB, zSH, InK, Path.imp, zL] at *); omega))); (conv => whnf))
 | ((with_reducible refine And.intro (Side.out ?_) ?_); rotate_left; (conv => whnf))
 | ((first | refine retF1 ?_ | refine retF2 ?_) <;> (conv => whnf) <;> repeat' (first
 | exact trivial
 | (with_reducible rfl)
 | ((with_reducible refine And.intro ?_ ?_) <;> conv => whnf)
 | omega
 | rfl
 | (refine congrArg (SV.arr _) ?_)
 | (refine congrArg (Value.int _) ?_)
 | (refine congrArg Value.bool ?_)))); all_goals (try unfold Side)
              all_goals try (repeat' (first | (with_reducible rfl) | (with_reducible refine And.intro ?_ ?_) | omega | rfl | exact Or.inl rfl | exact Or.inr rfl | exact of_decide_eq_true rfl | exact Path.imp_of (of_decide_eq_true rfl) | (focus ((try simp only [Int.reduceToNat, Int.reduceTDiv, Int.reduceTMod, minL, maxL, pickB, zHB, zSH, InK, Path.imp, zL] at *); omega)) | (refine app_le rfl ?_; omega)))
end Go.Proofs.Ytmfholchenihaaa

