/- Joined of: H6 H7 H8 Ha12 H9 W15. No condition. -/
import Derived.Test.YtckmhlpngolbpaaDoorJ9
set_option linter.unusedVariables false
set_option linter.unusedSimpArgs false
namespace Go.Proofs.YtckmhlpngolbpaaDoor
open Go Go.Vc Go.Sh
def ixT (os : List Od) (l : List Jb) : Int := match lateI os l with
 | some i => (i : Int)
 | none => -1
theorem ix_hit {os : List Od} {l : List Jb} {i : Nat} (hi : i < os.length) (h : lateT l (os.getD i O0) = true) (h1 : ∀ j, j < i → lateT l (os.getD j O0) = false) : ixT os l = i := by
 have e : firstK (fun i => if lateT l (os.getD i O0) = true then some i else none) os.length = some i := firstK_hit (d := i) (if_pos h) (fun e he => if_neg (by rw [h1 e he]; decide)) hi
 unfold ixT lateI
 rw [e]
theorem ix_miss {os : List Od} {l : List Jb} (h1 : ∀ j, j < os.length → lateT l (os.getD j O0) = false) : ixT os l = -1 := by
 have e : firstK (fun i => if lateT l (os.getD i O0) = true then some i else none) os.length = none := firstK_of fun e he => if_neg (by rw [h1 e he]; decide)
 unfold ixT lateI
 rw [e]
theorem ix_any {os : List Od} {l : List Jb} : decide (0 ≤ ixT os l) = os.any (lateT l) := by
 unfold ixT
 cases h : lateI os l with
 | some i =>
  obtain ⟨d, h1, h2, _⟩ := firstK_some h
  split at h2
  · rename_i h3
    show decide (0 ≤ (d : Int)) = _
    rw [decide_eq_true (by omega)]
    symm
    rw [List.any_eq_true]
    refine ⟨os.getD d O0, ?_, h3⟩
    rw [List.getD_eq_getElem?_getD, List.getElem?_eq_getElem h1]; exact List.getElem_mem _
  · cases h2
 | none => rw [lateI_none h]; rfl
theorem lateA_at {l : List Jb} (h : Bd l) {x y : Int} (hx : 0 ≤ x ∧ x < l.length) (hy : 0 ≤ y ∧ y < l.length) : FnAt Tryd.prog false 49 [.agg [I64 x, I64 y], .sadr (.arr JT l)] (.lit (.bool (lateT l (x, y, ())))) [] := by
 have hl := late_at h hx hy
 refine FnAt.of_body tys_ok Tryd.func49 (by rfl) rfl Tryd.ntmps49 (by rw [Tryd.results49]) (by simp) ?_
 repeat' (first
 | refine W.seq ?_
 | refine W.block ?_
 | (refine W.region tys_ok [] ?_; conv => whnf)
 | (refine W.drawAll tys_ok [] mixed rfl ?_; conv => whnf)
 | (refine W.ret ?_; conv => whnf)
 | (refine W.skip ?_; conv => whnf)
 | (refine W.exit ?_; conv => whnf)
 | (refine call_at (al := false) (hl) rfl rfl rfl rfl ?_; conv => whnf)
 | (refine W.cond rfl (fun hb => ?_) (fun hb => ?_) <;> (try simp only [Int.reduceToNat, Int.reduceTDiv, Int.reduceTMod, minL, maxL, pickB, zHB, zSJ] at hb) <;> (try (first | (cases hb; done) | exact absurd hb (by decide) | (exfalso; omega))))
 | ((with_reducible refine And.intro ?_ ?_); (focus (first | (with_reducible rfl) | omega | rfl | ((try simp only [Int.reduceToNat, Int.reduceTDiv, Int.reduceTMod, minL, maxL, pickB, zHB, zSJ, InK, Path.imp, zL] at *); omega))); (conv => whnf))
 | ((with_reducible refine And.intro (Side.out ?_) ?_); rotate_left; (conv => whnf))
 | ((first | refine retF1 ?_ | refine retF2 ?_) <;> (conv => whnf) <;> repeat' (first
 | exact trivial
 | (with_reducible rfl)
 | ((with_reducible refine And.intro ?_ ?_) <;> conv => whnf)
 | omega
 | rfl
 | (refine congrArg (SV.arr _) ?_)
 | (refine congrArg (Value.int _) ?_)
 | (refine congrArg Value.bool ?_)))); all_goals (try unfold Side)
 all_goals try (repeat' (first | (with_reducible rfl) | (with_reducible refine And.intro ?_ ?_) | omega | rfl | exact Or.inl rfl | exact Or.inr rfl | exact of_decide_eq_true rfl | exact Path.imp_of (of_decide_eq_true rfl) | (focus ((try simp only [Int.reduceToNat, Int.reduceTDiv, Int.reduceTMod, minL, maxL, pickB, zHB, zSJ, InK, Path.imp, zL] at *); omega)) | (refine app_le rfl ?_; omega)))
def Ords (os : List Od) (n : Nat) : Prop := os.length ≤ 100 ∧ ∀ i, i < os.length → 0 ≤ (os.getD i O0).1 ∧ (os.getD i O0).1 < n ∧ 0 ≤ (os.getD i O0).2.1 ∧ (os.getD i O0).2.1 < n
theorem indexA_at {os : List Od} {l : List Jb} (h : Bd l) (hor : Ords os l.length) :
  FnAt Tryd.prog false 61 [.arr OT os, .fn 49 [.sadr (.arr JT l)]] (.lit (.int .i64 (ixT os l))) [] := by
 have ho := hor.1
 have hf : ∀ i, i < os.length → FnAt Tryd.prog false 49 [.agg [I64 (os.getD i O0).1, I64 (os.getD i O0).2.1], .sadr (.arr JT l)] (.lit (.bool (lateT l (os.getD i O0)))) [] := fun i hi => by
  have := hor.2 i hi
  exact lateA_at h ⟨this.1, this.2.1⟩ ⟨this.2.2.1, this.2.2.2⟩
 have hlo : @List.length OT.T os = os.length := rfl
 have hhit := fun i => ix_hit (os := os) (l := l) (i := i)
 have hmiss := ix_miss (os := os) (l := l)
 obtain ⟨X, hX⟩ : ∃ X, X = ixT os l := ⟨_, rfl⟩
 rw [← hX] at hhit hmiss ⊢
 clear hX
 refine FnAt.of_body tys_ok Tryd.func61 (by rfl) rfl Tryd.ntmps61 (by rw [Tryd.results61]) (by simp) ?_
 repeat' (first
 | refine W.seq ?_
 | refine W.block ?_
 | (refine W.region tys_ok [] ?_; conv => whnf)
 | (refine W.drawAll tys_ok [] mixed rfl ?_; conv => whnf)
 | (refine W.ret ?_; conv => whnf)
 | (refine W.skip ?_; conv => whnf)
 | (refine W.exit ?_; conv => whnf)
 | (refine W.cond rfl (fun hb => ?_) (fun hb => ?_) <;> (try simp only [Int.reduceToNat, Int.reduceTDiv, Int.reduceTMod, minL, maxL, pickB, zHB, zSJ] at hb) <;> (try (first | (cases hb; done) | exact absurd hb (by decide) | (exfalso; omega))))
 | ((with_reducible refine And.intro ?_ ?_); (focus (first | (with_reducible rfl) | omega | rfl | ((try simp only [Int.reduceToNat, Int.reduceTDiv, Int.reduceTMod, minL, maxL, pickB, zHB, zSJ, InK, Path.imp, zL] at *); omega))); (conv => whnf))
 | ((with_reducible refine And.intro (Side.out ?_) ?_); rotate_left; (conv => whnf))
 | ((first | refine retF1 ?_ | refine retF2 ?_) <;> (conv => whnf) <;> repeat' (first
 | exact trivial
 | (with_reducible rfl)
 | ((with_reducible refine And.intro ?_ ?_) <;> conv => whnf)
 | omega
 | rfl
 | (refine congrArg (SV.arr _) ?_)
 | (refine congrArg (Value.int _) ?_)
 | (refine congrArg Value.bool ?_)))); all_goals (try unfold Side)
 all_goals try (repeat' (first | (with_reducible rfl) | (with_reducible refine And.intro ?_ ?_) | omega | rfl | exact Or.inl rfl | exact Or.inr rfl | exact of_decide_eq_true rfl | exact Path.imp_of (of_decide_eq_true rfl) | (focus ((try simp only [Int.reduceToNat, Int.reduceTDiv, Int.reduceTMod, minL, maxL, pickB, zHB, zSJ, InK, Path.imp, zL] at *); omega)) | (refine app_le rfl ?_; omega)))
 refine W.loop (fun i : Nat => ⟨[(0, .st false (.arr OT os)), (1, .fn 49 [.st false (.sadr (.arr JT l))]), (7, .lit (.int .i64 ((os.length : Int)))), (8, .lit (.int .i64 (i)))], []⟩) (fun i => i ≤ os.length ∧ (∀ j, j < i → lateT l (os.getD j O0) = false)) (fun i => os.length - i) (0) ?_ ?_
 · refine ⟨⟨Nat.zero_le _, by omega⟩, ?_⟩
   refine subF.ok ?_ <;> (conv => whnf) <;> repeat' (first
 | exact trivial
 | (with_reducible rfl)
 | ((with_reducible refine And.intro ?_ ?_) <;> conv => whnf)
 | omega
 | rfl
 | (refine congrArg (SV.arr _) ?_)
 | (refine congrArg (Value.int _) ?_)
 | (refine congrArg Value.bool ?_))
 · rintro i ⟨hi, hj⟩
   by_cases hil : i < os.length
   · have hc := hf i hil
     have hh := hhit i hil
     cases e : lateT l (os.getD i O0) with
     | true =>
      rw [e] at hc
      have hh := hh e hj
      repeat' (first
 | refine W.seq ?_
 | refine W.block ?_
 | (refine W.region tys_ok [] ?_; conv => whnf)
 | (refine W.drawAll tys_ok [] mixed rfl ?_; conv => whnf)
 | (refine W.ret ?_; conv => whnf)
 | (refine W.skip ?_; conv => whnf)
 | (refine W.exit ?_; conv => whnf)
 | (refine call_at (al := false) (hc) rfl rfl rfl rfl ?_; conv => whnf)
 | (refine W.cond rfl (fun hb => ?_) (fun hb => ?_) <;> (try simp only [Int.reduceToNat, Int.reduceTDiv, Int.reduceTMod, minL, maxL, pickB, zHB, zSJ] at hb) <;> (try (first | (cases hb; done) | exact absurd hb (by decide) | (exfalso; omega))))
 | ((with_reducible refine And.intro ?_ ?_); (focus (first | (with_reducible rfl) | omega | rfl | ((try simp only [Int.reduceToNat, Int.reduceTDiv, Int.reduceTMod, minL, maxL, pickB, zHB, zSJ, InK, Path.imp, zL] at *); omega))); (conv => whnf))
 | ((with_reducible refine And.intro (Side.out ?_) ?_); rotate_left; (conv => whnf))
 | ((first | refine retF1 ?_ | refine retF2 ?_) <;> (conv => whnf) <;> repeat' (first
 | exact trivial
 | (with_reducible rfl)
 | ((with_reducible refine And.intro ?_ ?_) <;> conv => whnf)
 | omega
 | rfl
 | (refine congrArg (SV.arr _) ?_)
 | (refine congrArg (Value.int _) ?_)
 | (refine congrArg Value.bool ?_)))); all_goals (try unfold Side)
      all_goals try (repeat' (first | (with_reducible rfl) | (with_reducible refine And.intro ?_ ?_) | omega | rfl | exact Or.inl rfl | exact Or.inr rfl | exact of_decide_eq_true rfl | exact Path.imp_of (of_decide_eq_true rfl) | (focus ((try simp only [Int.reduceToNat, Int.reduceTDiv, Int.reduceTMod, minL, maxL, pickB, zHB, zSJ, InK, Path.imp, zL] at *); omega)) | (refine app_le rfl ?_; omega)))
      all_goals exact hh.symm
     | false =>
      rw [e] at hc
      repeat' (first
 | refine W.seq ?_
 | refine W.block ?_
 | (refine W.region tys_ok [] ?_; conv => whnf)
 | (refine W.drawAll tys_ok [] mixed rfl ?_; conv => whnf)
 | (refine W.ret ?_; conv => whnf)
 | (refine W.skip ?_; conv => whnf)
 | (refine W.exit ?_; conv => whnf)
 | (refine call_at (al := false) (hc) rfl rfl rfl rfl ?_; conv => whnf)
 | (refine W.cond rfl (fun hb => ?_) (fun hb => ?_) <;> (try simp only [Int.reduceToNat, Int.reduceTDiv, Int.reduceTMod, minL, maxL, pickB, zHB, zSJ] at hb) <;> (try (first | (cases hb; done) | exact absurd hb (by decide) | (exfalso; omega))))
 | ((with_reducible refine And.intro ?_ ?_); (focus (first | (with_reducible rfl) | omega | rfl | ((try simp only [Int.reduceToNat, Int.reduceTDiv, Int.reduceTMod, minL, maxL, pickB, zHB, zSJ, InK, Path.imp, zL] at *); omega))); (conv => whnf))
 | ((with_reducible refine And.intro (Side.out ?_) ?_); rotate_left; (conv => whnf))
 | ((first | refine retF1 ?_ | refine retF2 ?_) <;> (conv => whnf) <;> repeat' (first
 | exact trivial
 | (with_reducible rfl)
 | ((with_reducible refine And.intro ?_ ?_) <;> conv => whnf)
 | omega
 | rfl
 | (refine congrArg (SV.arr _) ?_)
 | (refine congrArg (Value.int _) ?_)
 | (refine congrArg Value.bool ?_)))); all_goals (try unfold Side)
      all_goals try (repeat' (first | (with_reducible rfl) | (with_reducible refine And.intro ?_ ?_) | omega | rfl | exact Or.inl rfl | exact Or.inr rfl | exact of_decide_eq_true rfl | exact Path.imp_of (of_decide_eq_true rfl) | (focus ((try simp only [Int.reduceToNat, Int.reduceTDiv, Int.reduceTMod, minL, maxL, pickB, zHB, zSJ, InK, Path.imp, zL] at *); omega)) | (refine app_le rfl ?_; omega)))
      refine ⟨i + 1, ⟨⟨by omega, fun m hm => ?_⟩, by omega⟩, ?_⟩
      · by_cases e2 : m = i
        · subst e2; exact e
        · exact hj m (by omega)
      · refine subF.ok ?_ <;> (conv => whnf) <;> repeat' (first
 | exact trivial
 | (with_reducible rfl)
 | ((with_reducible refine And.intro ?_ ?_) <;> conv => whnf)
 | omega
 | rfl
 | (refine congrArg (SV.arr _) ?_)
 | (refine congrArg (Value.int _) ?_)
 | (refine congrArg Value.bool ?_))
   · have hie : os.length = i := by omega
     subst hie
     have hm := hmiss hj
     repeat' (first
 | refine W.seq ?_
 | refine W.block ?_
 | (refine W.region tys_ok [] ?_; conv => whnf)
 | (refine W.drawAll tys_ok [] mixed rfl ?_; conv => whnf)
 | (refine W.ret ?_; conv => whnf)
 | (refine W.skip ?_; conv => whnf)
 | (refine W.exit ?_; conv => whnf)
 | (refine W.cond rfl (fun hb => ?_) (fun hb => ?_) <;> (try simp only [Int.reduceToNat, Int.reduceTDiv, Int.reduceTMod, minL, maxL, pickB, zHB, zSJ] at hb) <;> (try (first | (cases hb; done) | exact absurd hb (by decide) | (exfalso; omega))))
 | ((with_reducible refine And.intro ?_ ?_); (focus (first | (with_reducible rfl) | omega | rfl | ((try simp only [Int.reduceToNat, Int.reduceTDiv, Int.reduceTMod, minL, maxL, pickB, zHB, zSJ, InK, Path.imp, zL] at *); omega))); (conv => whnf))
 | ((with_reducible refine And.intro (Side.out ?_) ?_); rotate_left; (conv => whnf))
 | ((first | refine retF1 ?_ | refine retF2 ?_) <;> (conv => whnf) <;> repeat' (first
 | exact trivial
 | (with_reducible rfl)
 | ((with_reducible refine And.intro ?_ ?_) <;> conv => whnf)
 | omega
 | rfl
 | (refine congrArg (SV.arr _) ?_)
 | (refine congrArg (Value.int _) ?_)
 | (refine congrArg Value.bool ?_)))); all_goals (try unfold Side)
     all_goals try (repeat' (first | (with_reducible rfl) | (with_reducible refine And.intro ?_ ?_) | omega | rfl | exact Or.inl rfl | exact Or.inr rfl | exact of_decide_eq_true rfl | exact Path.imp_of (of_decide_eq_true rfl) | (focus ((try simp only [Int.reduceToNat, Int.reduceTDiv, Int.reduceTMod, minL, maxL, pickB, zHB, zSJ, InK, Path.imp, zL] at *); omega)) | (refine app_le rfl ?_; omega)))
     all_goals exact hm.symm
theorem anyLate_at {l : List Jb} {os : List Od} (h : Bd l) (ho : Ords os l.length) : FnAt Tryd.prog false 48 [.arr OT os, .fn 49 [.sadr (.arr JT l)]] (.lit (.bool (os.any (lateT l)))) [] := by
 have hi := indexA_at h ho
 have he := ix_any (os := os) (l := l)
 obtain ⟨X, hX⟩ : ∃ X, X = ixT os l := ⟨_, rfl⟩
 rw [← hX] at hi he
 rw [← he]
 refine FnAt.of_body tys_ok Tryd.func48 (by rfl) rfl Tryd.ntmps48 (by rw [Tryd.results48]) (by simp) ?_
 repeat' (first
 | refine W.seq ?_
 | refine W.block ?_
 | (refine W.region tys_ok [] ?_; conv => whnf)
 | (refine W.drawAll tys_ok [] mixed rfl ?_; conv => whnf)
 | (refine W.ret ?_; conv => whnf)
 | (refine W.skip ?_; conv => whnf)
 | (refine W.exit ?_; conv => whnf)
 | (refine call_at (al := false) (hi) rfl rfl rfl rfl ?_; conv => whnf)
 | (refine W.cond rfl (fun hb => ?_) (fun hb => ?_) <;> (try simp only [Int.reduceToNat, Int.reduceTDiv, Int.reduceTMod, minL, maxL, pickB, zHB, zSJ] at hb) <;> (try (first | (cases hb; done) | exact absurd hb (by decide) | (exfalso; omega))))
 | ((with_reducible refine And.intro ?_ ?_); (focus (first | (with_reducible rfl) | omega | rfl | ((try simp only [Int.reduceToNat, Int.reduceTDiv, Int.reduceTMod, minL, maxL, pickB, zHB, zSJ, InK, Path.imp, zL] at *); omega))); (conv => whnf))
 | ((with_reducible refine And.intro (Side.out ?_) ?_); rotate_left; (conv => whnf))
 | ((first | refine retF1 ?_ | refine retF2 ?_) <;> (conv => whnf) <;> repeat' (first
 | exact trivial
 | (with_reducible rfl)
 | ((with_reducible refine And.intro ?_ ?_) <;> conv => whnf)
 | omega
 | rfl
 | (refine congrArg (SV.arr _) ?_)
 | (refine congrArg (Value.int _) ?_)
 | (refine congrArg Value.bool ?_)))); all_goals (try unfold Side)
 all_goals try (repeat' (first | (with_reducible rfl) | (with_reducible refine And.intro ?_ ?_) | omega | rfl | exact Or.inl rfl | exact Or.inr rfl | exact of_decide_eq_true rfl | exact Path.imp_of (of_decide_eq_true rfl) | (focus ((try simp only [Int.reduceToNat, Int.reduceTDiv, Int.reduceTMod, minL, maxL, pickB, zHB, zSJ, InK, Path.imp, zL] at *); omega)) | (refine app_le rfl ?_; omega)))
theorem bd_of {P : Int} {l : List Jb} {os : List Od} (h : VS P l os) : Bd l := ⟨by have := h.ln; omega, fun m hm => by
 have := h.rg m hm
 unfold JobOk at this
 unfold jf jt jl jp
 omega⟩
theorem ords_of {P : Int} {l : List Jb} {os : List Od} (h : VS P l os) : Ords os l.length := ⟨by have := h.lo; omega, fun i hi => by
 have := h.od i hi
 unfold OrdOk at this
 omega⟩
open Go Go.Vc Go.Sh
theorem fix_bd {l : List Jb} {os : List Od} {i : Nat} {x : Int} (h : Bd l) (hi : i < l.length) (h0 : jf l i ≤ x) (h1 : x ≤ jt l i - jl l i) : Bd (fixT l i x) := by
 refine ⟨by rw [fix_len]; exact h.len, fun m hm => ?_⟩
 rw [fix_len] at hm
 have h2 := h.rg i hi
 have h3 := h.rg m hm
 rw [fix_f hi, fix_t hi, fix_l hi, fix_p hi]
 by_cases e : m = i
 · subst e; rw [if_pos rfl, if_pos rfl]; omega
 · rw [if_neg e, if_neg e]; exact h3
theorem growT_len {P : Int} {os : List Od} {k : Nat} {l : List Jb} {i : Nat} (hk : k + i = l.length) (hp : Pre l os i) {r : List Int} (h : growT P os k l i = some r) : r.length = l.length := by
 have := growT_ok (P := P) hk hp
 rw [h] at this
 exact this.1.len
set_option maxHeartbeats 4000000 in
theorem grow0_at {P : Int} {l0 : List Jb} {os : List Od} (hP : 0 ≤ P ∧ P ≤ 100) {l : List Jb} {i : Nat} (hk : i = l.length) (h1 : 1 ≤ l.length) (hb : Bd l) (ho : Ords os l.length) :
  FnM Tryd.prog 46 [.st false (.arr JT l), .lit (.int .i64 i), .padr 1000000000 0, .padr 1000000001 0] [(1000000000, .box [.lit (.int .i64 P), .st true (.arr JT l0), .st true (.arr OT os)]), (1000000001, .box1 (.fn 46 [.padr 1000000000 0, .padr 1000000001 0]))]
   (.st true (.narr (.int .i64) ((growT P os 0 l i).getD [] : List Int))) [(1000000000, .box [.lit (.int .i64 P), .st true (.arr JT l0), .st true (.arr OT os)]), (1000000001, .box1 (.fn 46 [.padr 1000000000 0, .padr 1000000001 0]))] := by
 have hov := overfull_at hP hb
 have hany := anyLate_at hb ho
 have hll : @List.length JT.T l = l.length := rfl
 have hbad : badB P l os = (ovB P l || os.any (lateT l)) := by rw [ovB_over]; rfl
 have hg : growT P os 0 l i = if badB P l os = true then none else some (l.map (·.1)) := rfl
 have hlen := hb.len
 cases e1 : ovB P l with
 | true =>
  rw [e1] at hov hbad
  rw [hg, if_pos (by rw [hbad]; rfl)]
  refine FnM.of_body tys_ok Tryd.func46 (by rfl) rfl Tryd.ntmps46 (by rw [Tryd.results46]) (by simp) ?_
  repeat' (first
 | refine W.seq ?_
 | refine W.block ?_
 | (refine W.region tys_ok [] ?_; conv => whnf)
 | (refine W.drawAll tys_ok [] mixed rfl ?_; conv => whnf)
 | (refine W.ret ?_; conv => whnf)
 | (refine W.skip ?_; conv => whnf)
 | (refine W.exit ?_; conv => whnf)
 | (refine call_at (al := false) (hov) rfl rfl rfl rfl ?_; conv => whnf)
 | (refine call_at (al := false) (hany) rfl rfl rfl rfl ?_; conv => whnf)
 | (refine W.cond rfl (fun hb => ?_) (fun hb => ?_) <;> (try simp only [Int.reduceToNat, Int.reduceTDiv, Int.reduceTMod, minL, maxL, pickB, zHB, zSJ] at hb) <;> (try (first | (cases hb; done) | exact absurd hb (by decide) | (exfalso; omega))))
 | ((with_reducible refine And.intro ?_ ?_); (focus (first | (with_reducible rfl) | omega | rfl | ((try simp only [Int.reduceToNat, Int.reduceTDiv, Int.reduceTMod, minL, maxL, pickB, zHB, zSJ, InK, Path.imp, zL] at *); omega))); (conv => whnf))
 | ((with_reducible refine And.intro (Side.out ?_) ?_); rotate_left; (conv => whnf))
 | ((first | refine retM1 ?_ | refine retM2 ?_) <;> (conv => whnf) <;> repeat' (first
 | exact trivial
 | (with_reducible rfl)
 | ((with_reducible refine And.intro ?_ ?_) <;> conv => whnf)
 | omega
 | rfl
 | (refine congrArg (SV.arr _) ?_)
 | (refine congrArg (Value.int _) ?_)
 | (refine congrArg Value.bool ?_)))); all_goals (try unfold Side)
  all_goals try (repeat' (first | (with_reducible rfl) | (with_reducible refine And.intro ?_ ?_) | omega | rfl | exact Or.inl rfl | exact Or.inr rfl | exact of_decide_eq_true rfl | exact Path.imp_of (of_decide_eq_true rfl) | (focus ((try simp only [Int.reduceToNat, Int.reduceTDiv, Int.reduceTMod, minL, maxL, pickB, zHB, zSJ, InK, Path.imp, zL] at *); omega)) | (refine app_le rfl ?_; omega)))
 | false =>
  rw [e1] at hov hbad
  cases e2 : os.any (lateT l) with
  | true =>
   rw [e2] at hany hbad
   rw [hg, if_pos (by rw [hbad]; rfl)]
   refine FnM.of_body tys_ok Tryd.func46 (by rfl) rfl Tryd.ntmps46 (by rw [Tryd.results46]) (by simp) ?_
   repeat' (first
 | refine W.seq ?_
 | refine W.block ?_
 | (refine W.region tys_ok [] ?_; conv => whnf)
 | (refine W.drawAll tys_ok [] mixed rfl ?_; conv => whnf)
 | (refine W.ret ?_; conv => whnf)
 | (refine W.skip ?_; conv => whnf)
 | (refine W.exit ?_; conv => whnf)
 | (refine call_at (al := false) (hov) rfl rfl rfl rfl ?_; conv => whnf)
 | (refine call_at (al := false) (hany) rfl rfl rfl rfl ?_; conv => whnf)
 | (refine W.cond rfl (fun hb => ?_) (fun hb => ?_) <;> (try simp only [Int.reduceToNat, Int.reduceTDiv, Int.reduceTMod, minL, maxL, pickB, zHB, zSJ] at hb) <;> (try (first | (cases hb; done) | exact absurd hb (by decide) | (exfalso; omega))))
 | ((with_reducible refine And.intro ?_ ?_); (focus (first | (with_reducible rfl) | omega | rfl | ((try simp only [Int.reduceToNat, Int.reduceTDiv, Int.reduceTMod, minL, maxL, pickB, zHB, zSJ, InK, Path.imp, zL] at *); omega))); (conv => whnf))
 | ((with_reducible refine And.intro (Side.out ?_) ?_); rotate_left; (conv => whnf))
 | ((first | refine retM1 ?_ | refine retM2 ?_) <;> (conv => whnf) <;> repeat' (first
 | exact trivial
 | (with_reducible rfl)
 | ((with_reducible refine And.intro ?_ ?_) <;> conv => whnf)
 | omega
 | rfl
 | (refine congrArg (SV.arr _) ?_)
 | (refine congrArg (Value.int _) ?_)
 | (refine congrArg Value.bool ?_)))); all_goals (try unfold Side)
   all_goals try (repeat' (first | (with_reducible rfl) | (with_reducible refine And.intro ?_ ?_) | omega | rfl | exact Or.inl rfl | exact Or.inr rfl | exact of_decide_eq_true rfl | exact Path.imp_of (of_decide_eq_true rfl) | (focus ((try simp only [Int.reduceToNat, Int.reduceTDiv, Int.reduceTMod, minL, maxL, pickB, zHB, zSJ, InK, Path.imp, zL] at *); omega)) | (refine app_le rfl ?_; omega)))
  | false =>
   rw [e2] at hany hbad
   rw [hg, if_neg (by rw [hbad]; decide)]
   obtain ⟨M, hM⟩ : ∃ M : Nat → List Int, M = fun j => (l.take j).map (·.1) := ⟨_, rfl⟩
   have hM0 : M 0 = [] := by rw [hM]; rfl
   have hMl : ∀ j, j ≤ l.length → (M j).length = j := fun j hj => by rw [hM]; simp; omega
   have hMs : ∀ j, j < l.length → M j ++ [(l.getD j J0).1] = M (j + 1) := fun j hj => by
    rw [hM]
    show (l.take j).map (·.1) ++ [(l.getD j J0).1] = (l.take (j + 1)).map (·.1)
    rw [List.take_succ_eq_append_getElem hj, List.map_append, List.getD_eq_getElem?_getD, List.getElem?_eq_getElem hj]
    rfl
   have hMn : M l.length = l.map (·.1) := by rw [hM]; show (l.take l.length).map (·.1) = _; rw [List.take_length]
   have hMne : M l.length ≠ [] := fun e => by have := hMl l.length (Nat.le_refl _); rw [e] at this; simp at this; omega
   rw [show ((some (l.map (·.1))).getD [] : List Int) = M l.length from hMn.symm]
   refine FnM.of_body tys_ok Tryd.func46 (by rfl) rfl Tryd.ntmps46 (by rw [Tryd.results46]) (by simp) ?_
   repeat' (first
 | refine W.seq ?_
 | refine W.block ?_
 | (refine W.region tys_ok [] ?_; conv => whnf)
 | (refine W.drawAll tys_ok [] mixed rfl ?_; conv => whnf)
 | (refine W.ret ?_; conv => whnf)
 | (refine W.skip ?_; conv => whnf)
 | (refine W.exit ?_; conv => whnf)
 | (refine call_at (al := false) (hov) rfl rfl rfl rfl ?_; conv => whnf)
 | (refine call_at (al := false) (hany) rfl rfl rfl rfl ?_; conv => whnf)
 | (refine W.cond rfl (fun hb => ?_) (fun hb => ?_) <;> (try simp only [Int.reduceToNat, Int.reduceTDiv, Int.reduceTMod, minL, maxL, pickB, zHB, zSJ] at hb) <;> (try (first | (cases hb; done) | exact absurd hb (by decide) | (exfalso; omega) | (omega))))
 | ((with_reducible refine And.intro ?_ ?_); (focus (first | (with_reducible rfl) | omega | rfl | ((try simp only [Int.reduceToNat, Int.reduceTDiv, Int.reduceTMod, minL, maxL, pickB, zHB, zSJ, InK, Path.imp, zL] at *); omega))); (conv => whnf))
 | ((with_reducible refine And.intro (Side.out ?_) ?_); rotate_left; (conv => whnf))
 | ((first | refine retM1 ?_ | refine retM2 ?_) <;> (conv => whnf) <;> repeat' (first
 | exact trivial
 | (with_reducible rfl)
 | ((with_reducible refine And.intro ?_ ?_) <;> conv => whnf)
 | omega
 | rfl
 | (refine congrArg (SV.arr _) ?_)
 | (refine congrArg (Value.int _) ?_)
 | (refine congrArg Value.bool ?_)))); all_goals (try unfold Side)
   all_goals try (repeat' (first | (with_reducible rfl) | (with_reducible refine And.intro ?_ ?_) | omega | rfl | exact Or.inl rfl | exact Or.inr rfl | exact of_decide_eq_true rfl | exact Path.imp_of (of_decide_eq_true rfl) | (focus ((try simp only [Int.reduceToNat, Int.reduceTDiv, Int.reduceTMod, minL, maxL, pickB, zHB, zSJ, InK, Path.imp, zL] at *); omega)) | (refine app_le rfl ?_; omega)))
   refine W.loop (fun j : Nat => ⟨[(2, .padr 1000000000 0), (3, .padr 1000000001 0), (10, .own 5000), (35, .st false (.arr JT l)), (36, .lit (.int .i64 ((l.length : Int)))), (37, .lit (.int .i64 (j)))], [(5000, .row 3 (.int .i64) true ((M j) : List Int)), (1000000000, .box [.lit (.int .i64 P), .st true (.arr JT l0), .st true (.arr OT os)]), (1000000001, .box1 (.fn 46 [.padr 1000000000 0, .padr 1000000001 0]))]⟩) (fun j => j ≤ l.length) (fun j => l.length - j) (0) ?_ ?_
   · refine ⟨Nat.zero_le _, ?_⟩
     refine subF.ok ?_ <;> (conv => whnf) <;> repeat' (first
 | exact trivial
 | (with_reducible rfl)
 | ((with_reducible refine And.intro ?_ ?_) <;> conv => whnf)
 | omega
 | rfl
 | (refine congrArg (SV.arr _) ?_)
 | (refine congrArg (Value.int _) ?_)
 | (refine congrArg Value.bool ?_))
     all_goals exact hM0
   · intro j hj
     have hl := hMl j hj
     by_cases hjl : j < l.length
     · have hs := hMs j hjl
       repeat' (first
 | refine W.seq ?_
 | refine W.block ?_
 | (refine W.region tys_ok [] ?_; conv => whnf)
 | (refine W.drawAll tys_ok [] mixed rfl ?_; conv => whnf)
 | (refine W.ret ?_; conv => whnf)
 | (refine W.skip ?_; conv => whnf)
 | (refine W.exit ?_; conv => whnf)
 | (refine W.cond rfl (fun hb => ?_) (fun hb => ?_) <;> (try simp only [Int.reduceToNat, Int.reduceTDiv, Int.reduceTMod, minL, maxL, pickB, zHB, zSJ] at hb) <;> (try (first | (cases hb; done) | exact absurd hb (by decide) | (exfalso; omega))))
 | ((with_reducible refine And.intro ?_ ?_); (focus (first | (with_reducible rfl) | omega | rfl | ((try simp only [Int.reduceToNat, Int.reduceTDiv, Int.reduceTMod, minL, maxL, pickB, zHB, zSJ, InK, Path.imp, zL] at *); omega))); (conv => whnf))
 | ((with_reducible refine And.intro (Side.out ?_) ?_); rotate_left; (conv => whnf))
 | ((first | refine retM1 ?_ | refine retM2 ?_) <;> (conv => whnf) <;> repeat' (first
 | exact trivial
 | (with_reducible rfl)
 | ((with_reducible refine And.intro ?_ ?_) <;> conv => whnf)
 | omega
 | rfl
 | (refine congrArg (SV.arr _) ?_)
 | (refine congrArg (Value.int _) ?_)
 | (refine congrArg Value.bool ?_)))); all_goals (try unfold Side)
       all_goals try (repeat' (first | (with_reducible rfl) | (with_reducible refine And.intro ?_ ?_) | omega | rfl | exact Or.inl rfl | exact Or.inr rfl | exact of_decide_eq_true rfl | exact Path.imp_of (of_decide_eq_true rfl) | (focus ((try simp only [Int.reduceToNat, Int.reduceTDiv, Int.reduceTMod, minL, maxL, pickB, zHB, zSJ, InK, Path.imp, zL] at *); omega)) | (refine app_le rfl ?_; omega)))
       refine ⟨j + 1, ⟨by omega, by omega⟩, ?_⟩
       refine subF.ok ?_ <;> (conv => whnf) <;> repeat' (first
 | exact trivial
 | (with_reducible rfl)
 | ((with_reducible refine And.intro ?_ ?_) <;> conv => whnf)
 | omega
 | rfl
 | (refine congrArg (SV.arr _) ?_)
 | (refine congrArg (Value.int _) ?_)
 | (refine congrArg Value.bool ?_))
       all_goals exact hs
     · have hje : l.length = j := by omega
       subst hje
       repeat' (first
 | refine W.seq ?_
 | refine W.block ?_
 | (refine W.region tys_ok [] ?_; conv => whnf)
 | (refine W.drawAll tys_ok [] mixed rfl ?_; conv => whnf)
 | (refine W.ret ?_; conv => whnf)
 | (refine W.skip ?_; conv => whnf)
 | (refine W.exit ?_; conv => whnf)
 | (refine W.cond rfl (fun hb => ?_) (fun hb => ?_) <;> (try simp only [Int.reduceToNat, Int.reduceTDiv, Int.reduceTMod, minL, maxL, pickB, zHB, zSJ] at hb) <;> (try (first | (cases hb; done) | exact absurd hb (by decide) | (exfalso; omega))))
 | ((with_reducible refine And.intro ?_ ?_); (focus (first | (with_reducible rfl) | omega | rfl | ((try simp only [Int.reduceToNat, Int.reduceTDiv, Int.reduceTMod, minL, maxL, pickB, zHB, zSJ, InK, Path.imp, zL] at *); omega))); (conv => whnf))
 | ((with_reducible refine And.intro (Side.out ?_) ?_); rotate_left; (conv => whnf))
 | ((first | refine retM1 ?_ | refine retM2 ?_) <;> (conv => whnf) <;> repeat' (first
 | exact trivial
 | (with_reducible rfl)
 | ((with_reducible refine And.intro ?_ ?_) <;> conv => whnf)
 | omega
 | rfl
 | (refine congrArg (SV.arr _) ?_)
 | (refine congrArg (Value.int _) ?_)
 | (refine congrArg Value.bool ?_)))); all_goals (try unfold Side)
       all_goals try (repeat' (first | (with_reducible rfl) | (with_reducible refine And.intro ?_ ?_) | omega | rfl | exact Or.inl rfl | exact Or.inr rfl | exact of_decide_eq_true rfl | exact Path.imp_of (of_decide_eq_true rfl) | (focus ((try simp only [Int.reduceToNat, Int.reduceTDiv, Int.reduceTMod, minL, maxL, pickB, zHB, zSJ, InK, Path.imp, zL] at *); omega)) | (refine app_le rfl ?_; omega)))
       all_goals exact hMne
open Go Go.Vc Go.Sh
theorem fix_two {l : List Jb} {i : Nat} {x : Int} (hi : i < l.length) : (l.set i (x, (l.getD i J0).2)).set i (((l.set i (x, (l.getD i J0).2)).getD i J0).1, x + (l.getD i J0).2.2.1, ((l.set i (x, (l.getD i J0).2)).getD i J0).2.2) = fixT l i x := by
 have e : (l.set i (x, (l.getD i J0).2)).getD i J0 = (x, (l.getD i J0).2) := by
  rw [List.getD_eq_getElem?_getD, List.getElem?_set]; simp [hi]
 rw [e, List.set_set]
 rfl
set_option maxHeartbeats 4000000 in
theorem growS_at {P : Int} {l0 : List Jb} {os : List Od} (hP : 0 ≤ P ∧ P ≤ 100) {k : Nat} {l : List Jb} {i : Nat} (hk : k + 1 + i = l.length) (hp : Pre l os i) (hb : Bd l) (ho : Ords os l.length)
  (ih : ∀ d : Nat, jf l i + d ≤ jt l i - jl l i → FnM Tryd.prog 46 [.st false (.arr JT (fixT l i (jf l i + d))), .lit (.int .i64 ((i + 1 : Nat) : Int)), .padr 1000000000 0, .padr 1000000001 0] [(1000000000, .box [.lit (.int .i64 P), .st true (.arr JT l0), .st true (.arr OT os)]), (1000000001, .box1 (.fn 46 [.padr 1000000000 0, .padr 1000000001 0]))]
   (.st true (.narr (.int .i64) ((growT P os k (fixT l i (jf l i + d)) (i + 1)).getD [] : List Int))) [(1000000000, .box [.lit (.int .i64 P), .st true (.arr JT l0), .st true (.arr OT os)]), (1000000001, .box1 (.fn 46 [.padr 1000000000 0, .padr 1000000001 0]))]) :
  FnM Tryd.prog 46 [.st false (.arr JT l), .lit (.int .i64 i), .padr 1000000000 0, .padr 1000000001 0] [(1000000000, .box [.lit (.int .i64 P), .st true (.arr JT l0), .st true (.arr OT os)]), (1000000001, .box1 (.fn 46 [.padr 1000000000 0, .padr 1000000001 0]))]
   (.st true (.narr (.int .i64) ((growT P os (k + 1) l i).getD [] : List Int))) [(1000000000, .box [.lit (.int .i64 P), .st true (.arr JT l0), .st true (.arr OT os)]), (1000000001, .box1 (.fn 46 [.padr 1000000000 0, .padr 1000000001 0]))] := by
 have hov := overfull_at hP hb
 have hany := anyLate_at hb ho
 have hll : @List.length JT.T l = l.length := rfl
 have hbad : badB P l os = (ovB P l || os.any (lateT l)) := by rw [ovB_over]; rfl
 have hg : growT P os (k + 1) l i = if badB P l os = true then none else tryK (fun d => growT P os k (fixT l i (jf l i + d)) (i + 1)) (jt l i - jl l i - jf l i + 1).toNat := rfl
 have hlen := hb.len
 have hil : i < l.length := by omega
 have hrg := hp.rg i hil
 have hcl := clone_at (l := l) (by omega) (by omega)
 cases e1 : ovB P l with
 | true =>
  rw [e1] at hov hbad
  rw [hg, if_pos (by rw [hbad]; rfl)]
  refine FnM.of_body tys_ok Tryd.func46 (by rfl) rfl Tryd.ntmps46 (by rw [Tryd.results46]) (by simp) ?_
  repeat' (first
 | refine W.seq ?_
 | refine W.block ?_
 | (refine W.region tys_ok [] ?_; conv => whnf)
 | (refine W.drawAll tys_ok [] mixed rfl ?_; conv => whnf)
 | (refine W.ret ?_; conv => whnf)
 | (refine W.skip ?_; conv => whnf)
 | (refine W.exit ?_; conv => whnf)
 | (refine call_at (al := false) (hov) rfl rfl rfl rfl ?_; conv => whnf)
 | (refine call_at (al := false) (hany) rfl rfl rfl rfl ?_; conv => whnf)
 | (refine W.cond rfl (fun hb => ?_) (fun hb => ?_) <;> (try simp only [Int.reduceToNat, Int.reduceTDiv, Int.reduceTMod, minL, maxL, pickB, zHB, zSJ] at hb) <;> (try (first | (cases hb; done) | exact absurd hb (by decide) | (exfalso; omega))))
 | ((with_reducible refine And.intro ?_ ?_); (focus (first | (with_reducible rfl) | omega | rfl | ((try simp only [Int.reduceToNat, Int.reduceTDiv, Int.reduceTMod, minL, maxL, pickB, zHB, zSJ, InK, Path.imp, zL] at *); omega))); (conv => whnf))
 | ((with_reducible refine And.intro (Side.out ?_) ?_); rotate_left; (conv => whnf))
 | ((first | refine retM1 ?_ | refine retM2 ?_) <;> (conv => whnf) <;> repeat' (first
 | exact trivial
 | (with_reducible rfl)
 | ((with_reducible refine And.intro ?_ ?_) <;> conv => whnf)
 | omega
 | rfl
 | (refine congrArg (SV.arr _) ?_)
 | (refine congrArg (Value.int _) ?_)
 | (refine congrArg Value.bool ?_)))); all_goals (try unfold Side)
  all_goals try (repeat' (first | (with_reducible rfl) | (with_reducible refine And.intro ?_ ?_) | omega | rfl | exact Or.inl rfl | exact Or.inr rfl | exact of_decide_eq_true rfl | exact Path.imp_of (of_decide_eq_true rfl) | (focus ((try simp only [Int.reduceToNat, Int.reduceTDiv, Int.reduceTMod, minL, maxL, pickB, zHB, zSJ, InK, Path.imp, zL] at *); omega)) | (refine app_le rfl ?_; omega)))
 | false =>
  rw [e1] at hov hbad
  cases e2 : os.any (lateT l) with
  | true =>
   rw [e2] at hany hbad
   rw [hg, if_pos (by rw [hbad]; rfl)]
   refine FnM.of_body tys_ok Tryd.func46 (by rfl) rfl Tryd.ntmps46 (by rw [Tryd.results46]) (by simp) ?_
   repeat' (first
 | refine W.seq ?_
 | refine W.block ?_
 | (refine W.region tys_ok [] ?_; conv => whnf)
 | (refine W.drawAll tys_ok [] mixed rfl ?_; conv => whnf)
 | (refine W.ret ?_; conv => whnf)
 | (refine W.skip ?_; conv => whnf)
 | (refine W.exit ?_; conv => whnf)
 | (refine call_at (al := false) (hov) rfl rfl rfl rfl ?_; conv => whnf)
 | (refine call_at (al := false) (hany) rfl rfl rfl rfl ?_; conv => whnf)
 | (refine W.cond rfl (fun hb => ?_) (fun hb => ?_) <;> (try simp only [Int.reduceToNat, Int.reduceTDiv, Int.reduceTMod, minL, maxL, pickB, zHB, zSJ] at hb) <;> (try (first | (cases hb; done) | exact absurd hb (by decide) | (exfalso; omega))))
 | ((with_reducible refine And.intro ?_ ?_); (focus (first | (with_reducible rfl) | omega | rfl | ((try simp only [Int.reduceToNat, Int.reduceTDiv, Int.reduceTMod, minL, maxL, pickB, zHB, zSJ, InK, Path.imp, zL] at *); omega))); (conv => whnf))
 | ((with_reducible refine And.intro (Side.out ?_) ?_); rotate_left; (conv => whnf))
 | ((first | refine retM1 ?_ | refine retM2 ?_) <;> (conv => whnf) <;> repeat' (first
 | exact trivial
 | (with_reducible rfl)
 | ((with_reducible refine And.intro ?_ ?_) <;> conv => whnf)
 | omega
 | rfl
 | (refine congrArg (SV.arr _) ?_)
 | (refine congrArg (Value.int _) ?_)
 | (refine congrArg Value.bool ?_)))); all_goals (try unfold Side)
   all_goals try (repeat' (first | (with_reducible rfl) | (with_reducible refine And.intro ?_ ?_) | omega | rfl | exact Or.inl rfl | exact Or.inr rfl | exact of_decide_eq_true rfl | exact Path.imp_of (of_decide_eq_true rfl) | (focus ((try simp only [Int.reduceToNat, Int.reduceTDiv, Int.reduceTMod, minL, maxL, pickB, zHB, zSJ, InK, Path.imp, zL] at *); omega)) | (refine app_le rfl ?_; omega)))
  | false =>
   rw [e2] at hany hbad
   rw [hg, if_neg (by rw [hbad]; decide)]
   have hlens : ∀ d : Nat, jf l i + d ≤ jt l i - jl l i → ∀ r, growT P os k (fixT l i (jf l i + d)) (i + 1) = some r → r ≠ [] := fun d hd r hr e => by
    have := growT_len (P := P) (by rw [fix_len]; omega) (fix_pre hp hil (by omega) hd) hr
    rw [fix_len, e] at this
    simp at this
    omega
   obtain ⟨G, hG⟩ : ∃ G : Nat → Option (List Int), G = fun d : Nat => growT P os k (fixT l i (jf l i + (d : Int))) (i + 1) := ⟨_, rfl⟩
   have ih' : ∀ d : Nat, jf l i + d ≤ jt l i - jl l i → FnM Tryd.prog 46 [.st false (.arr JT (fixT l i (jf l i + d))), .lit (.int .i64 ((i + 1 : Nat) : Int)), .padr 1000000000 0, .padr 1000000001 0] [(1000000000, .box [.lit (.int .i64 P), .st true (.arr JT l0), .st true (.arr OT os)]), (1000000001, .box1 (.fn 46 [.padr 1000000000 0, .padr 1000000001 0]))]
    (.st true (.narr (.int .i64) ((G d).getD [] : List Int))) [(1000000000, .box [.lit (.int .i64 P), .st true (.arr JT l0), .st true (.arr OT os)]), (1000000001, .box1 (.fn 46 [.padr 1000000000 0, .padr 1000000001 0]))] := by rw [hG]; exact ih
   have hlens' : ∀ d : Nat, jf l i + d ≤ jt l i - jl l i → ∀ r, G d = some r → r ≠ [] := by rw [hG]; exact hlens
   rw [← hG]
   clear hG ih hlens hg
   have hnat : ((jt l i - jl l i - jf l i + 1).toNat : Int) = jt l i - jl l i - jf l i + 1 := by omega
   obtain ⟨n, hn⟩ : ∃ n, n = (jt l i - jl l i - jf l i + 1).toNat := ⟨_, rfl⟩
   rw [← hn] at hnat ⊢
   have hfx : ∀ x, fixT l i x = l.set i (x, x + jl l i, jl l i, jp l i, ()) := fun x => rfl
   obtain ⟨F, hF⟩ : ∃ F, F = jf l i := ⟨_, rfl⟩
   obtain ⟨T, hT⟩ : ∃ T, T = jt l i := ⟨_, rfl⟩
   obtain ⟨Ln, hLn⟩ : ∃ Ln, Ln = jl l i := ⟨_, rfl⟩
   have hF' : (l.getD i J0).1 = F := hF.symm
   have hT' : (l.getD i J0).2.1 = T := hT.symm
   have hLn' : (l.getD i J0).2.2.1 = Ln := hLn.symm
   rw [← hF, ← hT, ← hLn] at hrg hnat ih' hlens'
   rw [← hLn] at hfx
   have hsl : ∀ y : Jb, ((i : Int)).toNat < (List.set l ((i : Int)).toNat y).length := fun y => by rw [List.length_set]; omega
   have hft0 : ∀ x, (l.set i (x, (l.getD i J0).2)).set i (((l.set i (x, (l.getD i J0).2)).getD i J0).1, x + (l.getD i J0).2.2.1, ((l.set i (x, (l.getD i J0).2)).getD i J0).2.2) = fixT l i x := fun x => fix_two hil
   refine FnM.of_body tys_ok Tryd.func46 (by rfl) rfl Tryd.ntmps46 (by rw [Tryd.results46]) (by simp) ?_
   repeat' (first
 | refine W.seq ?_
 | refine W.block ?_
 | (refine W.region tys_ok [] ?_; conv => whnf)
 | (refine W.drawAll tys_ok [] mixed rfl ?_; conv => whnf)
 | (refine W.ret ?_; conv => whnf)
 | (refine W.skip ?_; conv => whnf)
 | (refine W.exit ?_; conv => whnf)
 | (refine call_at (al := false) (hov) rfl rfl rfl rfl ?_; conv => whnf)
 | (refine call_at (al := false) (hany) rfl rfl rfl rfl ?_; conv => whnf)
 | (refine W.cond rfl (fun hb => ?_) (fun hb => ?_) <;> (try simp only [Int.reduceToNat, Int.reduceTDiv, Int.reduceTMod, minL, maxL, pickB, zHB, zSJ] at hb) <;> (try (first | (cases hb; done) | exact absurd hb (by decide) | (exfalso; omega) | (omega))))
 | ((with_reducible refine And.intro ?_ ?_); (focus (first | (with_reducible rfl) | omega | rfl | ((try simp only [Int.reduceToNat, Int.reduceTDiv, Int.reduceTMod, minL, maxL, pickB, zHB, zSJ, InK, Path.imp, zL] at *); omega))); (conv => whnf))
 | ((with_reducible refine And.intro (Side.out ?_) ?_); rotate_left; (conv => whnf))
 | ((first | refine retM1 ?_ | refine retM2 ?_) <;> (conv => whnf) <;> repeat' (first
 | exact trivial
 | (with_reducible rfl)
 | ((with_reducible refine And.intro ?_ ?_) <;> conv => whnf)
 | omega
 | rfl
 | (refine congrArg (SV.arr _) ?_)
 | (refine congrArg (Value.int _) ?_)
 | (refine congrArg Value.bool ?_)))); all_goals (try unfold Side)
   all_goals try (repeat' (first | (with_reducible rfl) | (with_reducible refine And.intro ?_ ?_) | omega | rfl | exact Or.inl rfl | exact Or.inr rfl | exact of_decide_eq_true rfl | exact Path.imp_of (of_decide_eq_true rfl) | (focus ((try simp only [Int.reduceToNat, Int.reduceTDiv, Int.reduceTMod, minL, maxL, pickB, zHB, zSJ, InK, Path.imp, zL] at *); omega)) | (refine app_le rfl ?_; omega)))
   refine W.loop (fun d : Nat => ⟨[(1, .lit (.int .i64 (i))), (2, .padr 1000000000 0), (3, .padr 1000000001 0), (4, .st false (.sadr (.arr JT l))), (13, .lit (.int .i64 ((F + (d : Int)))))], [(1000000000, .box [.lit (.int .i64 P), .st true (.arr JT l0), .st true (.arr OT os)]), (1000000001, .box1 (.fn 46 [.padr 1000000000 0, .padr 1000000001 0]))]⟩) (fun d => d ≤ n ∧ (∀ e, e < d → G e = none)) (fun d => n - d) (0) ?_ ?_
   · refine ⟨⟨Nat.zero_le _, by omega⟩, ?_⟩
     refine subF.ok ?_ <;> (conv => whnf) <;> repeat' (first
 | exact trivial
 | (with_reducible rfl)
 | ((with_reducible refine And.intro ?_ ?_) <;> conv => whnf)
 | omega
 | rfl
 | (refine congrArg (SV.arr _) ?_)
 | (refine congrArg (Value.int _) ?_)
 | (refine congrArg Value.bool ?_))
     all_goals (simp only [Int.reduceToNat, Int.reduceTDiv, Int.reduceTMod, minL, maxL, pickB, zHB, zSJ]; omega)
   · rintro d ⟨hd, hno⟩
     by_cases hdl : d < n
     · have hi := ih' d (by omega)
       have hl := hlens' d (by omega)
       have hft := hft0 (F + d)
       cases e : G d with
       | none =>
        rw [e] at hi
        have hi2 : FnM Tryd.prog 46 [.st false (.arr JT (fixT l i (F + d))), .lit (.int .i64 ((i + 1 : Nat) : Int)), .padr 1000000000 0, .padr 1000000001 0] [(1000000000, .box [.lit (.int .i64 P), .st true (.arr JT l0), .st true (.arr OT os)]), (1000000001, .box1 (.fn 46 [.padr 1000000000 0, .padr 1000000001 0]))]
         (.st true (.narr (.int .i64) ([] : List Int))) [(1000000000, .box [.lit (.int .i64 P), .st true (.arr JT l0), .st true (.arr OT os)]), (1000000001, .box1 (.fn 46 [.padr 1000000000 0, .padr 1000000001 0]))] := hi
        repeat' (first
 | refine W.seq ?_
 | refine W.block ?_
 | (refine W.resub (x := Code.region 17 _ _) (Γ' := ⟨[(1, .lit (.int .i64 (i))), (2, .padr 1000000000 0), (3, .padr 1000000001 0), (4, .st false (.sadr (.arr JT l))), (13, .lit (.int .i64 ((F + (d : Int))))), (14, .st true (.arr JT (fixT l i (F + (d : Int)))))], [(1000000000, .box [.lit (.int .i64 P), .st true (.arr JT l0), .st true (.arr OT os)]), (1000000001, .box1 (.fn 46 [.padr 1000000000 0, .padr 1000000001 0]))]⟩) ?_ (W.regionM tys_ok [] [4] ?_); rotate_left; (conv => whnf))
 | (refine W.drawPh (id := 13) tys_ok [] mixed [0, 0, 0, 6, 8, 16, 0, 0, 192, 256, 512, 1056, 2049] [([0, 1, 2, 3, 4, 5, 6, 7, 8, 9, 10, 11, 12], 0, 8191)] (by decide +kernel) ?_; conv => whnf)
 | (refine W.region tys_ok [] ?_; conv => whnf)
 | (refine W.drawAll tys_ok [] mixed rfl ?_; conv => whnf)
 | (refine W.ret ?_; conv => whnf)
 | (refine W.skip ?_; conv => whnf)
 | (refine W.exit ?_; conv => whnf)
 | (refine call_at (al := false) (hcl) rfl rfl rfl rfl ?_; conv => whnf)
 | (refine callM_at (hi2) ?_; conv => whnf)
 | (refine Both.mk ?_ ?_ <;> (conv => whnf))
 | (refine W.cond rfl (fun hb => ?_) (fun hb => ?_) <;> (try simp only [Int.reduceToNat, Int.reduceTDiv, Int.reduceTMod, minL, maxL, pickB, zHB, zSJ] at hb) <;> (try (first | (cases hb; done) | exact absurd hb (by decide) | (exfalso; omega) | (omega))))
 | (refine Or.inl (And.intro trivial ?_); (conv => whnf))
 | ((with_reducible refine And.intro ?_ ?_); (focus (first | (with_reducible rfl) | omega | rfl | ((try simp only [Int.reduceToNat, Int.reduceTDiv, Int.reduceTMod, minL, maxL, pickB, zHB, zSJ, InK, Path.imp, zL] at *); omega))); (conv => whnf))
 | ((with_reducible refine And.intro (Side.out ?_) ?_); rotate_left; (conv => whnf))
 | ((first | refine retM1 ?_ | refine retM2 ?_ | refine subF.leaf ?_ | refine subF.side ?_) <;> (conv => whnf) <;> repeat' (first
 | exact trivial
 | (with_reducible rfl)
 | ((with_reducible refine And.intro ?_ ?_) <;> conv => whnf)
 | omega
 | rfl
 | (refine congrArg (SV.arr _) ?_)
 | (refine congrArg (Value.int _) ?_)
 | (refine congrArg Value.bool ?_)))); all_goals (try unfold Side)
        all_goals try (repeat' (first | (with_reducible rfl) | (with_reducible refine And.intro ?_ ?_) | omega | rfl | exact Or.inl rfl | exact Or.inr rfl | exact of_decide_eq_true rfl | exact Path.imp_of (of_decide_eq_true rfl) | (focus ((try simp only [Int.reduceToNat, Int.reduceTDiv, Int.reduceTMod, minL, maxL, pickB, zHB, zSJ, InK, Path.imp, zL] at *); omega)) | (refine app_le rfl ?_; omega)))
        all_goals try (first | exact hsl _ | exact Path.imp_of ⟨by omega, hsl _⟩ | exact hft)
        refine ⟨d + 1, ⟨⟨by omega, fun m hm => ?_⟩, by omega⟩, ?_⟩
        · by_cases e2 : m = d
          · subst e2; exact e
          · exact hno m (by omega)
        · refine subF.ok ?_ <;> (conv => whnf) <;> repeat' (first
 | exact trivial
 | (with_reducible rfl)
 | ((with_reducible refine And.intro ?_ ?_) <;> conv => whnf)
 | omega
 | rfl
 | (refine congrArg (SV.arr _) ?_)
 | (refine congrArg (Value.int _) ?_)
 | (refine congrArg Value.bool ?_))
          all_goals omega
       | some r =>
        rw [e] at hi
        have hr := hl r e
        have hre : r.isEmpty = false := by cases r with | nil => exact absurd rfl hr | cons => rfl
        rw [tryK_hit e hno hdl]
        have hi2 : FnM Tryd.prog 46 [.st false (.arr JT (fixT l i (F + d))), .lit (.int .i64 ((i + 1 : Nat) : Int)), .padr 1000000000 0, .padr 1000000001 0] [(1000000000, .box [.lit (.int .i64 P), .st true (.arr JT l0), .st true (.arr OT os)]), (1000000001, .box1 (.fn 46 [.padr 1000000000 0, .padr 1000000001 0]))]
         (.st true (.narr (.int .i64) (r : List Int))) [(1000000000, .box [.lit (.int .i64 P), .st true (.arr JT l0), .st true (.arr OT os)]), (1000000001, .box1 (.fn 46 [.padr 1000000000 0, .padr 1000000001 0]))] := hi
        repeat' (first
 | refine W.seq ?_
 | refine W.block ?_
 | (refine W.resub (x := Code.region 17 _ _) (Γ' := ⟨[(1, .lit (.int .i64 (i))), (2, .padr 1000000000 0), (3, .padr 1000000001 0), (4, .st false (.sadr (.arr JT l))), (13, .lit (.int .i64 ((F + (d : Int))))), (14, .st true (.arr JT (fixT l i (F + (d : Int)))))], [(1000000000, .box [.lit (.int .i64 P), .st true (.arr JT l0), .st true (.arr OT os)]), (1000000001, .box1 (.fn 46 [.padr 1000000000 0, .padr 1000000001 0]))]⟩) ?_ (W.regionM tys_ok [] [4] ?_); rotate_left; (conv => whnf))
 | (refine W.drawPh (id := 13) tys_ok [] mixed [0, 0, 0, 6, 8, 16, 0, 0, 192, 256, 512, 1056, 2049] [([0, 1, 2, 3, 4, 5, 6, 7, 8, 9, 10, 11, 12], 0, 8191)] (by decide +kernel) ?_; conv => whnf)
 | (refine W.region tys_ok [] ?_; conv => whnf)
 | (refine W.drawAll tys_ok [] mixed rfl ?_; conv => whnf)
 | (refine W.ret ?_; conv => whnf)
 | (refine W.skip ?_; conv => whnf)
 | (refine W.exit ?_; conv => whnf)
 | (refine call_at (al := false) (hcl) rfl rfl rfl rfl ?_; conv => whnf)
 | (refine callM_at (hi2) ?_; conv => whnf)
 | (refine Both.mk ?_ ?_ <;> (conv => whnf))
 | (refine W.cond rfl (fun hb => ?_) (fun hb => ?_) <;> (try simp only [Int.reduceToNat, Int.reduceTDiv, Int.reduceTMod, minL, maxL, pickB, zHB, zSJ] at hb) <;> (try (first | (cases hb; done) | exact absurd hb (by decide) | (exfalso; omega) | (first | omega | exact Bool.noConfusion (hb.symm.trans hre)))))
 | (refine Or.inl (And.intro trivial ?_); (conv => whnf))
 | ((with_reducible refine And.intro ?_ ?_); (focus (first | (with_reducible rfl) | omega | rfl | ((try simp only [Int.reduceToNat, Int.reduceTDiv, Int.reduceTMod, minL, maxL, pickB, zHB, zSJ, InK, Path.imp, zL] at *); omega))); (conv => whnf))
 | ((with_reducible refine And.intro (Side.out ?_) ?_); rotate_left; (conv => whnf))
 | ((first | refine retM1 ?_ | refine retM2 ?_ | refine subF.leaf ?_ | refine subF.side ?_) <;> (conv => whnf) <;> repeat' (first
 | exact trivial
 | (with_reducible rfl)
 | ((with_reducible refine And.intro ?_ ?_) <;> conv => whnf)
 | omega
 | rfl
 | (refine congrArg (SV.arr _) ?_)
 | (refine congrArg (Value.int _) ?_)
 | (refine congrArg Value.bool ?_)))); all_goals (try unfold Side)
        all_goals try (repeat' (first | (with_reducible rfl) | (with_reducible refine And.intro ?_ ?_) | omega | rfl | exact Or.inl rfl | exact Or.inr rfl | exact of_decide_eq_true rfl | exact Path.imp_of (of_decide_eq_true rfl) | (focus ((try simp only [Int.reduceToNat, Int.reduceTDiv, Int.reduceTMod, minL, maxL, pickB, zHB, zSJ, InK, Path.imp, zL] at *); omega)) | (refine app_le rfl ?_; omega)))
        all_goals try (first | exact hsl _ | exact Path.imp_of ⟨by omega, hsl _⟩ | exact hft)
     · have hde : n = d := by omega
       subst hde
       rw [tryK_of hno]
       repeat' (first
 | refine W.seq ?_
 | refine W.block ?_
 | (refine W.drawPh (id := 13) tys_ok [] mixed [0, 0, 0, 6, 8, 16, 0, 0, 192, 256, 512, 1056, 2049] [([0, 1, 2, 3, 4, 5, 6, 7, 8, 9, 10, 11, 12], 0, 8191)] (by decide +kernel) ?_; conv => whnf)
 | (refine W.region tys_ok [] ?_; conv => whnf)
 | (refine W.drawAll tys_ok [] mixed rfl ?_; conv => whnf)
 | (refine W.ret ?_; conv => whnf)
 | (refine W.skip ?_; conv => whnf)
 | (refine W.exit ?_; conv => whnf)
 | (refine Both.mk ?_ ?_ <;> (conv => whnf))
 | (refine W.cond rfl (fun hb => ?_) (fun hb => ?_) <;> (try simp only [Int.reduceToNat, Int.reduceTDiv, Int.reduceTMod, minL, maxL, pickB, zHB, zSJ] at hb) <;> (try (first | (cases hb; done) | exact absurd hb (by decide) | (exfalso; omega) | (omega))))
 | ((with_reducible refine And.intro ?_ ?_); (focus (first | (with_reducible rfl) | omega | rfl | ((try simp only [Int.reduceToNat, Int.reduceTDiv, Int.reduceTMod, minL, maxL, pickB, zHB, zSJ, InK, Path.imp, zL] at *); omega))); (conv => whnf))
 | ((with_reducible refine And.intro (Side.out ?_) ?_); rotate_left; (conv => whnf))
 | ((first | refine retM1 ?_ | refine retM2 ?_ | refine subF.leaf ?_ | refine subF.side ?_) <;> (conv => whnf) <;> repeat' (first
 | exact trivial
 | (with_reducible rfl)
 | ((with_reducible refine And.intro ?_ ?_) <;> conv => whnf)
 | omega
 | rfl
 | (refine congrArg (SV.arr _) ?_)
 | (refine congrArg (Value.int _) ?_)
 | (refine congrArg Value.bool ?_)))); all_goals (try unfold Side)
       all_goals try (repeat' (first | (with_reducible rfl) | (with_reducible refine And.intro ?_ ?_) | omega | rfl | exact Or.inl rfl | exact Or.inr rfl | exact of_decide_eq_true rfl | exact Path.imp_of (of_decide_eq_true rfl) | (focus ((try simp only [Int.reduceToNat, Int.reduceTDiv, Int.reduceTMod, minL, maxL, pickB, zHB, zSJ, InK, Path.imp, zL] at *); omega)) | (refine app_le rfl ?_; omega)))
theorem grow_at {P : Int} {l0 : List Jb} {os : List Od} (hP : 0 ≤ P ∧ P ≤ 100) : ∀ {k : Nat} {l : List Jb} {i : Nat}, k + i = l.length → 1 ≤ l.length → Pre l os i → Bd l → Ords os l.length →
  FnM Tryd.prog 46 [.st false (.arr JT l), .lit (.int .i64 i), .padr 1000000000 0, .padr 1000000001 0] [(1000000000, .box [.lit (.int .i64 P), .st true (.arr JT l0), .st true (.arr OT os)]), (1000000001, .box1 (.fn 46 [.padr 1000000000 0, .padr 1000000001 0]))]
   (.st true (.narr (.int .i64) ((growT P os k l i).getD [] : List Int))) [(1000000000, .box [.lit (.int .i64 P), .st true (.arr JT l0), .st true (.arr OT os)]), (1000000001, .box1 (.fn 46 [.padr 1000000000 0, .padr 1000000001 0]))]
 | 0, l, i, hk, h1, hp, hb, ho => grow0_at hP (by omega) h1 hb ho
 | k + 1, l, i, hk, h1, hp, hb, ho => by
  have hi : i < l.length := by omega
  have hr := hp.rg i hi
  exact growS_at hP (by omega) hp hb ho fun d hd => grow_at hP (k := k) (l := fixT l i (jf l i + d)) (i := i + 1) (by rw [fix_len]; omega) (by rw [fix_len]; exact h1) (fix_pre hp hi (by omega) hd) (fix_bd (os := os) hb hi (by omega) hd) (by rw [fix_len]; exact ho)
def firstT (P : Int) (l : List Jb) (os : List Od) : List Int := (growT P os l.length l 0).getD []
theorem first_at {P : Int} {l : List Jb} {os : List Od} (h : VS P l os) : FnAt Tryd.prog true 35 [.agg [I64 P, .arr JT l, .arr OT os]] (.st true (.narr (.int .i64) (firstT P l os : List Int))) [] := by
 have hg := grow_at (P := P) (l0 := l) (os := os) (k := l.length) (l := l) (i := 0) (by have := h.pw; omega) rfl h.ln.1 h.pre (bd_of h) (ords_of h)
 refine FnAt.of_body tys_ok Tryd.func35 (by rfl) rfl Tryd.ntmps35 (by rw [Tryd.results35]) (by simp) ?_
 repeat' (first
 | refine W.seq ?_
 | refine W.block ?_
 | (refine W.regionM (id := 3) tys_ok [] [3] ?_; conv => whnf)
 | (refine W.region tys_ok [] ?_; conv => whnf)
 | (refine W.drawAll tys_ok [] mixed rfl ?_; conv => whnf)
 | (refine W.ret ?_; conv => whnf)
 | (refine W.skip ?_; conv => whnf)
 | (refine W.exit ?_; conv => whnf)
 | (refine callM_at (hg) ?_; conv => whnf)
 | (refine W.cond rfl (fun hb => ?_) (fun hb => ?_) <;> (try simp only [Int.reduceToNat, Int.reduceTDiv, Int.reduceTMod, minL, maxL, pickB, zHB, zSJ] at hb) <;> (try (first | (cases hb; done) | exact absurd hb (by decide) | (exfalso; omega))))
 | (refine Or.inl (And.intro trivial ?_); (conv => whnf))
 | ((with_reducible refine And.intro ?_ ?_); (focus (first | (with_reducible rfl) | omega | rfl | ((try simp only [Int.reduceToNat, Int.reduceTDiv, Int.reduceTMod, minL, maxL, pickB, zHB, zSJ, InK, Path.imp, zL] at *); omega))); (conv => whnf))
 | ((with_reducible refine And.intro (Side.out ?_) ?_); rotate_left; (conv => whnf))
 | ((first | refine retF1 ?_ | refine retF2 ?_) <;> (conv => whnf) <;> repeat' (first
 | exact trivial
 | (with_reducible rfl)
 | ((with_reducible refine And.intro ?_ ?_) <;> conv => whnf)
 | omega
 | rfl
 | (refine congrArg (SV.arr _) ?_)
 | (refine congrArg (Value.int _) ?_)
 | (refine congrArg Value.bool ?_)))); all_goals (try unfold Side)
 all_goals try (repeat' (first | (with_reducible rfl) | (with_reducible refine And.intro ?_ ?_) | omega | rfl | exact Or.inl rfl | exact Or.inr rfl | exact of_decide_eq_true rfl | exact Path.imp_of (of_decide_eq_true rfl) | (focus ((try simp only [Int.reduceToNat, Int.reduceTDiv, Int.reduceTMod, minL, maxL, pickB, zHB, zSJ, InK, Path.imp, zL] at *); omega)) | (refine app_le rfl ?_; omega)))
end Go.Proofs.YtckmhlpngolbpaaDoor
namespace Go.Sh
def cutJ (e : Int) (j : Jb) : Jb := (j.1, min j.2.1 e, j.2.2.1, j.2.2.2.1, ())
def cutK (l : List Jb) (e : Int) (i : Nat) : List Jb := (l.take i).map (cutJ e) ++ l.drop i
theorem cutK_len {l : List Jb} {e : Int} {i : Nat} : (cutK l e i).length = l.length := by
 simp only [cutK, List.length_append, List.length_map, List.length_take, List.length_drop]; omega
theorem cutK_zero {l : List Jb} {e : Int} : cutK l e 0 = l := by simp [cutK]
theorem cutK_end {l : List Jb} {e : Int} : cutK l e l.length = cutT l e := by unfold cutK cutT; rw [List.take_length, List.drop_length, List.append_nil]; rfl
theorem cutK_get {l : List Jb} {e : Int} {i : Nat} (hi : i < l.length) : (cutK l e i).getD i J0 = l.getD i J0 := by
 unfold cutK
 rw [List.getD_eq_getElem?_getD, List.getElem?_append_right (by simp; omega), List.getElem?_drop]
 simp only [List.length_map, List.length_take, List.getD_eq_getElem?_getD]
 congr 2; omega
theorem cutK_step {l : List Jb} {e : Int} {i : Nat} (hi : i < l.length) : (cutK l e i).set i (cutJ e (l.getD i J0)) = cutK l e (i + 1) := by
 unfold cutK
 have h1 : ((l.take i).map (cutJ e)).length = i := by simp; omega
 rw [List.set_append_right _ _ (by omega), h1, Nat.sub_self, List.drop_eq_getElem_cons hi, List.set_cons_zero, List.take_succ_eq_append_getElem hi, List.map_append, List.append_assoc]
 congr 1
 rw [List.getD_eq_getElem?_getD, List.getElem?_eq_getElem hi]
 rfl
noncomputable def okK (l : List Jb) (e : Int) (i : Nat) : Bool := open Classical in decide (∀ m, m < i → jf l m + jl l m ≤ min (jt l m) e)
theorem okK_zero {l : List Jb} {e : Int} : okK l e 0 = true := by classical exact decide_eq_true (by omega)
theorem okK_step {l : List Jb} {e : Int} {i : Nat} : okK l e (i + 1) = (okK l e i && decide (jf l i + jl l i ≤ min (jt l i) e)) := by
 classical
 unfold okK
 rw [Bool.eq_iff_iff]
 simp only [Bool.and_eq_true, decide_eq_true_eq]
 constructor
 · exact fun h => ⟨fun m hm => h m (by omega), h i (by omega)⟩
 · rintro ⟨h1, h2⟩ m hm
   by_cases g : m = i
   · subst g; exact h2
   · exact h1 m (by omega)
theorem okK_end {l : List Jb} {e : Int} : okK l e l.length = true ↔ okE l e := by
 classical
 unfold okK okE
 rw [decide_eq_true_eq]
theorem cut_vs {P : Int} {l : List Jb} {os : List Od} {e : Int} (h : VS P l os) (he : okE l e) : VS P (cutT l e) os := by
 refine ⟨h.pw, by rw [cut_len]; exact h.ln, h.lo, fun m hm => ?_, fun m hm => by rw [cut_len]; exact h.od m hm⟩
 rw [cut_len] at hm
 rw [cut_get hm]
 have h1 := h.rg m hm
 have h2 := he m hm
 unfold JobOk at h1 ⊢
 unfold jf jt jl jp at *
 dsimp only
 omega
theorem shortK_more {P : Int} {l : List Jb} {os : List Od} {r : Nat × List Int} {k : Nat} (h : shortK P l os k = some r) : ∀ {m : Nat}, k ≤ m → shortK P l os m = some r
  | 0, hm => by have : k = 0 := by omega
                subst this; exact h
  | m + 1, hm => by
    by_cases e : k = m + 1
    · subst e; exact h
    · rw [shortK, shortK_more h (m := m) (by omega)]
theorem shortK_hit {P : Int} {l : List Jb} {os : List Od} {k : Nat} {r : List Int} (h0 : shortK P l os k = none) (h1 : atE P l os ((k + 1 : Nat) : Int) = some r) (hk : k < 24) : shortK P l os 24 = some (k + 1, r) := by
 refine shortK_more (k := k + 1) ?_ (by omega)
 rw [shortK, h0]
 dsimp only
 rw [h1]; rfl
theorem shortK_miss {P : Int} {l : List Jb} {os : List Od} {k : Nat} (h0 : shortK P l os k = none) (h1 : atE P l os ((k + 1 : Nat) : Int) = none) : shortK P l os (k + 1) = none := by
 rw [shortK, h0]
 dsimp only
 rw [h1]; rfl
noncomputable def shT (P : Int) (l : List Jb) (os : List Od) : List Int := match shortK P l os 24 with
 | some r => r.2
 | none => []
noncomputable def shE (P : Int) (l : List Jb) (os : List Od) : Int := match shortK P l os 24 with
 | some r => (r.1 : Int)
 | none => 0
end Go.Sh
namespace Go.Proofs.YtckmhlpngolbpaaDoor
open Go Go.Vc Go.Sh
theorem ne_isEmpty {α : Type} {r : List α} (h : r ≠ []) : r.isEmpty = false := by cases r with | nil => exact absurd rfl h | cons => rfl
theorem firstT_cut {P : Int} {l : List Jb} {os : List Od} {e : Int} (he : okE l e) : firstT P (cutT l e) os = (atE P l os e).getD [] := by
 rw [atE_ok he]; unfold firstT; rw [cut_len]
theorem atE_ne {P : Int} {l : List Jb} {os : List Od} {e : Int} (h : VS P l os) (he : 0 ≤ e) {r : List Int} (hr : atE P l os e = some r) : r ≠ [] := fun hn => by
 have := atE_spec (P := P) (e := e) h.pre he
 rw [hr] at this
 have h1 := this.1.len
 have := h.ln
 rw [hn] at h1
 simp at h1
 omega
set_option maxHeartbeats 8000000 in
theorem Short_at {P : Int} {l : List Jb} {os : List Od} (h : VS P l os) : FnAt Tryd.prog true 13 [.agg [I64 P, .arr JT l, .arr OT os]]
  (.tup [.st true (.narr (.int .i64) (shT P l os : List Int)), .lit (.int .i64 (shE P l os)), .lit (.int .i64 (if shT P l os = [] then 5 else 0))]) [] := by
 have hv := valid_at (P := P) (l := l) (os := os) (by have := h.ln; omega) (by have := h.lo; omega)
 rw [validB_yes h] at hv
 have hln := h.ln
 have hcl := clone_at (l := l) hln.1 (by omega)
 have hrg := fun m (hm : m < l.length) => h.pre.rg m hm
 have hhit : ∀ k r, k < 24 → shortK P l os k = none → atE P l os ((k + 1 : Nat) : Int) = some r → r ≠ [] ∧ r.isEmpty = false ∧ shT P l os = r ∧ shE P l os = (k : Int) + 1 ∧ (if shT P l os = [] then (5 : Int) else 0) = 0 := fun k r hk h0 h1 => by
  have h2 := shortK_hit h0 h1 hk
  have h3 := atE_ne h (by omega) h1
  have h4 : shT P l os = r := by unfold shT; rw [h2]
  refine ⟨h3, ne_isEmpty h3, h4, by unfold shE; rw [h2]; rfl, by rw [h4, if_neg h3]⟩
 have hmiss : shortK P l os 24 = none → shT P l os = [] ∧ shE P l os = 0 ∧ (if shT P l os = [] then (5 : Int) else 0) = 5 := fun h0 => by
  have h4 : shT P l os = [] := by unfold shT; rw [h0]
  exact ⟨h4, by unfold shE; rw [h0], by rw [if_pos h4]⟩
 obtain ⟨R, hR⟩ : ∃ R, R = shT P l os := ⟨_, rfl⟩
 obtain ⟨E, hE⟩ : ∃ E, E = shE P l os := ⟨_, rfl⟩
 obtain ⟨X, hX⟩ : ∃ X : Int, X = if shT P l os = [] then 5 else 0 := ⟨_, rfl⟩
 rw [← hX, ← hR, ← hE] at hhit hmiss
 rw [← hX, ← hR, ← hE]
 clear hX hR hE
 have hll : @List.length JT.T l = l.length := rfl
 have hkl : ∀ (e : Int) i, @List.length JT.T (cutK l e i) = l.length := fun e i => cutK_len
 refine FnAt.of_body tys_ok Tryd.func13 (by rfl) rfl Tryd.ntmps13 (by rw [Tryd.results13]) (by simp) ?_
 repeat' (first
 | refine W.seq ?_
 | refine W.block ?_
 | (refine W.region tys_ok [] ?_; conv => whnf)
 | (refine W.drawAll tys_ok [] mixed rfl ?_; conv => whnf)
 | (refine W.ret ?_; conv => whnf)
 | (refine W.skip ?_; conv => whnf)
 | (refine W.exit ?_; conv => whnf)
 | (refine call_at (al := false) (hv) rfl rfl rfl rfl ?_; conv => whnf)
 | (refine W.cond rfl (fun hb => ?_) (fun hb => ?_) <;> (try simp only [Int.reduceToNat, Int.reduceTDiv, Int.reduceTMod, minL, maxL, pickB, zHB, zSJ] at hb) <;> (try (first | (cases hb; done) | exact absurd hb (by decide) | (exfalso; omega))))
 | ((with_reducible refine And.intro ?_ ?_); (focus (first | (with_reducible rfl) | omega | rfl | ((try simp only [Int.reduceToNat, Int.reduceTDiv, Int.reduceTMod, minL, maxL, pickB, zHB, zSJ, InK, Path.imp, zL] at *); omega))); (conv => whnf))
 | ((with_reducible refine And.intro (Side.out ?_) ?_); rotate_left; (conv => whnf))
 | ((first | refine retF1 ?_ | refine retF2 ?_) <;> (conv => whnf) <;> repeat' (first
 | exact trivial
 | (with_reducible rfl)
 | ((with_reducible refine And.intro ?_ ?_) <;> conv => whnf)
 | omega
 | rfl
 | (refine congrArg (SV.arr _) ?_)
 | (refine congrArg (Value.int _) ?_)
 | (refine congrArg Value.bool ?_)))); all_goals (try unfold Side)
 all_goals try (repeat' (first | (with_reducible rfl) | (with_reducible refine And.intro ?_ ?_) | omega | rfl | exact Or.inl rfl | exact Or.inr rfl | exact of_decide_eq_true rfl | exact Path.imp_of (of_decide_eq_true rfl) | (focus ((try simp only [Int.reduceToNat, Int.reduceTDiv, Int.reduceTMod, minL, maxL, pickB, zHB, zSJ, InK, Path.imp, zL] at *); omega)) | (refine app_le rfl ?_; omega)))
 refine W.loop (fun k : Nat => ⟨[(1, .st true (.sadr (.agg [I64 P, .arr JT l, .arr OT os]))), (5, .lit (.int .i64 (((k : Int) + 1))))], []⟩) (fun k => k ≤ 24 ∧ shortK P l os k = none) (fun k => 24 - k) (0) ?_ ?_
 · refine ⟨⟨Nat.zero_le _, rfl⟩, ?_⟩
   refine subF.ok ?_ <;> (conv => whnf) <;> repeat' (first
 | exact trivial
 | (with_reducible rfl)
 | ((with_reducible refine And.intro ?_ ?_) <;> conv => whnf)
 | omega
 | rfl
 | (refine congrArg (SV.arr _) ?_)
 | (refine congrArg (Value.int _) ?_)
 | (refine congrArg Value.bool ?_))
 · rintro k ⟨hk, hno⟩
   by_cases hkl2 : k < 24
   · repeat' (first
 | refine W.seq ?_
 | refine W.block ?_
 | (refine W.region tys_ok [] ?_; conv => whnf)
 | (refine W.drawAll tys_ok [] mixed rfl ?_; conv => whnf)
 | (refine W.ret ?_; conv => whnf)
 | (refine W.skip ?_; conv => whnf)
 | (refine W.exit ?_; conv => whnf)
 | (refine call_at (al := false) (hcl) rfl rfl rfl rfl ?_; conv => whnf)
 | (refine W.cond rfl (fun hb => ?_) (fun hb => ?_) <;> (try simp only [Int.reduceToNat, Int.reduceTDiv, Int.reduceTMod, minL, maxL, pickB, zHB, zSJ] at hb) <;> (try (first | (cases hb; done) | exact absurd hb (by decide) | (exfalso; omega))))
 | ((with_reducible refine And.intro ?_ ?_); (focus (first | (with_reducible rfl) | omega | rfl | ((try simp only [Int.reduceToNat, Int.reduceTDiv, Int.reduceTMod, minL, maxL, pickB, zHB, zSJ, InK, Path.imp, zL] at *); omega))); (conv => whnf))
 | ((with_reducible refine And.intro (Side.out ?_) ?_); rotate_left; (conv => whnf))
 | ((first | refine retF1 ?_ | refine retF2 ?_) <;> (conv => whnf) <;> repeat' (first
 | exact trivial
 | (with_reducible rfl)
 | ((with_reducible refine And.intro ?_ ?_) <;> conv => whnf)
 | omega
 | rfl
 | (refine congrArg (SV.arr _) ?_)
 | (refine congrArg (Value.int _) ?_)
 | (refine congrArg Value.bool ?_)))); all_goals (try unfold Side)
     all_goals try (repeat' (first | (with_reducible rfl) | (with_reducible refine And.intro ?_ ?_) | omega | rfl | exact Or.inl rfl | exact Or.inr rfl | exact of_decide_eq_true rfl | exact Path.imp_of (of_decide_eq_true rfl) | (focus ((try simp only [Int.reduceToNat, Int.reduceTDiv, Int.reduceTMod, minL, maxL, pickB, zHB, zSJ, InK, Path.imp, zL] at *); omega)) | (refine app_le rfl ?_; omega)))
     refine W.loop (fun i : Nat => ⟨[(1, .st true (.sadr (.agg [I64 P, .arr JT l, .arr OT os]))), (5, .lit (.int .i64 (((k : Int) + 1)))), (6, .padr 7000 0), (7, .lit (.bool ((okK l ((k : Int) + 1) i)))), (25, .lit (.int .i64 ((l.length : Int)))), (26, .lit (.int .i64 (i)))], [(7000, .box [.lit (.int .i64 P), .own 22000, .st true (.arr OT os)]), (22000, .row 58 JT true (cutK l ((k : Int) + 1) i))]⟩) (fun i => i ≤ l.length) (fun i => l.length - i) (0) ?_ ?_
     · refine ⟨Nat.zero_le _, ?_⟩
       refine subF.ok ?_ <;> (conv => whnf) <;> repeat' (first
 | exact trivial
 | (with_reducible rfl)
 | ((with_reducible refine And.intro ?_ ?_) <;> conv => whnf)
 | omega
 | rfl
 | (refine congrArg (SV.arr _) ?_)
 | (refine congrArg (Value.int _) ?_)
 | (refine congrArg Value.bool ?_))
       all_goals first | exact okK_zero.symm | exact cutK_zero.symm
     · intro i hi
       have hc1 := hkl ((k : Int) + 1) i
       by_cases hil : i < l.length
       · have hr := hrg i hil
         have hg := cutK_get (e := (k : Int) + 1) hil
         have hs := cutK_step (e := (k : Int) + 1) hil
         have ho := okK_step (l := l) (e := (k : Int) + 1) (i := i)
         have hS : (cutK l ((k : Int) + 1) i).set ((i : Int)).toNat (((cutK l ((k : Int) + 1) i).getD ((i : Int)).toNat J0).1, min ((cutK l ((k : Int) + 1) i).getD ((i : Int)).toNat J0).2.1 ((k : Int) + 1), ((cutK l ((k : Int) + 1) i).getD ((i : Int)).toNat J0).2.2) = cutK l ((k : Int) + 1) (i + 1) := by
          rw [Int.toNat_natCast, hg, ← hs]; rfl
         have hlt : ∀ y : Jb, ((i : Int)).toNat < ((cutK l ((k : Int) + 1) i).set ((i : Int)).toNat y).length := fun y => by
          rw [List.length_set, cutK_len]; omega
         have hgn : (cutK l ((k : Int) + 1) (i + 1)).getD i J0 = cutJ ((k : Int) + 1) (l.getD i J0) := by
          rw [← hs, List.getD_eq_getElem?_getD, List.getElem?_set]; simp [cutK_len, hil]
         have hI : ∀ S : List Jb, S = cutK l ((k : Int) + 1) (i + 1) → InK .i64 ((S.getD ((i : Int)).toNat J0).1 + (S.getD ((i : Int)).toNat J0).2.2.1) := fun S hSe => by
          rw [hSe, Int.toNat_natCast, hgn]
          unfold jf jt jl jp at hr
          simp only [InK, cutJ]; omega
         have hPk : ∀ S : List Jb, S = cutK l ((k : Int) + 1) (i + 1) → pickB (okK l ((k : Int) + 1) i) (Operand.tmp 57) (Operand.const (Value.bool false)) (decide ((S.getD ((i : Int)).toNat J0).1 + (S.getD ((i : Int)).toNat J0).2.2.1 ≤ (S.getD ((i : Int)).toNat J0).2.1)) false = okK l ((k : Int) + 1) (i + 1) := fun S hSe => by
          rw [hSe, Int.toNat_natCast, hgn, ho]
          cases okK l ((k : Int) + 1) i <;> rfl
         repeat' (first
 | refine W.seq ?_
 | refine W.block ?_
 | (refine W.drawPhTo (id := 14) tys_ok [] mixed [0, 1, 2, 6, 10, 18, 2, 66, 130, 258, 546, 2, 2050, 4098, 8194, 17410, 32770, 131071] [([0, 1, 2, 3, 4, 6, 7, 8, 11, 12, 13], 4, 32767), ([15, 16, 17], 0, 262143)] ⟨[(1, .st true (.sadr (.agg [I64 P, .arr JT l, .arr OT os]))), (5, .lit (.int .i64 (((k : Int) + 1)))), (6, .padr 7000 0), (7, .lit (.bool ((okK l ((k : Int) + 1) (i + 1))))), (25, .lit (.int .i64 ((l.length : Int)))), (26, .lit (.int .i64 (i)))], [(7000, .box [.lit (.int .i64 P), .own 22000, .st true (.arr OT os)]), (22000, .row 58 JT true (cutK l ((k : Int) + 1) (i + 1)))]⟩ (by decide +kernel) ?_ ?_ <;> (conv => whnf))
 | (refine W.region tys_ok [] ?_; conv => whnf)
 | (refine W.drawAll tys_ok [] mixed rfl ?_; conv => whnf)
 | (refine W.ret ?_; conv => whnf)
 | (refine W.skip ?_; conv => whnf)
 | (refine W.exit ?_; conv => whnf)
 | (refine Both.mk ?_ ?_ <;> (conv => whnf))
 | (refine W.cond rfl (fun hb => ?_) (fun hb => ?_) <;> (try simp only [Int.reduceToNat, Int.reduceTDiv, Int.reduceTMod, minL, maxL, pickB, zHB, zSJ] at hb) <;> (try (first | (cases hb; done) | exact absurd hb (by decide) | (exfalso; omega))))
 | ((with_reducible refine And.intro ?_ ?_); (focus (first | (with_reducible rfl) | omega | rfl | ((try simp only [Int.reduceToNat, Int.reduceTDiv, Int.reduceTMod, minL, maxL, pickB, zHB, zSJ, InK, Path.imp, zL] at *); omega))); (conv => whnf))
 | ((with_reducible refine And.intro (Side.out ?_) ?_); rotate_left; (conv => whnf))
 | ((first | refine retF1 ?_ | refine retF2 ?_ | refine subF.leaf ?_ | refine subF.side ?_) <;> (conv => whnf) <;> repeat' (first
 | exact trivial
 | (with_reducible rfl)
 | ((with_reducible refine And.intro ?_ ?_) <;> conv => whnf)
 | omega
 | rfl
 | (refine congrArg (SV.arr _) ?_)
 | (refine congrArg (Value.int _) ?_)
 | (refine congrArg Value.bool ?_)))); all_goals (try unfold Side)
         all_goals try (repeat' (first | (with_reducible rfl) | (with_reducible refine And.intro ?_ ?_) | omega | rfl | exact Or.inl rfl | exact Or.inr rfl | exact of_decide_eq_true rfl | exact Path.imp_of (of_decide_eq_true rfl) | (focus ((try simp only [Int.reduceToNat, Int.reduceTDiv, Int.reduceTMod, minL, maxL, pickB, zHB, zSJ, InK, Path.imp, zL] at *); omega)) | (refine app_le rfl ?_; omega)))
         all_goals try (first | exact hS | exact Path.imp_of (hlt _) | exact Path.imp_of (hI _ hS) | exact hPk _ hS)
         refine ⟨i + 1, ⟨by omega, by omega⟩, ?_⟩
         refine subF.ok ?_ <;> (conv => whnf) <;> repeat' (first
 | exact trivial
 | (with_reducible rfl)
 | ((with_reducible refine And.intro ?_ ?_) <;> conv => whnf)
 | omega
 | rfl
 | (refine congrArg (SV.arr _) ?_)
 | (refine congrArg (Value.int _) ?_)
 | (refine congrArg Value.bool ?_))
       · have hie : l.length = i := by omega
         subst hie
         have hce := cutK_end (l := l) (e := (k : Int) + 1)
         have hcast : ((k + 1 : Nat) : Int) = (k : Int) + 1 := by omega
         by_cases hok : okE l ((k : Int) + 1)
         · have hokb : okK l ((k : Int) + 1) l.length = true := okK_end.2 hok
           have hfa := first_at (cut_vs h hok)
           rw [firstT_cut hok] at hfa
           have hh := fun r => hhit k r hkl2 hno
           have hm := shortK_miss hno
           rw [hcast] at hh hm
           rw [hokb]
           cases hat : atE P l os ((k : Int) + 1) with
           | none =>
            rw [hat] at hfa
            have hfb : FnAt Tryd.prog true 35 [.agg [I64 P, .arr JT (cutT l ((k : Int) + 1)), .arr OT os]] (.st true (.narr (.int .i64) ([] : List Int))) [] := hfa
            repeat' (first
 | refine W.seq ?_
 | refine W.block ?_
 | (refine W.resub (x := Code.region 17 _ _) (Γ' := ⟨[(1, .st true (.sadr (.agg [I64 P, .arr JT l, .arr OT os]))), (5, .lit (.int .i64 (((k : Int) + 1)))), (6, .st true (.sadr (.agg [I64 P, .arr JT (cutT l ((k : Int) + 1)), .arr OT os])))], []⟩) ?_ (W.region tys_ok [] ?_); rotate_left; (conv => whnf))
 | (refine W.region tys_ok [] ?_; conv => whnf)
 | (refine W.drawAll tys_ok [] mixed rfl ?_; conv => whnf)
 | (refine W.ret ?_; conv => whnf)
 | (refine W.skip ?_; conv => whnf)
 | (refine W.exit ?_; conv => whnf)
 | (refine call_at (al := true) (hfb) rfl rfl rfl rfl ?_; conv => whnf)
 | (refine W.cond rfl (fun hb => ?_) (fun hb => ?_) <;> (try simp only [Int.reduceToNat, Int.reduceTDiv, Int.reduceTMod, minL, maxL, pickB, zHB, zSJ] at hb) <;> (try (first | (cases hb; done) | exact absurd hb (by decide) | (exfalso; omega))))
 | ((with_reducible refine And.intro ?_ ?_); (focus (first | (with_reducible rfl) | omega | rfl | ((try simp only [Int.reduceToNat, Int.reduceTDiv, Int.reduceTMod, minL, maxL, pickB, zHB, zSJ, InK, Path.imp, zL] at *); omega))); (conv => whnf))
 | ((with_reducible refine And.intro (Side.out ?_) ?_); rotate_left; (conv => whnf))
 | ((first | refine retF1 ?_ | refine retF2 ?_) <;> (conv => whnf) <;> repeat' (first
 | exact trivial
 | (with_reducible rfl)
 | ((with_reducible refine And.intro ?_ ?_) <;> conv => whnf)
 | omega
 | rfl
 | (refine congrArg (SV.arr _) ?_)
 | (refine congrArg (Value.int _) ?_)
 | (refine congrArg Value.bool ?_)))); all_goals (try unfold Side)
            all_goals try (repeat' (first | (with_reducible rfl) | (with_reducible refine And.intro ?_ ?_) | omega | rfl | exact Or.inl rfl | exact Or.inr rfl | exact of_decide_eq_true rfl | exact Path.imp_of (of_decide_eq_true rfl) | (focus ((try simp only [Int.reduceToNat, Int.reduceTDiv, Int.reduceTMod, minL, maxL, pickB, zHB, zSJ, InK, Path.imp, zL] at *); omega)) | (refine app_le rfl ?_; omega)))
            · refine ⟨k + 1, ⟨⟨by omega, hm hat⟩, by omega⟩, ?_⟩
              refine subF.ok ?_ <;> (conv => whnf) <;> repeat' (first
 | exact trivial
 | (with_reducible rfl)
 | ((with_reducible refine And.intro ?_ ?_) <;> conv => whnf)
 | omega
 | rfl
 | (refine congrArg (SV.arr _) ?_)
 | (refine congrArg (Value.int _) ?_)
 | (refine congrArg Value.bool ?_))
            · refine subF.ok ?_ <;> (conv => whnf) <;> repeat' (first
 | exact trivial
 | (with_reducible rfl)
 | ((with_reducible refine And.intro ?_ ?_) <;> conv => whnf)
 | omega
 | rfl
 | (refine congrArg (SV.arr _) ?_)
 | (refine congrArg (Value.int _) ?_)
 | (refine congrArg Value.bool ?_))
              all_goals exact hce
           | some r =>
            rw [hat] at hfa
            have hfb : FnAt Tryd.prog true 35 [.agg [I64 P, .arr JT (cutT l ((k : Int) + 1)), .arr OT os]] (.st true (.narr (.int .i64) (r : List Int))) [] := hfa
            obtain ⟨h1, h2, h3, h4, h5⟩ := hh r hat
            repeat' (first
 | refine W.seq ?_
 | refine W.block ?_
 | (refine W.resub (x := Code.region 17 _ _) (Γ' := ⟨[(1, .st true (.sadr (.agg [I64 P, .arr JT l, .arr OT os]))), (5, .lit (.int .i64 (((k : Int) + 1)))), (6, .st true (.sadr (.agg [I64 P, .arr JT (cutT l ((k : Int) + 1)), .arr OT os])))], []⟩) ?_ (W.region tys_ok [] ?_); rotate_left; (conv => whnf))
 | (refine W.region tys_ok [] ?_; conv => whnf)
 | (refine W.drawAll tys_ok [] mixed rfl ?_; conv => whnf)
 | (refine W.ret ?_; conv => whnf)
 | (refine W.skip ?_; conv => whnf)
 | (refine W.exit ?_; conv => whnf)
 | (refine call_at (al := true) (hfb) rfl rfl rfl rfl ?_; conv => whnf)
 | (refine W.cond rfl (fun hb => ?_) (fun hb => ?_) <;> (try simp only [Int.reduceToNat, Int.reduceTDiv, Int.reduceTMod, minL, maxL, pickB, zHB, zSJ] at hb) <;> (try (first | (cases hb; done) | exact absurd hb (by decide) | (exfalso; omega) | (exact Bool.noConfusion (hb.symm.trans h2)))))
 | ((with_reducible refine And.intro ?_ ?_); (focus (first | (with_reducible rfl) | omega | rfl | ((try simp only [Int.reduceToNat, Int.reduceTDiv, Int.reduceTMod, minL, maxL, pickB, zHB, zSJ, InK, Path.imp, zL] at *); omega))); (conv => whnf))
 | ((with_reducible refine And.intro (Side.out ?_) ?_); rotate_left; (conv => whnf))
 | ((first | refine retF1 ?_ | refine retF2 ?_) <;> (conv => whnf) <;> repeat' (first
 | exact trivial
 | (with_reducible rfl)
 | ((with_reducible refine And.intro ?_ ?_) <;> conv => whnf)
 | omega
 | rfl
 | (refine congrArg (SV.arr _) ?_)
 | (refine congrArg (Value.int _) ?_)
 | (refine congrArg Value.bool ?_)))); all_goals (try unfold Side)
            all_goals try (repeat' (first | (with_reducible rfl) | (with_reducible refine And.intro ?_ ?_) | omega | rfl | exact Or.inl rfl | exact Or.inr rfl | exact of_decide_eq_true rfl | exact Path.imp_of (of_decide_eq_true rfl) | (focus ((try simp only [Int.reduceToNat, Int.reduceTDiv, Int.reduceTMod, minL, maxL, pickB, zHB, zSJ, InK, Path.imp, zL] at *); omega)) | (refine app_le rfl ?_; omega)))
            all_goals try (first | exact congrArg (SV.narr _) h3.symm | exact h3.symm | exact h4.symm | exact h5.symm)
            · refine subF.ok ?_ <;> (conv => whnf) <;> repeat' (first
 | exact trivial
 | (with_reducible rfl)
 | ((with_reducible refine And.intro ?_ ?_) <;> conv => whnf)
 | omega
 | rfl
 | (refine congrArg (SV.arr _) ?_)
 | (refine congrArg (Value.int _) ?_)
 | (refine congrArg Value.bool ?_))
              all_goals exact hce
         · have hokb : okK l ((k : Int) + 1) l.length = false := by
            cases e : okK l ((k : Int) + 1) l.length with
            | false => rfl
            | true => exact absurd (okK_end.1 e) hok
           have hm := shortK_miss hno (by rw [hcast]; exact atE_no hok)
           rw [hokb]
           repeat' (first
 | refine W.seq ?_
 | refine W.block ?_
 | (refine W.region tys_ok [] ?_; conv => whnf)
 | (refine W.drawAll tys_ok [] mixed rfl ?_; conv => whnf)
 | (refine W.ret ?_; conv => whnf)
 | (refine W.skip ?_; conv => whnf)
 | (refine W.exit ?_; conv => whnf)
 | (refine W.cond rfl (fun hb => ?_) (fun hb => ?_) <;> (try simp only [Int.reduceToNat, Int.reduceTDiv, Int.reduceTMod, minL, maxL, pickB, zHB, zSJ] at hb) <;> (try (first | (cases hb; done) | exact absurd hb (by decide) | (exfalso; omega))))
 | ((with_reducible refine And.intro ?_ ?_); (focus (first | (with_reducible rfl) | omega | rfl | ((try simp only [Int.reduceToNat, Int.reduceTDiv, Int.reduceTMod, minL, maxL, pickB, zHB, zSJ, InK, Path.imp, zL] at *); omega))); (conv => whnf))
 | ((with_reducible refine And.intro (Side.out ?_) ?_); rotate_left; (conv => whnf))
 | ((first | refine retF1 ?_ | refine retF2 ?_) <;> (conv => whnf) <;> repeat' (first
 | exact trivial
 | (with_reducible rfl)
 | ((with_reducible refine And.intro ?_ ?_) <;> conv => whnf)
 | omega
 | rfl
 | (refine congrArg (SV.arr _) ?_)
 | (refine congrArg (Value.int _) ?_)
 | (refine congrArg Value.bool ?_)))); all_goals (try unfold Side)
           all_goals try (repeat' (first | (with_reducible rfl) | (with_reducible refine And.intro ?_ ?_) | omega | rfl | exact Or.inl rfl | exact Or.inr rfl | exact of_decide_eq_true rfl | exact Path.imp_of (of_decide_eq_true rfl) | (focus ((try simp only [Int.reduceToNat, Int.reduceTDiv, Int.reduceTMod, minL, maxL, pickB, zHB, zSJ, InK, Path.imp, zL] at *); omega)) | (refine app_le rfl ?_; omega)))
           refine ⟨k + 1, ⟨⟨by omega, hm⟩, by omega⟩, ?_⟩
           refine subF.ok ?_ <;> (conv => whnf) <;> repeat' (first
 | exact trivial
 | (with_reducible rfl)
 | ((with_reducible refine And.intro ?_ ?_) <;> conv => whnf)
 | omega
 | rfl
 | (refine congrArg (SV.arr _) ?_)
 | (refine congrArg (Value.int _) ?_)
 | (refine congrArg Value.bool ?_))
   · have hke : k = 24 := by omega
     subst hke
     obtain ⟨e1, e2, e3⟩ := hmiss hno
     repeat' (first
 | refine W.seq ?_
 | refine W.block ?_
 | (refine W.region tys_ok [] ?_; conv => whnf)
 | (refine W.drawAll tys_ok [] mixed rfl ?_; conv => whnf)
 | (refine W.ret ?_; conv => whnf)
 | (refine W.skip ?_; conv => whnf)
 | (refine W.exit ?_; conv => whnf)
 | (refine W.cond rfl (fun hb => ?_) (fun hb => ?_) <;> (try simp only [Int.reduceToNat, Int.reduceTDiv, Int.reduceTMod, minL, maxL, pickB, zHB, zSJ] at hb) <;> (try (first | (cases hb; done) | exact absurd hb (by decide) | (exfalso; omega))))
 | ((with_reducible refine And.intro ?_ ?_); (focus (first | (with_reducible rfl) | omega | rfl | ((try simp only [Int.reduceToNat, Int.reduceTDiv, Int.reduceTMod, minL, maxL, pickB, zHB, zSJ, InK, Path.imp, zL] at *); omega))); (conv => whnf))
 | ((with_reducible refine And.intro (Side.out ?_) ?_); rotate_left; (conv => whnf))
 | ((first | refine retF1 ?_ | refine retF2 ?_) <;> (conv => whnf) <;> repeat' (first
 | exact trivial
 | (with_reducible rfl)
 | ((with_reducible refine And.intro ?_ ?_) <;> conv => whnf)
 | omega
 | rfl
 | (refine congrArg (SV.arr _) ?_)
 | (refine congrArg (Value.int _) ?_)
 | (refine congrArg Value.bool ?_)))); all_goals (try unfold Side)
     all_goals try (repeat' (first | (with_reducible rfl) | (with_reducible refine And.intro ?_ ?_) | omega | rfl | exact Or.inl rfl | exact Or.inr rfl | exact of_decide_eq_true rfl | exact Path.imp_of (of_decide_eq_true rfl) | (focus ((try simp only [Int.reduceToNat, Int.reduceTDiv, Int.reduceTMod, minL, maxL, pickB, zHB, zSJ, InK, Path.imp, zL] at *); omega)) | (refine app_le rfl ?_; omega)))
     all_goals first | exact e1 | exact e1.symm | exact e2.symm | exact e3.symm
open Go Go.Vc Go.Sh
def jbs (m n : Nat) : List Jb := List.replicate n (0, (m : Int), 1, 1, ())
def ods : Nat → List Od
 | 0 => []
 | 1 => []
 | n + 2 => ods (n + 1) ++ [((n : Int), (n : Int) + 1, ())]
def idn (n : Nat) : List Int := List.map (fun i : Nat => Int.ofNat i) (List.range n)
theorem jbs_get {m n i : Nat} (hi : i < n) : (jbs m n).getD i J0 = (0, (m : Int), 1, 1, ()) := by
 unfold jbs
 rw [List.getD_eq_getElem?_getD, List.getElem?_replicate, if_pos hi]; rfl
theorem jbs_len {m n : Nat} : (jbs m n).length = n := by simp [jbs]
theorem jbs_step {m n : Nat} : jbs m n ++ [((0 : Int), (m : Int), (1 : Int), (1 : Int), ())] = jbs m (n + 1) := List.replicate_succ'.symm
theorem ods_mem {n i : Nat} (hi : i + 1 < n) : ((i : Int), (i : Int) + 1, ()) ∈ ods n := by
 induction n with
 | zero => omega
 | succ n ih =>
  match n, hi with
  | 0, hi => omega
  | k + 1, hi =>
   rw [ods]
   by_cases e : i = k
   · subst e; simp
   · exact List.mem_append_left _ (ih (by omega))
theorem ods_len {n : Nat} : (ods n).length = n - 1 := by
 match n with
 | 0 => rfl
 | 1 => rfl
 | k + 2 =>
  rw [ods, List.length_append, ods_len (n := k + 1)]
  simp
theorem ods_step {n : Nat} (hn : 0 < n) : ods n ++ [((n : Int) - 1, (n : Int), ())] = ods (n + 1) := by
 match n, hn with
 | k + 1, _ =>
  rw [ods]
  have e1 : ((k + 1 : Nat) : Int) - 1 = k := by omega
  rw [e1]; rfl
theorem walks_vs {m : Nat} (h1 : 1 ≤ m) (h6 : m ≤ 6) : VS 1 (jbs m m) (ods m) := by
 refine ⟨by decide, by rw [jbs_len]; exact ⟨h1, h6⟩, by rw [ods_len]; omega, fun i hi => ?_, fun i hi => ?_⟩
 · rw [jbs_len] at hi
   rw [jbs_get hi]
   unfold JobOk
   dsimp only
   omega
 · rw [jbs_len]
   rw [ods_len] at hi
   have : m = 2 ∨ m = 3 ∨ m = 4 ∨ m = 5 ∨ m = 6 := by omega
   unfold OrdOk
   rcases this with rfl | rfl | rfl | rfl | rfl
   all_goals (revert i; decide)
theorem idn_get {n i : Nat} (hi : i < n) : (idn n).getD i 0 = i := by
 unfold idn
 rw [List.getD_eq_getElem?_getD, List.getElem?_map, List.getElem?_range hi]; rfl
theorem idn_len {n : Nat} : (idn n).length = n := by simp [idn]
theorem walks_fit {m : Nat} (h1 : 1 ≤ m) (h6 : m ≤ 6) : Fit 1 (jbs m m) (ods m) (idn m) := by
 have : m = 1 ∨ m = 2 ∨ m = 3 ∨ m = 4 ∨ m = 5 ∨ m = 6 := by omega
 rcases this with rfl | rfl | rfl | rfl | rfl | rfl <;> exact ⟨by decide, by decide, by decide, by decide⟩
theorem walks_end {m : Nat} (h1 : 1 ≤ m) (h6 : m ≤ 6) : endT (jbs m m) (idn m) = m := by
 have : m = 1 ∨ m = 2 ∨ m = 3 ∨ m = 4 ∨ m = 5 ∨ m = 6 := by omega
 rcases this with rfl | rfl | rfl | rfl | rfl | rfl <;> decide
theorem walks_one {m : Nat} {s : List Int} (h : Fit 1 (jbs m m) (ods m) s) : s = idn m := by
 have hl := h.len
 rw [jbs_len] at hl
 have hr : ∀ i, i < m → 0 ≤ s.getD i 0 ∧ s.getD i 0 ≤ m - 1 := fun i hi => by
  have := h.rg i (by rw [jbs_len]; exact hi)
  unfold jf jt jl at this
  rw [jbs_get hi] at this
  exact this
 have ho : ∀ i, i + 1 < m → s.getD i 0 + 1 ≤ s.getD (i + 1) 0 := fun i hi => by
  have := h.ord _ (ods_mem hi)
  have e1 : ((i : Int)).toNat = i := rfl
  have e2 : ((i : Int) + 1).toNat = i + 1 := by omega
  dsimp only at this
  rw [e1, e2] at this
  unfold jl at this
  rw [jbs_get (by omega)] at this
  exact this
 have lo : ∀ i, i < m → (i : Int) ≤ s.getD i 0 := by
  intro i
  induction i with
  | zero => intro hi; exact (hr 0 hi).1
  | succ i ih =>
   intro hi
   have := ih (by omega)
   have := ho i hi
   omega
 have up : ∀ d, d < m → s.getD (m - 1 - d) 0 ≤ (m : Int) - 1 - d := by
  intro d
  induction d with
  | zero => intro hd; have := (hr (m - 1 - 0) (by omega)).2; omega
  | succ d ih =>
   intro hd
   have h1 := ih (by omega)
   have h2 := ho (m - 1 - (d + 1)) (by omega)
   rw [show m - 1 - (d + 1) + 1 = m - 1 - d by omega] at h2
   omega
 refine List.ext_getElem? fun i => ?_
 by_cases hi : i < m
 · have h1 := lo i hi
   have h2 := up (m - 1 - i) (by omega)
   rw [show m - 1 - (m - 1 - i) = i by omega] at h2
   have h3 : s.getD i 0 = i := by omega
   have h4 := idn_get hi
   rw [List.getD_eq_getElem?_getD, List.getElem?_eq_getElem (by omega)] at h3
   rw [List.getD_eq_getElem?_getD, List.getElem?_eq_getElem (by rw [idn_len]; exact hi)] at h4
   rw [List.getElem?_eq_getElem (by omega), List.getElem?_eq_getElem (by rw [idn_len]; exact hi)]
   exact congrArg some (h3.trans h4.symm)
 · rw [List.getElem?_eq_none (by omega), List.getElem?_eq_none (by rw [idn_len]; omega)]
theorem walks_short {m : Nat} (h1 : 1 ≤ m) (h6 : m ≤ 6) : shT 1 (jbs m m) (ods m) = idn m ∧ shE 1 (jbs m m) (ods m) = m := by
 have hv := walks_vs h1 h6
 have h := short_ok (P := 1) (os := ods m) hv.pre hv.ln.1
 unfold shT shE
 cases e : shortK 1 (jbs m m) (ods m) 24 with
 | none => rw [e] at h; exact absurd (walks_fit h1 h6) (h _)
 | some er =>
  obtain ⟨k, r⟩ := er
  rw [e] at h
  have h3 : r = idn m := walks_one h.1
  have h4 := h.2.1
  rw [h3, walks_end h1 h6] at h4
  exact ⟨h3, h4.symm⟩
end Go.Proofs.YtckmhlpngolbpaaDoor
