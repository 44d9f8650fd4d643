/- Joined of: H38. No condition. -/
import Derived.Test.YtmfholchenihaaaJ8
import Derived.Test.YtmfholchenihaaaJ11

namespace Go.Proofs.Ytmfholchenihaaa
open Go Go.Vc Go.Sh
set_option linter.unusedVariables false
set_option linter.unusedSimpArgs false
theorem all_first {P : Int} {l : List Jb} {os : List Od} (h : VS P l os) (h0 : 0 < (allL P l os (waysT l)).length) : (allL P l os (waysT l)).getD 0 [] = firstT P l os := by
  have hf := all_get (P := P) (os := os) h0
  rcases first_spec h with ⟨_, a2⟩ | ⟨_, a2, a3⟩
  · exact absurd hf (a2 _)
  obtain ⟨i, hi, hie⟩ := all_has a2
  have l1 := all_le (P := P) (os := os) (Nat.zero_le i) hi
  rw [hie] at l1
  exact lexle_anti l1 (a3 _ hf) (by rw [hf.len, a2.len])
theorem all_none {P : Int} {l : List Jb} {os : List Od} (h : ∀ s, ¬ Fit P l os s) : allL P l os (waysT l) = [] := by
  cases e : allL P l os (waysT l) with
  | nil => rfl
  | cons x r =>
    have : x ∈ allL P l os (waysT l) := by rw [e]; exact List.mem_cons_self
    exact absurd (all_mem.1 this) (h x)
set_option maxHeartbeats 16000000 in
theorem ShaftFirsts_at (P : Int) (l0 : List Jb) (os0 : List Od) : FnAt Try.prog false 3 [.agg [I64 P, .arr JT l0, .arr OT os0]] (.lit (.bool true)) [] := by
  obtain ⟨l, hl⟩ : ∃ l, l = l0.take 7 := ⟨_, rfl⟩
  obtain ⟨os, hos⟩ : ∃ os, os = os0.take 21 := ⟨_, rfl⟩
  have hll : l.length ≤ 1000 := by rw [hl, List.length_take]; omega
  have hlo : os.length ≤ 1000 := by rw [hos, List.length_take]; omega
  have hfw := few_eq (P := P) hl hos
  have hv := validR_at (P := P) hll hlo
  by_cases h : VS P l os
  · rw [validB_yes h] at hv
    have hw := ways_at h
    by_cases hW : waysT l ≤ 4096
    · have hm : min (4097 : Int) (waysT l) = waysT l := by omega
      rw [hm] at hw
      have ha := allR_at h (by omega)
      have hs := shortR_at h (by omega)
      have c2 := Short_at h
      rcases first_spec h with ⟨h1, h2⟩ | ⟨h1, h2, h3⟩
      · have c1 := First_none h h1
        rw [all_none h2] at ha
        rcases sh_spec h with ⟨g1, g2, g3⟩ | ⟨_, g2, _⟩
        · rw [g1, g2, if_pos rfl] at c2
          refine FnAt.of_body tys_ok Try.func3 (by rfl) rfl Try.ntmps3 (by rw [Try.results3]) (by simp) ?_
  
          repeat' (first
 | refine W.seq ?_
 | refine W.block ?_
 | (refine W.resub (x := Code.region 2 _ _) (Γ' := ⟨[(3, .st true (.sadr (.agg [I64 P, .arr JT l, .arr OT os])))], []⟩) ?_ (W.region tys_ok [] ?_); rotate_left; (conv => whnf))
 | (refine W.region tys_ok [] ?_; conv => whnf)
 | (refine W.drawAll tys_ok [] mixed rfl ?_; conv => whnf)
 | (refine W.ret ?_; conv => whnf)
 | (refine W.skip ?_; conv => whnf)
 | (refine W.exit ?_; conv => whnf)
 | (refine call_at (al := false) (hfw) rfl rfl rfl rfl ?_; conv => whnf)
 | (refine call_at (al := true) (c1) rfl rfl rfl rfl ?_; conv => whnf)
 | (refine call_at (al := true) (c2) rfl rfl rfl rfl ?_; conv => whnf)
 | (refine call_at (al := false) (hv) rfl rfl rfl rfl ?_; conv => whnf)
 | (refine call_at (al := false) (hw) rfl rfl rfl rfl ?_; conv => whnf)
 | (refine call_at (al := false) (ha) rfl rfl rfl rfl ?_; conv => whnf)
 | (refine call_at (al := false) (lives_at) rfl rfl rfl rfl ?_; conv => whnf)
 | (refine W.cond rfl (fun hb => ?_) (fun hb => ?_) <;> (try simp only [Int.reduceToNat, Int.reduceTDiv, Int.reduceTMod, minL, maxL, pickB, zHB, zSH] at hb) <;> (try (first | (cases hb; done) | exact absurd hb (by decide) | (exfalso; omega) | (omega))))
 | ((with_reducible refine And.intro ?_ ?_); (focus (first | (with_reducible rfl) | omega | rfl | ((try simp only [Int.reduceToNat, Int.reduceTDiv, Int.reduceTMod, minL, maxL, pickB, zHB, zSH, InK, Path.imp, zL] at *); omega))); (conv => whnf))
 | ((with_reducible refine And.intro (Side.out ?_) ?_); rotate_left; (conv => whnf))
 | ((first | refine retF1 ?_ | refine retF2 ?_) <;> (conv => whnf) <;> repeat' (first
 | exact trivial
 | (with_reducible rfl)
 | ((with_reducible refine And.intro ?_ ?_) <;> conv => whnf)
 | omega
 | rfl
 | (refine congrArg (SV.arr _) ?_)
 | (refine congrArg (Value.int _) ?_)
 | (refine congrArg Value.bool ?_)))); all_goals (try unfold Side)
          all_goals try (repeat' (first | (with_reducible rfl) | (with_reducible refine And.intro ?_ ?_) | omega | rfl | exact Or.inl rfl | exact Or.inr rfl | exact of_decide_eq_true rfl | exact Path.imp_of (of_decide_eq_true rfl) | (focus ((try simp only [Int.reduceToNat, Int.reduceTDiv, Int.reduceTMod, minL, maxL, pickB, zHB, zSH, InK, Path.imp, zL] at *); omega)) | (refine app_le rfl ?_; omega)))
          all_goals try refine subF.ok ?_ <;> (conv => whnf) <;> repeat' (first
 | exact trivial
 | (with_reducible rfl)
 | ((with_reducible refine And.intro ?_ ?_) <;> conv => whnf)
 | omega
 | rfl
 | (refine congrArg (SV.arr _) ?_)
 | (refine congrArg (Value.int _) ?_)
 | (refine congrArg Value.bool ?_))
        · exact absurd g2 (h2 _)
      · have c1 := First_ok h rfl h1
        rcases sh_spec h with ⟨_, _, g3⟩ | ⟨g1, g2, g3, g4, g5⟩
        · exact absurd h2 (g3 _)
        rw [if_neg g1] at c2
        obtain ⟨i0, hi0, _⟩ := all_has h2
        have hA0 := all_first h (by omega)
        have hAl : (allL P l os (waysT l)).length ≤ 4096 := Nat.le_trans allL_len hW
        have hAp : 0 < (allL P l os (waysT l)).length := by omega
        obtain ⟨A, hA⟩ : ∃ A, A = allL P l os (waysT l) := ⟨_, rfl⟩
        rw [← hA] at ha hA0 hAl hAp
        have rl := h2.len
        have ml := g2.len
        obtain ⟨r, hr⟩ : ∃ r, r = firstT P l os := ⟨_, rfl⟩
        obtain ⟨m, hmm⟩ : ∃ m, m = shT P l os := ⟨_, rfl⟩
        obtain ⟨E, hE⟩ : ∃ E, E = shE P l os := ⟨_, rfl⟩
        rw [← hr] at c1 hA0 rl h1
        rw [← hmm] at c2 hs ml g1
        rw [← hE] at c2 hs
        have s1 := same_at (a := r) (b := r) (by omega) (by omega)
        have s2 := same_at (a := m) (b := m) (by omega) (by omega)
        rw [decide_eq_true rfl] at s1 s2
        have s1' : FnAt Try.prog false 23 [.arr (.int .i64) r, .arr (.int .i64) (A.getD 0 [])] (.lit (.bool true)) [] := by rw [hA0]; exact s1
        have hlA : @List.length (Ty.sl (.int .i64)).T A = A.length := rfl
        refine FnAt.of_body tys_ok Try.func3 (by rfl) rfl Try.ntmps3 (by rw [Try.results3]) (by simp) ?_
  
        repeat' (first
 | refine W.seq ?_
 | refine W.block ?_
 | (refine W.resub (x := Code.region 2 _ _) (Γ' := ⟨[(3, .st true (.sadr (.agg [I64 P, .arr JT l, .arr OT os])))], []⟩) ?_ (W.region tys_ok [] ?_); rotate_left; (conv => whnf))
 | (refine W.resub (x := Code.region 9 _ _) (Γ' := ⟨[(3, .st true (.sadr (.agg [I64 P, .arr JT l, .arr OT os]))), (4, .st true (.arr (.int .i64) (r : List Int))), (5, .lit (.int .i64 (0))), (6, .st true (.arr (.int .i64) (m : List Int))), (7, .lit (.int .i64 (E))), (8, .lit (.int .i64 (0))), (9, .st true (.arr (.sl (.int .i64)) (A : List (List Int))))], []⟩) ?_ (W.region tys_ok [] ?_); rotate_left; (conv => whnf))
 | (refine W.resub (x := Code.region 12 _ _) (Γ' := ⟨[(3, .st true (.sadr (.agg [I64 P, .arr JT l, .arr OT os]))), (4, .st true (.arr (.int .i64) (r : List Int))), (5, .lit (.int .i64 (0))), (6, .st true (.arr (.int .i64) (m : List Int))), (7, .lit (.int .i64 (E))), (8, .lit (.int .i64 (0))), (9, .st true (.arr (.sl (.int .i64)) (A : List (List Int)))), (10, .st true (.arr (.int .i64) (m : List Int))), (11, .lit (.int .i64 (E)))], []⟩) ?_ (W.region tys_ok [] ?_); rotate_left; (conv => whnf))
 | (refine W.region tys_ok [] ?_; conv => whnf)
 | (refine W.drawAll tys_ok [] mixed rfl ?_; conv => whnf)
 | (refine W.ret ?_; conv => whnf)
 | (refine W.skip ?_; conv => whnf)
 | (refine W.exit ?_; conv => whnf)
 | (refine call_at (al := false) (hfw) rfl rfl rfl rfl ?_; conv => whnf)
 | (refine call_at (al := true) (c1) rfl rfl rfl rfl ?_; conv => whnf)
 | (refine call_at (al := true) (c2) rfl rfl rfl rfl ?_; conv => whnf)
 | (refine call_at (al := false) (hv) rfl rfl rfl rfl ?_; conv => whnf)
 | (refine call_at (al := false) (hw) rfl rfl rfl rfl ?_; conv => whnf)
 | (refine call_at (al := false) (ha) rfl rfl rfl rfl ?_; conv => whnf)
 | (refine call_at (al := false) (hs) rfl rfl rfl rfl ?_; conv => whnf)
 | (refine call_at (al := false) (s1') rfl rfl rfl rfl ?_; conv => whnf)
 | (refine call_at (al := false) (s2) rfl rfl rfl rfl ?_; conv => whnf)
 | (refine call_at (al := false) (lives_at) rfl rfl rfl rfl ?_; conv => whnf)
 | (refine W.cond rfl (fun hb => ?_) (fun hb => ?_) <;> (try simp only [Int.reduceToNat, Int.reduceTDiv, Int.reduceTMod, minL, maxL, pickB, zHB, zSH] at hb) <;> (try (first | (cases hb; done) | exact absurd hb (by decide) | (exfalso; omega) | (omega))))
 | ((with_reducible refine And.intro ?_ ?_); (focus (first | (with_reducible rfl) | omega | rfl | ((try simp only [Int.reduceToNat, Int.reduceTDiv, Int.reduceTMod, minL, maxL, pickB, zHB, zSH, InK, Path.imp, zL] at *); omega))); (conv => whnf))
 | ((with_reducible refine And.intro (Side.out ?_) ?_); rotate_left; (conv => whnf))
 | ((first | refine retF1 ?_ | refine retF2 ?_) <;> (conv => whnf) <;> repeat' (first
 | exact trivial
 | (with_reducible rfl)
 | ((with_reducible refine And.intro ?_ ?_) <;> conv => whnf)
 | omega
 | rfl
 | (refine congrArg (SV.arr _) ?_)
 | (refine congrArg (Value.int _) ?_)
 | (refine congrArg Value.bool ?_)))); all_goals (try unfold Side)
        all_goals try (repeat' (first | (with_reducible rfl) | (with_reducible refine And.intro ?_ ?_) | omega | rfl | exact Or.inl rfl | exact Or.inr rfl | exact of_decide_eq_true rfl | exact Path.imp_of (of_decide_eq_true rfl) | (focus ((try simp only [Int.reduceToNat, Int.reduceTDiv, Int.reduceTMod, minL, maxL, pickB, zHB, zSH, InK, Path.imp, zL] at *); omega)) | (refine app_le rfl ?_; omega)))
        all_goals try refine subF.ok ?_ <;> (conv => whnf) <;> repeat' (first
 | exact trivial
 | (with_reducible rfl)
 | ((with_reducible refine And.intro ?_ ?_) <;> conv => whnf)
 | omega
 | rfl
 | (refine congrArg (SV.arr _) ?_)
 | (refine congrArg (Value.int _) ?_)
 | (refine congrArg Value.bool ?_))
        all_goals simp [pickB]
    · have hm : min (4097 : Int) (waysT l) = 4097 := by omega
      rw [hm] at hw
      refine FnAt.of_body tys_ok Try.func3 (by rfl) rfl Try.ntmps3 (by rw [Try.results3]) (by simp) ?_
  
      repeat' (first
 | refine W.seq ?_
 | refine W.block ?_
 | (refine W.resub (x := Code.region 2 _ _) (Γ' := ⟨[(3, .st true (.sadr (.agg [I64 P, .arr JT l, .arr OT os])))], []⟩) ?_ (W.region tys_ok [] ?_); rotate_left; (conv => whnf))
 | (refine W.region tys_ok [] ?_; conv => whnf)
 | (refine W.drawAll tys_ok [] mixed rfl ?_; conv => whnf)
 | (refine W.ret ?_; conv => whnf)
 | (refine W.skip ?_; conv => whnf)
 | (refine W.exit ?_; conv => whnf)
 | (refine call_at (al := false) (hfw) rfl rfl rfl rfl ?_; conv => whnf)
 | (refine call_at (al := false) (hv) rfl rfl rfl rfl ?_; conv => whnf)
 | (refine call_at (al := false) (hw) rfl rfl rfl rfl ?_; conv => whnf)
 | (refine call_at (al := false) (lives_at) rfl rfl rfl rfl ?_; conv => whnf)
 | (refine W.cond rfl (fun hb => ?_) (fun hb => ?_) <;> (try simp only [Int.reduceToNat, Int.reduceTDiv, Int.reduceTMod, minL, maxL, pickB, zHB, zSH] at hb) <;> (try (first | (cases hb; done) | exact absurd hb (by decide) | (exfalso; omega) | (omega))))
 | ((with_reducible refine And.intro ?_ ?_); (focus (first | (with_reducible rfl) | omega | rfl | ((try simp only [Int.reduceToNat, Int.reduceTDiv, Int.reduceTMod, minL, maxL, pickB, zHB, zSH, InK, Path.imp, zL] at *); omega))); (conv => whnf))
 | ((with_reducible refine And.intro (Side.out ?_) ?_); rotate_left; (conv => whnf))
 | ((first | refine retF1 ?_ | refine retF2 ?_) <;> (conv => whnf) <;> repeat' (first
 | exact trivial
 | (with_reducible rfl)
 | ((with_reducible refine And.intro ?_ ?_) <;> conv => whnf)
 | omega
 | rfl
 | (refine congrArg (SV.arr _) ?_)
 | (refine congrArg (Value.int _) ?_)
 | (refine congrArg Value.bool ?_)))); all_goals (try unfold Side)
      all_goals try (repeat' (first | (with_reducible rfl) | (with_reducible refine And.intro ?_ ?_) | omega | rfl | exact Or.inl rfl | exact Or.inr rfl | exact of_decide_eq_true rfl | exact Path.imp_of (of_decide_eq_true rfl) | (focus ((try simp only [Int.reduceToNat, Int.reduceTDiv, Int.reduceTMod, minL, maxL, pickB, zHB, zSH, InK, Path.imp, zL] at *); omega)) | (refine app_le rfl ?_; omega)))
      all_goals try refine subF.ok ?_ <;> (conv => whnf) <;> repeat' (first
 | exact trivial
 | (with_reducible rfl)
 | ((with_reducible refine And.intro ?_ ?_) <;> conv => whnf)
 | omega
 | rfl
 | (refine congrArg (SV.arr _) ?_)
 | (refine congrArg (Value.int _) ?_)
 | (refine congrArg Value.bool ?_))
  · rw [validB_no h] at hv
    have c1 := First_no (P := P) hll hlo h
    have c2 := Short_no (P := P) hll hlo h
    refine FnAt.of_body tys_ok Try.func3 (by rfl) rfl Try.ntmps3 (by rw [Try.results3]) (by simp) ?_
  
    repeat' (first
 | refine W.seq ?_
 | refine W.block ?_
 | (refine W.resub (x := Code.region 2 _ _) (Γ' := ⟨[(3, .st true (.sadr (.agg [I64 P, .arr JT l, .arr OT os])))], []⟩) ?_ (W.region tys_ok [] ?_); rotate_left; (conv => whnf))
 | (refine W.region tys_ok [] ?_; conv => whnf)
 | (refine W.drawAll tys_ok [] mixed rfl ?_; conv => whnf)
 | (refine W.ret ?_; conv => whnf)
 | (refine W.skip ?_; conv => whnf)
 | (refine W.exit ?_; conv => whnf)
 | (refine call_at (al := false) (hfw) rfl rfl rfl rfl ?_; conv => whnf)
 | (refine call_at (al := true) (c1) rfl rfl rfl rfl ?_; conv => whnf)
 | (refine call_at (al := true) (c2) rfl rfl rfl rfl ?_; conv => whnf)
 | (refine call_at (al := false) (hv) rfl rfl rfl rfl ?_; conv => whnf)
 | (refine ⟨false, _, _, _, _, rfl, fun h => (show FnAt Try.prog false 17 [.agg [I64 P, .arr JT l, .arr OT os], I64 4097] (.lit (.int .i64 0)) [] from (by exfalso; simp only [Int.reduceToNat, Int.reduceTDiv, Int.reduceTMod, minL, maxL, pickB, zHB, zSH] at h)), rfl, rfl, rfl, ?_⟩; conv => whnf)
 | (refine call_at (al := false) (lives_at) rfl rfl rfl rfl ?_; conv => whnf)
 | (refine W.cond rfl (fun hb => ?_) (fun hb => ?_) <;> (try simp only [Int.reduceToNat, Int.reduceTDiv, Int.reduceTMod, minL, maxL, pickB, zHB, zSH] at hb) <;> (try (first | (cases hb; done) | exact absurd hb (by decide) | (exfalso; omega) | (omega))))
 | ((with_reducible refine And.intro ?_ ?_); (focus (first | (with_reducible rfl) | omega | rfl | ((try simp only [Int.reduceToNat, Int.reduceTDiv, Int.reduceTMod, minL, maxL, pickB, zHB, zSH, InK, Path.imp, zL] at *); omega))); (conv => whnf))
 | ((with_reducible refine And.intro (Side.out ?_) ?_); rotate_left; (conv => whnf))
 | ((first | refine retF1 ?_ | refine retF2 ?_) <;> (conv => whnf) <;> repeat' (first
 | exact trivial
 | (with_reducible rfl)
 | ((with_reducible refine And.intro ?_ ?_) <;> conv => whnf)
 | omega
 | rfl
 | (refine congrArg (SV.arr _) ?_)
 | (refine congrArg (Value.int _) ?_)
 | (refine congrArg Value.bool ?_)))); all_goals (try unfold Side)
    all_goals try (repeat' (first | (with_reducible rfl) | (with_reducible refine And.intro ?_ ?_) | omega | rfl | exact Or.inl rfl | exact Or.inr rfl | exact of_decide_eq_true rfl | exact Path.imp_of (of_decide_eq_true rfl) | (focus ((try simp only [Int.reduceToNat, Int.reduceTDiv, Int.reduceTMod, minL, maxL, pickB, zHB, zSH, InK, Path.imp, zL] at *); omega)) | (refine app_le rfl ?_; omega)))
    all_goals try refine subF.ok ?_ <;> (conv => whnf) <;> repeat' (first
 | exact trivial
 | (with_reducible rfl)
 | ((with_reducible refine And.intro ?_ ?_) <;> conv => whnf)
 | omega
 | rfl
 | (refine congrArg (SV.arr _) ?_)
 | (refine congrArg (Value.int _) ?_)
 | (refine congrArg Value.bool ?_))
end Go.Proofs.Ytmfholchenihaaa
