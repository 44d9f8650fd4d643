/- Joined of: H26 Ha17 H28 H29. No condition. -/
import Derived.Test.YtmfholchenihaaaJ7
import Derived.Test.YtmfholchenihaaaJ6

namespace Go.Proofs.Ytmfholchenihaaa
open Go Go.Vc Go.Sh
set_option linter.unusedVariables false
set_option linter.unusedSimpArgs false
theorem out_at {x : Int} : FnAt Try.prog false 45 [I64 x] (.lit (.bool (decide (outC x)))) [] := by
  by_cases h : outC x
  · rw [decide_eq_true h]
    unfold outC at h
    refine FnAt.of_body tys_ok Try.func45 (by rfl) rfl Try.ntmps45 (by rw [Try.results45]) (by simp) ?_
  
    repeat' (first
 | refine W.seq ?_
 | refine W.block ?_
 | (refine W.region tys_ok [] ?_; conv => whnf)
 | (refine W.drawAll tys_ok [] mixed rfl ?_; conv => whnf)
 | (refine W.ret ?_; conv => whnf)
 | (refine W.skip ?_; conv => whnf)
 | (refine W.exit ?_; conv => whnf)
 | (refine W.cond rfl (fun hb => ?_) (fun hb => ?_) <;> (try simp only [Int.reduceToNat, Int.reduceTDiv, Int.reduceTMod, minL, maxL, pickB, zHB, zSH] at hb) <;> (try (first | (cases hb; done) | exact absurd hb (by decide) | (exfalso; omega))))
 | ((with_reducible refine And.intro ?_ ?_); (focus (first | (with_reducible rfl) | omega | rfl | ((try simp only [Int.reduceToNat, Int.reduceTDiv, Int.reduceTMod, minL, maxL, pickB, zHB, zSH, InK, Path.imp, zL] at *); omega))); (conv => whnf))
 | ((with_reducible refine And.intro (Side.out ?_) ?_); rotate_left; (conv => whnf))
 | ((first | refine retF1 ?_ | refine retF2 ?_) <;> (conv => whnf) <;> repeat' (first
 | exact trivial
 | (with_reducible rfl)
 | ((with_reducible refine And.intro ?_ ?_) <;> conv => whnf)
 | omega
 | rfl
 | (refine congrArg (SV.arr _) ?_)
 | (refine congrArg (Value.int _) ?_)
 | (refine congrArg Value.bool ?_)))); all_goals (try unfold Side)
    all_goals try (repeat' (first | (with_reducible rfl) | (with_reducible refine And.intro ?_ ?_) | omega | rfl | exact Or.inl rfl | exact Or.inr rfl | exact of_decide_eq_true rfl | exact Path.imp_of (of_decide_eq_true rfl) | (focus ((try simp only [Int.reduceToNat, Int.reduceTDiv, Int.reduceTMod, minL, maxL, pickB, zHB, zSH, InK, Path.imp, zL] at *); omega)) | (refine app_le rfl ?_; omega)))
  · rw [decide_eq_false h]
    unfold outC at h
    refine FnAt.of_body tys_ok Try.func45 (by rfl) rfl Try.ntmps45 (by rw [Try.results45]) (by simp) ?_
  
    repeat' (first
 | refine W.seq ?_
 | refine W.block ?_
 | (refine W.region tys_ok [] ?_; conv => whnf)
 | (refine W.drawAll tys_ok [] mixed rfl ?_; conv => whnf)
 | (refine W.ret ?_; conv => whnf)
 | (refine W.skip ?_; conv => whnf)
 | (refine W.exit ?_; conv => whnf)
 | (refine W.cond rfl (fun hb => ?_) (fun hb => ?_) <;> (try simp only [Int.reduceToNat, Int.reduceTDiv, Int.reduceTMod, minL, maxL, pickB, zHB, zSH] at hb) <;> (try (first | (cases hb; done) | exact absurd hb (by decide) | (exfalso; omega))))
 | ((with_reducible refine And.intro ?_ ?_); (focus (first | (with_reducible rfl) | omega | rfl | ((try simp only [Int.reduceToNat, Int.reduceTDiv, Int.reduceTMod, minL, maxL, pickB, zHB, zSH, InK, Path.imp, zL] at *); omega))); (conv => whnf))
 | ((with_reducible refine And.intro (Side.out ?_) ?_); rotate_left; (conv => whnf))
 | ((first | refine retF1 ?_ | refine retF2 ?_) <;> (conv => whnf) <;> repeat' (first
 | exact trivial
 | (with_reducible rfl)
 | ((with_reducible refine And.intro ?_ ?_) <;> conv => whnf)
 | omega
 | rfl
 | (refine congrArg (SV.arr _) ?_)
 | (refine congrArg (Value.int _) ?_)
 | (refine congrArg Value.bool ?_)))); all_goals (try unfold Side)
    all_goals try (repeat' (first | (with_reducible rfl) | (with_reducible refine And.intro ?_ ?_) | omega | rfl | exact Or.inl rfl | exact Or.inr rfl | exact of_decide_eq_true rfl | exact Path.imp_of (of_decide_eq_true rfl) | (focus ((try simp only [Int.reduceToNat, Int.reduceTDiv, Int.reduceTMod, minL, maxL, pickB, zHB, zSH, InK, Path.imp, zL] at *); omega)) | (refine app_le rfl ?_; omega)))
theorem ixS_at {s : List Int} (hs : s.length ≤ 1000) : FnAt Try.prog false 59 [.arr (.int .i64) s, .fn 45 []] (.lit (.int .i64 (ixS s))) [] := by
  have hlo : @List.length (Ty.int .i64).T s = s.length := rfl
  have hf : ∀ i, FnAt Try.prog false 45 [I64 (s.getD i 0)] (.lit (.bool (decide (outC (s.getD i 0))))) [] := fun i => out_at
  have hhit := fun i => ixS_hit (s := s) (i := i)
  have hmiss := ixS_miss (s := s)
  obtain ⟨X, hX⟩ : ∃ X, X = ixS s := ⟨_, rfl⟩
  rw [← hX] at hhit hmiss ⊢
  clear hX
  refine FnAt.of_body tys_ok Try.func59 (by rfl) rfl Try.ntmps59 (by rw [Try.results59]) (by simp) ?_
  
  repeat' (first
 | refine W.seq ?_
 | refine W.block ?_
 | (refine W.region tys_ok [] ?_; conv => whnf)
 | (refine W.drawAll tys_ok [] mixed rfl ?_; conv => whnf)
 | (refine W.ret ?_; conv => whnf)
 | (refine W.skip ?_; conv => whnf)
 | (refine W.exit ?_; conv => whnf)
 | (refine W.cond rfl (fun hb => ?_) (fun hb => ?_) <;> (try simp only [Int.reduceToNat, Int.reduceTDiv, Int.reduceTMod, minL, maxL, pickB, zHB, zSH] at hb) <;> (try (first | (cases hb; done) | exact absurd hb (by decide) | (exfalso; omega))))
 | ((with_reducible refine And.intro ?_ ?_); (focus (first | (with_reducible rfl) | omega | rfl | ((try simp only [Int.reduceToNat, Int.reduceTDiv, Int.reduceTMod, minL, maxL, pickB, zHB, zSH, InK, Path.imp, zL] at *); omega))); (conv => whnf))
 | ((with_reducible refine And.intro (Side.out ?_) ?_); rotate_left; (conv => whnf))
 | ((first | refine retF1 ?_ | refine retF2 ?_) <;> (conv => whnf) <;> repeat' (first
 | exact trivial
 | (with_reducible rfl)
 | ((with_reducible refine And.intro ?_ ?_) <;> conv => whnf)
 | omega
 | rfl
 | (refine congrArg (SV.arr _) ?_)
 | (refine congrArg (Value.int _) ?_)
 | (refine congrArg Value.bool ?_)))); all_goals (try unfold Side)
  all_goals try (repeat' (first | (with_reducible rfl) | (with_reducible refine And.intro ?_ ?_) | omega | rfl | exact Or.inl rfl | exact Or.inr rfl | exact of_decide_eq_true rfl | exact Path.imp_of (of_decide_eq_true rfl) | (focus ((try simp only [Int.reduceToNat, Int.reduceTDiv, Int.reduceTMod, minL, maxL, pickB, zHB, zSH, InK, Path.imp, zL] at *); omega)) | (refine app_le rfl ?_; omega)))
  refine W.loop (fun i : Nat => ⟨[(0, .st false (.arr (.int .i64) (s : List Int))), (1, .fn 45 []), (7, .lit (.int .i64 ((s.length : Int)))), (8, .lit (.int .i64 (i)))], []⟩) (fun i => i ≤ s.length ∧ (∀ j, j < i → ¬ outC (s.getD j 0))) (fun i => s.length - i) (0) ?_ ?_
  · refine ⟨⟨Nat.zero_le _, by omega⟩, ?_⟩
    refine subF.ok ?_ <;> (conv => whnf) <;> repeat' (first
 | exact trivial
 | (with_reducible rfl)
 | ((with_reducible refine And.intro ?_ ?_) <;> conv => whnf)
 | omega
 | rfl
 | (refine congrArg (SV.arr _) ?_)
 | (refine congrArg (Value.int _) ?_)
 | (refine congrArg Value.bool ?_))
  · rintro i ⟨hi, hj⟩
    by_cases hil : i < s.length
    · have hc := hf i
      have hh := hhit i hil
      by_cases e : outC (s.getD i 0)
      · rw [decide_eq_true e] at hc
        have hh := hh e hj
        repeat' (first
 | refine W.seq ?_
 | refine W.block ?_
 | (refine W.region tys_ok [] ?_; conv => whnf)
 | (refine W.drawAll tys_ok [] mixed rfl ?_; conv => whnf)
 | (refine W.ret ?_; conv => whnf)
 | (refine W.skip ?_; conv => whnf)
 | (refine W.exit ?_; conv => whnf)
 | (refine call_at (al := false) (hc) rfl rfl rfl rfl ?_; conv => whnf)
 | (refine W.cond rfl (fun hb => ?_) (fun hb => ?_) <;> (try simp only [Int.reduceToNat, Int.reduceTDiv, Int.reduceTMod, minL, maxL, pickB, zHB, zSH] at hb) <;> (try (first | (cases hb; done) | exact absurd hb (by decide) | (exfalso; omega))))
 | ((with_reducible refine And.intro ?_ ?_); (focus (first | (with_reducible rfl) | omega | rfl | ((try simp only [Int.reduceToNat, Int.reduceTDiv, Int.reduceTMod, minL, maxL, pickB, zHB, zSH, InK, Path.imp, zL] at *); omega))); (conv => whnf))
 | ((with_reducible refine And.intro (Side.out ?_) ?_); rotate_left; (conv => whnf))
 | ((first | refine retF1 ?_ | refine retF2 ?_) <;> (conv => whnf) <;> repeat' (first
 | exact trivial
 | (with_reducible rfl)
 | ((with_reducible refine And.intro ?_ ?_) <;> conv => whnf)
 | omega
 | rfl
 | (refine congrArg (SV.arr _) ?_)
 | (refine congrArg (Value.int _) ?_)
 | (refine congrArg Value.bool ?_)))); all_goals (try unfold Side)
        all_goals try (repeat' (first | (with_reducible rfl) | (with_reducible refine And.intro ?_ ?_) | omega | rfl | exact Or.inl rfl | exact Or.inr rfl | exact of_decide_eq_true rfl | exact Path.imp_of (of_decide_eq_true rfl) | (focus ((try simp only [Int.reduceToNat, Int.reduceTDiv, Int.reduceTMod, minL, maxL, pickB, zHB, zSH, InK, Path.imp, zL] at *); omega)) | (refine app_le rfl ?_; omega)))
        all_goals exact hh.symm
      · rw [decide_eq_false e] at hc
        repeat' (first
 | refine W.seq ?_
 | refine W.block ?_
 | (refine W.region tys_ok [] ?_; conv => whnf)
 | (refine W.drawAll tys_ok [] mixed rfl ?_; conv => whnf)
 | (refine W.ret ?_; conv => whnf)
 | (refine W.skip ?_; conv => whnf)
 | (refine W.exit ?_; conv => whnf)
 | (refine call_at (al := false) (hc) rfl rfl rfl rfl ?_; conv => whnf)
 | (refine W.cond rfl (fun hb => ?_) (fun hb => ?_) <;> (try simp only [Int.reduceToNat, Int.reduceTDiv, Int.reduceTMod, minL, maxL, pickB, zHB, zSH] at hb) <;> (try (first | (cases hb; done) | exact absurd hb (by decide) | (exfalso; omega))))
 | ((with_reducible refine And.intro ?_ ?_); (focus (first | (with_reducible rfl) | omega | rfl | ((try simp only [Int.reduceToNat, Int.reduceTDiv, Int.reduceTMod, minL, maxL, pickB, zHB, zSH, InK, Path.imp, zL] at *); omega))); (conv => whnf))
 | ((with_reducible refine And.intro (Side.out ?_) ?_); rotate_left; (conv => whnf))
 | ((first | refine retF1 ?_ | refine retF2 ?_) <;> (conv => whnf) <;> repeat' (first
 | exact trivial
 | (with_reducible rfl)
 | ((with_reducible refine And.intro ?_ ?_) <;> conv => whnf)
 | omega
 | rfl
 | (refine congrArg (SV.arr _) ?_)
 | (refine congrArg (Value.int _) ?_)
 | (refine congrArg Value.bool ?_)))); all_goals (try unfold Side)
        all_goals try (repeat' (first | (with_reducible rfl) | (with_reducible refine And.intro ?_ ?_) | omega | rfl | exact Or.inl rfl | exact Or.inr rfl | exact of_decide_eq_true rfl | exact Path.imp_of (of_decide_eq_true rfl) | (focus ((try simp only [Int.reduceToNat, Int.reduceTDiv, Int.reduceTMod, minL, maxL, pickB, zHB, zSH, InK, Path.imp, zL] at *); omega)) | (refine app_le rfl ?_; omega)))
        refine ⟨i + 1, ⟨⟨by omega, fun m hm => ?_⟩, by omega⟩, ?_⟩
        · by_cases e2 : m = i
          · subst e2; exact e
          · exact hj m (by omega)
        · refine subF.ok ?_ <;> (conv => whnf) <;> repeat' (first
 | exact trivial
 | (with_reducible rfl)
 | ((with_reducible refine And.intro ?_ ?_) <;> conv => whnf)
 | omega
 | rfl
 | (refine congrArg (SV.arr _) ?_)
 | (refine congrArg (Value.int _) ?_)
 | (refine congrArg Value.bool ?_))
    · have hie : s.length = i := by omega
      subst hie
      have hm := hmiss hj
      repeat' (first
 | refine W.seq ?_
 | refine W.block ?_
 | (refine W.region tys_ok [] ?_; conv => whnf)
 | (refine W.drawAll tys_ok [] mixed rfl ?_; conv => whnf)
 | (refine W.ret ?_; conv => whnf)
 | (refine W.skip ?_; conv => whnf)
 | (refine W.exit ?_; conv => whnf)
 | (refine W.cond rfl (fun hb => ?_) (fun hb => ?_) <;> (try simp only [Int.reduceToNat, Int.reduceTDiv, Int.reduceTMod, minL, maxL, pickB, zHB, zSH] at hb) <;> (try (first | (cases hb; done) | exact absurd hb (by decide) | (exfalso; omega))))
 | ((with_reducible refine And.intro ?_ ?_); (focus (first | (with_reducible rfl) | omega | rfl | ((try simp only [Int.reduceToNat, Int.reduceTDiv, Int.reduceTMod, minL, maxL, pickB, zHB, zSH, InK, Path.imp, zL] at *); omega))); (conv => whnf))
 | ((with_reducible refine And.intro (Side.out ?_) ?_); rotate_left; (conv => whnf))
 | ((first | refine retF1 ?_ | refine retF2 ?_) <;> (conv => whnf) <;> repeat' (first
 | exact trivial
 | (with_reducible rfl)
 | ((with_reducible refine And.intro ?_ ?_) <;> conv => whnf)
 | omega
 | rfl
 | (refine congrArg (SV.arr _) ?_)
 | (refine congrArg (Value.int _) ?_)
 | (refine congrArg Value.bool ?_)))); all_goals (try unfold Side)
      all_goals try (repeat' (first | (with_reducible rfl) | (with_reducible refine And.intro ?_ ?_) | omega | rfl | exact Or.inl rfl | exact Or.inr rfl | exact of_decide_eq_true rfl | exact Path.imp_of (of_decide_eq_true rfl) | (focus ((try simp only [Int.reduceToNat, Int.reduceTDiv, Int.reduceTMod, minL, maxL, pickB, zHB, zSH, InK, Path.imp, zL] at *); omega)) | (refine app_le rfl ?_; omega)))
      all_goals exact hm.symm
theorem anyS_at {s : List Int} (hs : s.length ≤ 1000) : FnAt Try.prog false 44 [.arr (.int .i64) s, .fn 45 []] (.lit (.bool (decide (0 ≤ ixS s)))) [] := by
  have hi := ixS_at hs
  obtain ⟨X, hX⟩ : ∃ X, X = ixS s := ⟨_, rfl⟩
  rw [← hX] at hi ⊢
  refine FnAt.of_body tys_ok Try.func44 (by rfl) rfl Try.ntmps44 (by rw [Try.results44]) (by simp) ?_
  
  repeat' (first
 | refine W.seq ?_
 | refine W.block ?_
 | (refine W.region tys_ok [] ?_; conv => whnf)
 | (refine W.drawAll tys_ok [] mixed rfl ?_; conv => whnf)
 | (refine W.ret ?_; conv => whnf)
 | (refine W.skip ?_; conv => whnf)
 | (refine W.exit ?_; conv => whnf)
 | (refine call_at (al := false) (hi) rfl rfl rfl rfl ?_; conv => whnf)
 | (refine W.cond rfl (fun hb => ?_) (fun hb => ?_) <;> (try simp only [Int.reduceToNat, Int.reduceTDiv, Int.reduceTMod, minL, maxL, pickB, zHB, zSH] at hb) <;> (try (first | (cases hb; done) | exact absurd hb (by decide) | (exfalso; omega))))
 | ((with_reducible refine And.intro ?_ ?_); (focus (first | (with_reducible rfl) | omega | rfl | ((try simp only [Int.reduceToNat, Int.reduceTDiv, Int.reduceTMod, minL, maxL, pickB, zHB, zSH, InK, Path.imp, zL] at *); omega))); (conv => whnf))
 | ((with_reducible refine And.intro (Side.out ?_) ?_); rotate_left; (conv => whnf))
 | ((first | refine retF1 ?_ | refine retF2 ?_) <;> (conv => whnf) <;> repeat' (first
 | exact trivial
 | (with_reducible rfl)
 | ((with_reducible refine And.intro ?_ ?_) <;> conv => whnf)
 | omega
 | rfl
 | (refine congrArg (SV.arr _) ?_)
 | (refine congrArg (Value.int _) ?_)
 | (refine congrArg Value.bool ?_)))); all_goals (try unfold Side)
  all_goals try (repeat' (first | (with_reducible rfl) | (with_reducible refine And.intro ?_ ?_) | omega | rfl | exact Or.inl rfl | exact Or.inr rfl | exact of_decide_eq_true rfl | exact Path.imp_of (of_decide_eq_true rfl) | (focus ((try simp only [Int.reduceToNat, Int.reduceTDiv, Int.reduceTMod, minL, maxL, pickB, zHB, zSH, InK, Path.imp, zL] at *); omega)) | (refine app_le rfl ?_; omega)))
theorem Load_no {P : Int} {l : List Jb} {os : List Od} {s : List Int} (hl : l.length ≤ 1000) (ho : os.length ≤ 1000) (h : ¬ VS P l os) : FnAt Try.prog false 28 [.agg [I64 P, .arr JT l, .arr OT os], .arr (.int .i64) s] (.tup [.lit (.slice none 0 0), .lit (.int .i64 1)]) [] := by
  have hv := valid_at (P := P) hl ho
  rw [validB_no h] at hv
  refine FnAt.of_body tys_ok Try.func28 (by rfl) rfl Try.ntmps28 (by rw [Try.results28]) (by simp) ?_
  
  repeat' (first
 | refine W.seq ?_
 | refine W.block ?_
 | (refine W.region tys_ok [] ?_; conv => whnf)
 | (refine W.drawAll tys_ok [] mixed rfl ?_; conv => whnf)
 | (refine W.ret ?_; conv => whnf)
 | (refine W.skip ?_; conv => whnf)
 | (refine W.exit ?_; conv => whnf)
 | (refine call_at (al := false) (hv) rfl rfl rfl rfl ?_; conv => whnf)
 | (refine W.cond rfl (fun hb => ?_) (fun hb => ?_) <;> (try simp only [Int.reduceToNat, Int.reduceTDiv, Int.reduceTMod, minL, maxL, pickB, zHB, zSH] at hb) <;> (try (first | (cases hb; done) | exact absurd hb (by decide) | (exfalso; omega))))
 | ((with_reducible refine And.intro ?_ ?_); (focus (first | (with_reducible rfl) | omega | rfl | ((try simp only [Int.reduceToNat, Int.reduceTDiv, Int.reduceTMod, minL, maxL, pickB, zHB, zSH, InK, Path.imp, zL] at *); omega))); (conv => whnf))
 | ((with_reducible refine And.intro (Side.out ?_) ?_); rotate_left; (conv => whnf))
 | ((first | refine retF1 ?_ | refine retF2 ?_) <;> (conv => whnf) <;> repeat' (first
 | exact trivial
 | (with_reducible rfl)
 | ((with_reducible refine And.intro ?_ ?_) <;> conv => whnf)
 | omega
 | rfl
 | (refine congrArg (SV.arr _) ?_)
 | (refine congrArg (Value.int _) ?_)
 | (refine congrArg Value.bool ?_)))); all_goals (try unfold Side)
  all_goals try (repeat' (first | (with_reducible rfl) | (with_reducible refine And.intro ?_ ?_) | omega | rfl | exact Or.inl rfl | exact Or.inr rfl | exact of_decide_eq_true rfl | exact Path.imp_of (of_decide_eq_true rfl) | (focus ((try simp only [Int.reduceToNat, Int.reduceTDiv, Int.reduceTMod, minL, maxL, pickB, zHB, zSH, InK, Path.imp, zL] at *); omega)) | (refine app_le rfl ?_; omega)))
theorem Load_len {P : Int} {l : List Jb} {os : List Od} {s : List Int} (h : VS P l os) (hs : s.length ≤ 1000) (hne : s.length ≠ l.length) : FnAt Try.prog false 28 [.agg [I64 P, .arr JT l, .arr OT os], .arr (.int .i64) s] (.tup [.lit (.slice none 0 0), .lit (.int .i64 2)]) [] := by
  have hv := valid_at (P := P) (l := l) (os := os) (by have := h.ln; omega) (by have := h.lo; omega)
  rw [validB_yes h] at hv
  have hany := anyS_at hs
  have hll : @List.length JT.T l = l.length := rfl
  have hsl : @List.length (Ty.int .i64).T s = s.length := rfl
  have hln := h.ln
  refine FnAt.of_body tys_ok Try.func28 (by rfl) rfl Try.ntmps28 (by rw [Try.results28]) (by simp) ?_
  
  repeat' (first
 | refine W.seq ?_
 | refine W.block ?_
 | (refine W.resub (x := Code.region 3 _ _) (Γ' := ⟨[(1, .st false (.arr (.int .i64) (s : List Int))), (2, .st false (.sadr (.agg [I64 P, .arr JT l, .arr OT os])))], []⟩) ?_ (W.drawPh (id := 3) tys_ok [] mixed [0, 1, 0, 4, 8, 18, 32, 64, 192, 320, 768] [([0, 1, 2, 3, 4, 5, 6, 7], 1, 511), ([9, 10], 0, 2047)] (by decide +kernel) ?_); rotate_left; (conv => whnf))
 | (refine W.region tys_ok [] ?_; conv => whnf)
 | (refine W.drawAll tys_ok [] mixed rfl ?_; conv => whnf)
 | (refine W.ret ?_; conv => whnf)
 | (refine W.skip ?_; conv => whnf)
 | (refine W.exit ?_; conv => whnf)
 | (refine call_at (al := false) (hv) rfl rfl rfl rfl ?_; conv => whnf)
 | (refine call_at (al := false) (hany) rfl rfl rfl rfl ?_; conv => whnf)
 | (refine Both.mk ?_ ?_ <;> (conv => whnf))
 | (refine W.cond rfl (fun hb => ?_) (fun hb => ?_) <;> (try simp only [Int.reduceToNat, Int.reduceTDiv, Int.reduceTMod, minL, maxL, pickB, zHB, zSH] at hb) <;> (try (first | (cases hb; done) | exact absurd hb (by decide) | (exfalso; omega) | (omega))))
 | ((with_reducible refine And.intro ?_ ?_); (focus (first | (with_reducible rfl) | omega | rfl | ((try simp only [Int.reduceToNat, Int.reduceTDiv, Int.reduceTMod, minL, maxL, pickB, zHB, zSH, InK, Path.imp, zL] at *); omega))); (conv => whnf))
 | ((with_reducible refine And.intro (Side.out ?_) ?_); rotate_left; (conv => whnf))
 | ((first | refine retF1 ?_ | refine retF2 ?_ | refine subF.leaf ?_ | refine subF.side ?_) <;> (conv => whnf) <;> repeat' (first
 | exact trivial
 | (with_reducible rfl)
 | ((with_reducible refine And.intro ?_ ?_) <;> conv => whnf)
 | omega
 | rfl
 | (refine congrArg (SV.arr _) ?_)
 | (refine congrArg (Value.int _) ?_)
 | (refine congrArg Value.bool ?_)))); all_goals (try unfold Side)
  all_goals try (repeat' (first | (with_reducible rfl) | (with_reducible refine And.intro ?_ ?_) | omega | rfl | exact Or.inl rfl | exact Or.inr rfl | exact of_decide_eq_true rfl | exact Path.imp_of (of_decide_eq_true rfl) | (focus ((try simp only [Int.reduceToNat, Int.reduceTDiv, Int.reduceTMod, minL, maxL, pickB, zHB, zSH, InK, Path.imp, zL] at *); omega)) | (refine app_le rfl ?_; omega)))
theorem Load_bad {P : Int} {l : List Jb} {os : List Od} {s : List Int} (h : VS P l os) (hs : s.length = l.length) (hx : 0 ≤ ixS s) : FnAt Try.prog false 28 [.agg [I64 P, .arr JT l, .arr OT os], .arr (.int .i64) s] (.tup [.lit (.slice none 0 0), .lit (.int .i64 2)]) [] := by
  have hln := h.ln
  have hv := valid_at (P := P) (l := l) (os := os) (by have := h.ln; omega) (by have := h.lo; omega)
  rw [validB_yes h] at hv
  have hany := anyS_at (s := s) (by omega)
  rw [decide_eq_true hx] at hany
  have hll : @List.length JT.T l = l.length := rfl
  have hsl : @List.length (Ty.int .i64).T s = s.length := rfl
  refine FnAt.of_body tys_ok Try.func28 (by rfl) rfl Try.ntmps28 (by rw [Try.results28]) (by simp) ?_
  
  repeat' (first
 | refine W.seq ?_
 | refine W.block ?_
 | (refine W.resub (x := Code.region 3 _ _) (Γ' := ⟨[(1, .st false (.arr (.int .i64) (s : List Int))), (2, .st false (.sadr (.agg [I64 P, .arr JT l, .arr OT os])))], []⟩) ?_ (W.drawPh (id := 3) tys_ok [] mixed [0, 1, 0, 4, 8, 18, 32, 64, 192, 320, 768] [([0, 1, 2, 3, 4, 5, 6, 7], 1, 511), ([9, 10], 0, 2047)] (by decide +kernel) ?_); rotate_left; (conv => whnf))
 | (refine W.region tys_ok [] ?_; conv => whnf)
 | (refine W.drawAll tys_ok [] mixed rfl ?_; conv => whnf)
 | (refine W.ret ?_; conv => whnf)
 | (refine W.skip ?_; conv => whnf)
 | (refine W.exit ?_; conv => whnf)
 | (refine call_at (al := false) (hv) rfl rfl rfl rfl ?_; conv => whnf)
 | (refine call_at (al := false) (hany) rfl rfl rfl rfl ?_; conv => whnf)
 | (refine Both.mk ?_ ?_ <;> (conv => whnf))
 | (refine W.cond rfl (fun hb => ?_) (fun hb => ?_) <;> (try simp only [Int.reduceToNat, Int.reduceTDiv, Int.reduceTMod, minL, maxL, pickB, zHB, zSH] at hb) <;> (try (first | (cases hb; done) | exact absurd hb (by decide) | (exfalso; omega) | (omega))))
 | ((with_reducible refine And.intro ?_ ?_); (focus (first | (with_reducible rfl) | omega | rfl | ((try simp only [Int.reduceToNat, Int.reduceTDiv, Int.reduceTMod, minL, maxL, pickB, zHB, zSH, InK, Path.imp, zL] at *); omega))); (conv => whnf))
 | ((with_reducible refine And.intro (Side.out ?_) ?_); rotate_left; (conv => whnf))
 | ((first | refine retF1 ?_ | refine retF2 ?_ | refine subF.leaf ?_ | refine subF.side ?_) <;> (conv => whnf) <;> repeat' (first
 | exact trivial
 | (with_reducible rfl)
 | ((with_reducible refine And.intro ?_ ?_) <;> conv => whnf)
 | omega
 | rfl
 | (refine congrArg (SV.arr _) ?_)
 | (refine congrArg (Value.int _) ?_)
 | (refine congrArg Value.bool ?_)))); all_goals (try unfold Side)
  all_goals try (repeat' (first | (with_reducible rfl) | (with_reducible refine And.intro ?_ ?_) | omega | rfl | exact Or.inl rfl | exact Or.inr rfl | exact of_decide_eq_true rfl | exact Path.imp_of (of_decide_eq_true rfl) | (focus ((try simp only [Int.reduceToNat, Int.reduceTDiv, Int.reduceTMod, minL, maxL, pickB, zHB, zSH, InK, Path.imp, zL] at *); omega)) | (refine app_le rfl ?_; omega)))
set_option maxHeartbeats 8000000 in
theorem Load_ok {P : Int} {l : List Jb} {os : List Od} {s : List Int} (h : VS P l os) (hs : s.length = l.length) (hx : ∀ i, i < s.length → ¬ outC (s.getD i 0)) : FnAt Try.prog false 28 [.agg [I64 P, .arr JT l, .arr OT os], .arr (.int .i64) s] (.tup [.own 0, .lit (.int .i64 0)]) [(0, .row 3 (.int .i64) true (loadL l s 24))] := by
  have hln := h.ln
  have hv := valid_at (P := P) (l := l) (os := os) (by have := h.ln; omega) (by have := h.lo; omega)
  rw [validB_yes h] at hv
  have hany := anyS_at (s := s) (by omega)
  rw [ixS_miss hx, decide_eq_false (by decide)] at hany
  have hll : @List.length JT.T l = l.length := rfl
  have hsl : @List.length (Ty.int .i64).T s = s.length := rfl
  have hbd := bd_of h
  have hrg : ∀ i k : Nat, i ≤ s.length → 0 ≤ sumZ (fun m => jp l m * onT (s.getD m 0) (jl l m) k) i ∧ sumZ (fun m => jp l m * onT (s.getD m 0) (jl l m) k) i ≤ 10000 := fun i k hi => loadK_rg hbd hs hi
  have hSl : ∀ i t, @List.length (Ty.int .i64).T (ldS l s i t) = 24 := fun i t => ldS_len
  refine FnAt.of_body tys_ok Try.func28 (by rfl) rfl Try.ntmps28 (by rw [Try.results28]) (by simp) ?_
  
  repeat' (first
 | refine W.seq ?_
 | refine W.block ?_
 | (refine W.resub (x := Code.region 3 _ _) (Γ' := ⟨[(1, .st false (.arr (.int .i64) (s : List Int))), (2, .st false (.sadr (.agg [I64 P, .arr JT l, .arr OT os])))], []⟩) ?_ (W.drawPh (id := 3) tys_ok [] mixed [0, 1, 0, 4, 8, 18, 32, 64, 192, 320, 768] [([0, 1, 2, 3, 4, 5, 6, 7], 1, 511), ([9, 10], 0, 2047)] (by decide +kernel) ?_); rotate_left; (conv => whnf))
 | (refine W.region tys_ok [] ?_; conv => whnf)
 | (refine W.drawAll tys_ok [] mixed rfl ?_; conv => whnf)
 | (refine W.ret ?_; conv => whnf)
 | (refine W.skip ?_; conv => whnf)
 | (refine W.exit ?_; conv => whnf)
 | (refine call_at (al := false) (hv) rfl rfl rfl rfl ?_; conv => whnf)
 | (refine call_at (al := false) (hany) rfl rfl rfl rfl ?_; conv => whnf)
 | (refine Both.mk ?_ ?_ <;> (conv => whnf))
 | (refine W.cond rfl (fun hb => ?_) (fun hb => ?_) <;> (try simp only [Int.reduceToNat, Int.reduceTDiv, Int.reduceTMod, minL, maxL, pickB, zHB, zSH] at hb) <;> (try (first | (cases hb; done) | exact absurd hb (by decide) | (exfalso; omega) | (omega))))
 | ((with_reducible refine And.intro ?_ ?_); (focus (first | (with_reducible rfl) | omega | rfl | ((try simp only [Int.reduceToNat, Int.reduceTDiv, Int.reduceTMod, minL, maxL, pickB, zHB, zSH, InK, Path.imp, zL] at *); omega))); (conv => whnf))
 | ((with_reducible refine And.intro (Side.out ?_) ?_); rotate_left; (conv => whnf))
 | ((first | refine retF1 ?_ | refine retF2 ?_ | refine subF.leaf ?_ | refine subF.side ?_) <;> (conv => whnf) <;> repeat' (first
 | exact trivial
 | (with_reducible rfl)
 | ((with_reducible refine And.intro ?_ ?_) <;> conv => whnf)
 | omega
 | rfl
 | (refine congrArg (SV.arr _) ?_)
 | (refine congrArg (Value.int _) ?_)
 | (refine congrArg Value.bool ?_)))); all_goals (try unfold Side)
  all_goals try (repeat' (first | (with_reducible rfl) | (with_reducible refine And.intro ?_ ?_) | omega | rfl | exact Or.inl rfl | exact Or.inr rfl | exact of_decide_eq_true rfl | exact Path.imp_of (of_decide_eq_true rfl) | (focus ((try simp only [Int.reduceToNat, Int.reduceTDiv, Int.reduceTMod, minL, maxL, pickB, zHB, zSH, InK, Path.imp, zL] at *); omega)) | (refine app_le rfl ?_; omega)))
  all_goals try refine subF.ok ?_ <;> (conv => whnf) <;> repeat' (first
 | exact trivial
 | (with_reducible rfl)
 | ((with_reducible refine And.intro ?_ ?_) <;> conv => whnf)
 | omega
 | rfl
 | (refine congrArg (SV.arr _) ?_)
 | (refine congrArg (Value.int _) ?_)
 | (refine congrArg Value.bool ?_))
  refine W.loop (fun i : Nat => ⟨[(1, .st false (.arr (.int .i64) (s : List Int))), (6, .own 5000), (27, .st false (.arr JT l)), (28, .lit (.int .i64 ((l.length : Int)))), (29, .lit (.int .i64 (i)))], [(5000, .row 3 (.int .i64) true ((ldK l s i) : List Int))]⟩) (fun i => i ≤ l.length) (fun i => l.length - i) (0) ?_ ?_
  · refine ⟨Nat.zero_le _, ?_⟩
    refine subF.ok ?_ <;> (conv => whnf) <;> repeat' (first
 | exact trivial
 | (with_reducible rfl)
 | ((with_reducible refine And.intro ?_ ?_) <;> conv => whnf)
 | omega
 | rfl
 | (refine congrArg (SV.arr _) ?_)
 | (refine congrArg (Value.int _) ?_)
 | (refine congrArg Value.bool ?_))
    all_goals exact ldK_zero.symm
  · intro i hi
    have hKl : @List.length (Ty.int .i64).T (ldK l s i) = 24 := ldK_len
    by_cases hil : i < l.length
    · have hxi := hx i (by omega)
      unfold outC at hxi
      have hri := hbd.rg i hil
      obtain ⟨t0, ht0⟩ : ∃ t0 : Nat, (t0 : Int) = s.getD i 0 := ⟨(s.getD i 0).toNat, by omega⟩
      have hz := ldS_zero (l := l) ht0
      repeat' (first
 | refine W.seq ?_
 | refine W.block ?_
 | (refine W.region tys_ok [] ?_; conv => whnf)
 | (refine W.drawAll tys_ok [] mixed rfl ?_; conv => whnf)
 | (refine W.ret ?_; conv => whnf)
 | (refine W.skip ?_; conv => whnf)
 | (refine W.exit ?_; conv => whnf)
 | (refine W.cond rfl (fun hb => ?_) (fun hb => ?_) <;> (try simp only [Int.reduceToNat, Int.reduceTDiv, Int.reduceTMod, minL, maxL, pickB, zHB, zSH] at hb) <;> (try (first | (cases hb; done) | exact absurd hb (by decide) | (exfalso; omega))))
 | ((with_reducible refine And.intro ?_ ?_); (focus (first | (with_reducible rfl) | omega | rfl | ((try simp only [Int.reduceToNat, Int.reduceTDiv, Int.reduceTMod, minL, maxL, pickB, zHB, zSH, InK, Path.imp, zL] at *); omega))); (conv => whnf))
 | ((with_reducible refine And.intro (Side.out ?_) ?_); rotate_left; (conv => whnf))
 | ((first | refine retF1 ?_ | refine retF2 ?_) <;> (conv => whnf) <;> repeat' (first
 | exact trivial
 | (with_reducible rfl)
 | ((with_reducible refine And.intro ?_ ?_) <;> conv => whnf)
 | omega
 | rfl
 | (refine congrArg (SV.arr _) ?_)
 | (refine congrArg (Value.int _) ?_)
 | (refine congrArg Value.bool ?_)))); all_goals (try unfold Side)
      all_goals try (repeat' (first | (with_reducible rfl) | (with_reducible refine And.intro ?_ ?_) | omega | rfl | exact Or.inl rfl | exact Or.inr rfl | exact of_decide_eq_true rfl | exact Path.imp_of (of_decide_eq_true rfl) | (focus ((try simp only [Int.reduceToNat, Int.reduceTDiv, Int.reduceTMod, minL, maxL, pickB, zHB, zSH, InK, Path.imp, zL] at *); omega)) | (refine app_le rfl ?_; omega)))
      refine W.loop (fun t : Nat => ⟨[(1, .st false (.arr (.int .i64) (s : List Int))), (6, .own 5000), (7, .lit (.int .i64 (i))), (8, .st true (.sadr (.agg [I64 (l.getD i J0).1, I64 (l.getD i J0).2.1, I64 (l.getD i J0).2.2.1, I64 (l.getD i J0).2.2.2.1]))), (9, .lit (.int .i64 (t))), (27, .st false (.arr JT l)), (28, .lit (.int .i64 ((l.length : Int)))), (29, .lit (.int .i64 (i)))], [(5000, .row 3 (.int .i64) true ((ldS l s i t) : List Int))]⟩) (fun t => s.getD i 0 ≤ (t : Int) ∧ ((t : Int) ≤ s.getD i 0 + jl l i ∨ (t : Int) = s.getD i 0) ∧ t ≤ 24) (fun t => 24 - t) (t0) ?_ ?_
      · refine ⟨⟨by omega, by omega, by omega⟩, ?_⟩
        refine subF.ok ?_ <;> (conv => whnf) <;> repeat' (first
 | exact trivial
 | (with_reducible rfl)
 | ((with_reducible refine And.intro ?_ ?_) <;> conv => whnf)
 | omega
 | rfl
 | (refine congrArg (SV.arr _) ?_)
 | (refine congrArg (Value.int _) ?_)
 | (refine congrArg Value.bool ?_))
        all_goals first | exact ht0.symm | exact hz.symm
      · rintro t ⟨h1, h2, h3⟩
        have hl2 := hSl i t
        by_cases ht : (t : Int) < s.getD i 0 + jl l i ∧ t < 24
        · have hst := ldS_step (l := l) h1 ht.2
          have hg := ldS_get (l := l) (s := s) (i := i) (t := t) ht.2
          rw [if_neg (by omega)] at hg
          have hr := hrg i t (by omega)
          have ht' := ht
          unfold jl at ht'
          unfold jl jp at hri
          repeat' (first
 | refine W.seq ?_
 | refine W.block ?_
 | (refine W.drawPh (id := 10) tys_ok [] mixed [0, 0, 0, 6, 8, 0, 32, 80, 128, 257] [([0, 1, 2, 3, 4, 5, 6, 7, 8, 9], 0, 1023)] (by decide +kernel) ?_; conv => whnf)
 | (refine W.drawPh (id := 12) tys_ok [] mixed [0, 0, 3, 4, 0, 16, 40, 127, 255] [([1, 4, 5], 1, 51), ([], 1, 55), ([], 1, 63), ([6], 1, 255), ([], 1, 511)] (by decide +kernel) ?_; conv => whnf)
 | (refine W.region tys_ok [] ?_; conv => whnf)
 | (refine W.drawAll tys_ok [] mixed rfl ?_; conv => whnf)
 | (refine W.ret ?_; conv => whnf)
 | (refine W.skip ?_; conv => whnf)
 | (refine W.exit ?_; conv => whnf)
 | (refine Both.mk ?_ ?_ <;> (conv => whnf))
 | (refine W.cond rfl (fun hb => ?_) (fun hb => ?_) <;> (try simp only [Int.reduceToNat, Int.reduceTDiv, Int.reduceTMod, minL, maxL, pickB, zHB, zSH] at hb) <;> (try (first | (cases hb; done) | exact absurd hb (by decide) | (exfalso; omega) | (omega))))
 | ((with_reducible refine And.intro ?_ ?_); (focus (first | (with_reducible rfl) | omega | rfl | ((try simp only [Int.reduceToNat, Int.reduceTDiv, Int.reduceTMod, minL, maxL, pickB, zHB, zSH, InK, Path.imp, zL] at *); omega))); (conv => whnf))
 | ((with_reducible refine And.intro (Side.out ?_) ?_); rotate_left; (conv => whnf))
 | ((first | refine retF1 ?_ | refine retF2 ?_ | refine subF.leaf ?_ | refine subF.side ?_) <;> (conv => whnf) <;> repeat' (first
 | exact trivial
 | (with_reducible rfl)
 | ((with_reducible refine And.intro ?_ ?_) <;> conv => whnf)
 | omega
 | rfl
 | (refine congrArg (SV.arr _) ?_)
 | (refine congrArg (Value.int _) ?_)
 | (refine congrArg Value.bool ?_)))); all_goals (try unfold Side)
          all_goals try (repeat' (first | (with_reducible rfl) | (with_reducible refine And.intro ?_ ?_) | omega | rfl | exact Or.inl rfl | exact Or.inr rfl | exact of_decide_eq_true rfl | exact Path.imp_of (of_decide_eq_true rfl) | (focus ((try simp only [Int.reduceToNat, Int.reduceTDiv, Int.reduceTMod, minL, maxL, pickB, zHB, zSH, InK, Path.imp, zL] at *); omega)) | (refine app_le rfl ?_; omega)))
          refine ⟨t + 1, ⟨⟨by omega, by unfold jl; omega, by omega⟩, by omega⟩, ?_⟩
          refine subF.ok ?_ <;> (conv => whnf) <;> repeat' (first
 | exact trivial
 | (with_reducible rfl)
 | ((with_reducible refine And.intro ?_ ?_) <;> conv => whnf)
 | omega
 | rfl
 | (refine congrArg (SV.arr _) ?_)
 | (refine congrArg (Value.int _) ?_)
 | (refine congrArg Value.bool ?_))
          all_goals exact hst
        · have he := ldS_end (l := l) h1 h2 (by omega) (by omega)
          have ht' := ht
          unfold jl at ht'
          unfold jl jp at hri
          repeat' (first
 | refine W.seq ?_
 | refine W.block ?_
 | (refine W.drawPh (id := 10) tys_ok [] mixed [0, 0, 0, 6, 8, 0, 32, 80, 128, 257] [([0, 1, 2, 3, 4, 5, 6, 7, 8, 9], 0, 1023)] (by decide +kernel) ?_; conv => whnf)
 | (refine W.region tys_ok [] ?_; conv => whnf)
 | (refine W.drawAll tys_ok [] mixed rfl ?_; conv => whnf)
 | (refine W.ret ?_; conv => whnf)
 | (refine W.skip ?_; conv => whnf)
 | (refine W.exit ?_; conv => whnf)
 | (refine Both.mk ?_ ?_ <;> (conv => whnf))
 | (refine W.cond rfl (fun hb => ?_) (fun hb => ?_) <;> (try simp only [Int.reduceToNat, Int.reduceTDiv, Int.reduceTMod, minL, maxL, pickB, zHB, zSH] at hb) <;> (try (first | (cases hb; done) | exact absurd hb (by decide) | (exfalso; omega) | (omega))))
 | ((with_reducible refine And.intro ?_ ?_); (focus (first | (with_reducible rfl) | omega | rfl | ((try simp only [Int.reduceToNat, Int.reduceTDiv, Int.reduceTMod, minL, maxL, pickB, zHB, zSH, InK, Path.imp, zL] at *); omega))); (conv => whnf))
 | ((with_reducible refine And.intro (Side.out ?_) ?_); rotate_left; (conv => whnf))
 | ((first | refine retF1 ?_ | refine retF2 ?_ | refine subF.leaf ?_ | refine subF.side ?_) <;> (conv => whnf) <;> repeat' (first
 | exact trivial
 | (with_reducible rfl)
 | ((with_reducible refine And.intro ?_ ?_) <;> conv => whnf)
 | omega
 | rfl
 | (refine congrArg (SV.arr _) ?_)
 | (refine congrArg (Value.int _) ?_)
 | (refine congrArg Value.bool ?_)))); all_goals (try unfold Side)
          all_goals try (repeat' (first | (with_reducible rfl) | (with_reducible refine And.intro ?_ ?_) | omega | rfl | exact Or.inl rfl | exact Or.inr rfl | exact of_decide_eq_true rfl | exact Path.imp_of (of_decide_eq_true rfl) | (focus ((try simp only [Int.reduceToNat, Int.reduceTDiv, Int.reduceTMod, minL, maxL, pickB, zHB, zSH, InK, Path.imp, zL] at *); omega)) | (refine app_le rfl ?_; omega)))
          refine ⟨i + 1, ⟨by omega, by omega⟩, ?_⟩
          refine subF.ok ?_ <;> (conv => whnf) <;> repeat' (first
 | exact trivial
 | (with_reducible rfl)
 | ((with_reducible refine And.intro ?_ ?_) <;> conv => whnf)
 | omega
 | rfl
 | (refine congrArg (SV.arr _) ?_)
 | (refine congrArg (Value.int _) ?_)
 | (refine congrArg Value.bool ?_))
          all_goals exact he
    · have hie : l.length = i := by omega
      have hke : ldK l s i = loadL l s 24 := by rw [← hie, ← hs]; exact ldK_all
      subst hie
      rw [hke]
      repeat' (first
 | refine W.seq ?_
 | refine W.block ?_
 | (refine W.region tys_ok [] ?_; conv => whnf)
 | (refine W.drawAll tys_ok [] mixed rfl ?_; conv => whnf)
 | (refine W.ret ?_; conv => whnf)
 | (refine W.skip ?_; conv => whnf)
 | (refine W.exit ?_; conv => whnf)
 | (refine W.cond rfl (fun hb => ?_) (fun hb => ?_) <;> (try simp only [Int.reduceToNat, Int.reduceTDiv, Int.reduceTMod, minL, maxL, pickB, zHB, zSH] at hb) <;> (try (first | (cases hb; done) | exact absurd hb (by decide) | (exfalso; omega))))
 | ((with_reducible refine And.intro ?_ ?_); (focus (first | (with_reducible rfl) | omega | rfl | ((try simp only [Int.reduceToNat, Int.reduceTDiv, Int.reduceTMod, minL, maxL, pickB, zHB, zSH, InK, Path.imp, zL] at *); omega))); (conv => whnf))
 | ((with_reducible refine And.intro (Side.out ?_) ?_); rotate_left; (conv => whnf))
 | ((first | refine retF1 ?_ | refine retF2 ?_) <;> (conv => whnf) <;> repeat' (first
 | exact trivial
 | (with_reducible rfl)
 | ((with_reducible refine And.intro ?_ ?_) <;> conv => whnf)
 | omega
 | rfl
 | (refine congrArg (SV.arr _) ?_)
 | (refine congrArg (Value.int _) ?_)
 | (refine congrArg Value.bool ?_)))); all_goals (try unfold Side)
      all_goals try (repeat' (first | (with_reducible rfl) | (with_reducible refine And.intro ?_ ?_) | omega | rfl | exact Or.inl rfl | exact Or.inr rfl | exact of_decide_eq_true rfl | exact Path.imp_of (of_decide_eq_true rfl) | (focus ((try simp only [Int.reduceToNat, Int.reduceTDiv, Int.reduceTMod, minL, maxL, pickB, zHB, zSH, InK, Path.imp, zL] at *); omega)) | (refine app_le rfl ?_; omega)))
end Go.Proofs.Ytmfholchenihaaa
namespace Go.Sh
set_option linter.unusedVariables false
set_option linter.unusedSimpArgs false
def mkJ (j : Jb) : Jb := (j.1 % 10, j.1 % 10 + (j.2.1 % 5 + 1) + j.2.2.1 % 6, j.2.1 % 5 + 1, j.2.2.2.1 % 6 + 1, ())
def mkL (x : List Jb) (i : Nat) : List Jb := (x.take i).map mkJ
def mkJs (x : List Jb) : List Jb := if x = [] then [(0, 2, 1, 1, ())] else mkL x (min x.length 5)
theorem mkL_len {x : List Jb} {i : Nat} (h : i ≤ x.length) : (mkL x i).length = i := by simp [mkL]; omega
theorem mkL_step {x : List Jb} {i : Nat} (h : i < x.length) : mkL x i ++ [mkJ (x.getD i J0)] = mkL x (i + 1) := by
  unfold mkL
  rw [List.take_succ_eq_append_getElem h, List.map_append, List.getD_eq_getElem?_getD, List.getElem?_eq_getElem h]
  rfl
theorem mkJ_ok (j : Jb) : JobOk (mkJ j) := by
  unfold JobOk mkJ
  dsimp only
  omega
def mkO (n : Nat) (y : List Od) : Nat → List Od
  | 0 => []
  | k + 1 => if (y.getD k O0).1 % n = (y.getD k O0).2.1 % n then mkO n y k else mkO n y k ++ [((y.getD k O0).1 % n, (y.getD k O0).2.1 % n, ())]
def mkOs (n : Nat) (y : List Od) : List Od := mkO n y (min y.length 6)
theorem mkO_len {n : Nat} {y : List Od} : ∀ {k : Nat}, (mkO n y k).length ≤ k
  | 0 => Nat.le_refl _
  | k + 1 => by
    have := mkO_len (n := n) (y := y) (k := k)
    unfold mkO
    split
    · omega
    · simp; omega
theorem mkO_ok {n : Nat} {y : List Od} (hn : 1 ≤ n) : ∀ {k : Nat}, ∀ o ∈ mkO n y k, OrdOk n o
  | 0, o, h => by simp [mkO] at h
  | k + 1, o, h => by
    unfold mkO at h
    split at h
    · exact mkO_ok hn o h
    · rename_i hne
      rw [List.mem_append] at h
      rcases h with h | h
      · exact mkO_ok hn o h
      · rw [List.mem_singleton] at h
        subst h
        have h1 := Int.emod_nonneg (y.getD k O0).1 (b := (n : Int)) (by omega)
        have h2 := Int.emod_nonneg (y.getD k O0).2.1 (b := (n : Int)) (by omega)
        have h3 := Int.emod_lt_of_pos (y.getD k O0).1 (b := (n : Int)) (by omega)
        have h4 := Int.emod_lt_of_pos (y.getD k O0).2.1 (b := (n : Int)) (by omega)
        exact ⟨h1, h3, h2, h4, hne⟩
theorem mkJs_len {x : List Jb} : 1 ≤ (mkJs x).length ∧ (mkJs x).length ≤ 5 := by
  unfold mkJs
  split
  · simp
  · rename_i h
    have : x.length ≠ 0 := fun e => h (List.length_eq_zero_iff.1 e)
    rw [mkL_len (Nat.min_le_left _ _)]
    omega
theorem mkJs_ok {x : List Jb} : ∀ j ∈ mkJs x, JobOk j := fun j hj => by
  unfold mkJs at hj
  split at hj
  · rw [List.mem_singleton] at hj
    subst hj
    unfold JobOk
    decide
  · unfold mkL at hj
    rw [List.mem_map] at hj
    obtain ⟨k, _, rfl⟩ := hj
    exact mkJ_ok k
theorem getD_mem {α : Type} {l : List α} {i : Nat} {d : α} (hi : i < l.length) : l.getD i d ∈ l := by
  rw [List.getD_eq_getElem?_getD, List.getElem?_eq_getElem hi]; exact List.getElem_mem _
theorem mk_vs {P : Int} (hP : 1 ≤ P ∧ P ≤ 20) {x : List Jb} {y : List Od} : VS P (mkJs x) (mkOs (mkJs x).length y) := by
  have h1 := mkJs_len (x := x)
  have h2 := mkO_len (n := (mkJs x).length) (y := y) (k := min y.length 6)
  exact ⟨hP, ⟨h1.1, by omega⟩, by unfold mkOs; omega, fun i hi => mkJs_ok _ (getD_mem hi), fun i hi => mkO_ok (k := min y.length 6) h1.1 _ (getD_mem hi)⟩
end Go.Sh
namespace Go.Vc
def sfx : Nat → Code → Code
  | 0, c => c
  | k + 1, .seq _ c => sfx k c
  | _ + 1, c => c
def bodyOf (f : Func) : Code := match f.body with
  | some c => c
  | none => .skip
end Go.Vc
namespace Go.Proofs.Ytmfholchenihaaa
open Go Go.Vc Go.Sh
set_option linter.unusedVariables false
set_option linter.unusedSimpArgs false
abbrev U4 : Ty := .cons (.int .u8) (.cons (.int .u8) (.cons (.int .u8) (.cons (.int .u8) .nil)))
abbrev U2 : Ty := .cons (.int .u8) (.cons (.int .u8) .nil)
def sm4 (x : List Jb) : Prop := ∀ i : Nat, (0 ≤ (x.getD i J0).1 ∧ (x.getD i J0).1 ≤ 255) ∧ (0 ≤ (x.getD i J0).2.1 ∧ (x.getD i J0).2.1 ≤ 255) ∧ (0 ≤ (x.getD i J0).2.2.1 ∧ (x.getD i J0).2.2.1 ≤ 255) ∧ 0 ≤ (x.getD i J0).2.2.2.1 ∧ (x.getD i J0).2.2.2.1 ≤ 255
def sm2 (y : List Od) : Prop := ∀ i : Nat, (0 ≤ (y.getD i O0).1 ∧ (y.getD i O0).1 ≤ 255) ∧ 0 ≤ (y.getD i O0).2.1 ∧ (y.getD i O0).2.1 ≤ 255
theorem tm {p : Int} (h : 0 ≤ p) (k : Int) : Int.tmod p k = p % k := Int.tmod_eq_emod_of_nonneg h
theorem mkO_yes {n : Nat} {y : List Od} {k : Nat} (h : (y.getD k O0).1 % n = (y.getD k O0).2.1 % n) : mkO n y (k + 1) = mkO n y k := by rw [mkO, if_pos h]
theorem mkO_no {n : Nat} {y : List Od} {k : Nat} (h : ¬ (y.getD k O0).1 % n = (y.getD k O0).2.1 % n) : mkO n y k ++ [((y.getD k O0).1 % n, (y.getD k O0).2.1 % n, ())] = mkO n y (k + 1) := by rw [mkO, if_neg h]
set_option maxHeartbeats 8000000 in
theorem made2_at {p : Int} {x : List Jb} {y : List Od} {J : List Jb} (hJ : 1 ≤ J.length ∧ J.length ≤ 5) (hy : sm2 y) :
    W Try.prog 117 (sfx 4 (bodyOf Try.f27)) ⟨[(1, .st false (.sadr (.agg [.lit (.int .u8 p), .arr U4 x, .arr U2 y]))), (2, .padr 3000 0), (3, .padr 4000 0)], [(3000, .box [.lit (.int .i64 0), .lit (.slice none 0 0), .lit (.slice none 0 0)]), (4000, .box [.lit (.int .i64 (p % 6 + 1)), .own 5000, .lit (.slice none 0 0)]), (5000, .row 45 JT true J)]⟩ (bodyQ tys [.cell 2 25] (.strct [.lit (.int .i64 (p % 6 + 1)), .own 0, .own 1]) [(0, .row 45 JT true J), (1, .row 79 OT true (mkOs J.length y))]) := by
  -- func27 (by rfl)
  have hyl : ∀ i, @List.getD U2.T y i U2.dflt = y.getD i O0 := fun i => rfl
  have hly : @List.length U2.T y = y.length := rfl
  have hlJ : @List.length JT.T J = J.length := rfl
  unfold bodyOf Try.f27
  dsimp only [sfx]
  repeat' (first
 | refine W.seq ?_
 | refine W.block ?_
 | (refine W.region tys_ok [] ?_; conv => whnf)
 | (refine W.drawAll tys_ok [] mixed rfl ?_; conv => whnf)
 | (refine W.ret ?_; conv => whnf)
 | (refine W.skip ?_; conv => whnf)
 | (refine W.exit ?_; conv => whnf)
 | (refine W.cond rfl (fun hb => ?_) (fun hb => ?_) <;> (try simp only [Int.reduceToNat, Int.reduceTDiv, Int.reduceTMod, minL, maxL, pickB, zHB, zSH] at hb) <;> (try (first | (cases hb; done) | exact absurd hb (by decide) | (exfalso; omega))))
 | ((with_reducible refine And.intro ?_ ?_); (focus (first | (with_reducible rfl) | omega | rfl | ((try simp only [Int.reduceToNat, Int.reduceTDiv, Int.reduceTMod, minL, maxL, pickB, zHB, zSH, InK, Path.imp, zL] at *); omega))); (conv => whnf))
 | ((with_reducible refine And.intro (Side.out ?_) ?_); rotate_left; (conv => whnf))
 | ((first | refine retF1 ?_ | refine retF2 ?_) <;> (conv => whnf) <;> repeat' (first
 | exact trivial
 | (with_reducible rfl)
 | ((with_reducible refine And.intro ?_ ?_) <;> conv => whnf)
 | omega
 | rfl
 | (refine congrArg (SV.arr _) ?_)
 | (refine congrArg (Value.int _) ?_)
 | (refine congrArg Value.bool ?_)))); all_goals (try unfold Side)
  all_goals try (repeat' (first | (with_reducible rfl) | (with_reducible refine And.intro ?_ ?_) | omega | rfl | exact Or.inl rfl | exact Or.inr rfl | exact of_decide_eq_true rfl | exact Path.imp_of (of_decide_eq_true rfl) | (focus ((try simp only [Int.reduceToNat, Int.reduceTDiv, Int.reduceTMod, minL, maxL, pickB, zHB, zSH, InK, Path.imp, zL] at *); omega)) | (refine app_le rfl ?_; omega)))
  refine W.loop (fun i : Nat => ⟨[(1, .st false (.sadr (.agg [.lit (.int .u8 p), .arr U4 x, .arr U2 y]))), (2, .padr 3000 0), (3, .padr 4000 0), (9, .lit (.int .i64 (i)))], [(3000, .box [.lit (.int .i64 0), .lit (.slice none 0 0), .lit (.slice none 0 0)]), (4000, .box [.lit (.int .i64 (p % 6 + 1)), .own 5000, .own 6000]), (5000, .row 45 JT true J), (6000, .row 79 OT true (mkO J.length y i))]⟩) (fun i => i ≤ y.length ∧ i ≤ 6) (fun i => 6 - i) (0) ?_ ?_
  · refine ⟨⟨Nat.zero_le _, Nat.zero_le _⟩, ?_⟩
    refine subF.ok ?_ <;> (conv => whnf) <;> repeat' (first
 | exact trivial
 | (with_reducible rfl)
 | ((with_reducible refine And.intro ?_ ?_) <;> conv => whnf)
 | omega
 | rfl
 | (refine congrArg (SV.arr _) ?_)
 | (refine congrArg (Value.int _) ?_)
 | (refine congrArg Value.bool ?_))
    all_goals rfl
  · rintro i ⟨hi, hi2⟩
    obtain ⟨y0, y1⟩ := hy i
    have hlo := mkO_len (n := J.length) (y := y) (k := i)
    have hl : @List.length OT.T (mkO J.length y i) ≤ i := hlo
    by_cases hil : i < y.length ∧ i < 6
    · have t1 : Int.tmod (y.getD i O0).1 J.length = (y.getD i O0).1 % J.length := tm y0.1 _
      have t2 : Int.tmod (y.getD i O0).2.1 J.length = (y.getD i O0).2.1 % J.length := tm y1.1 _
      have r1 := Int.emod_nonneg (y.getD i O0).1 (b := (J.length : Int)) (by omega)
      have r2 := Int.emod_nonneg (y.getD i O0).2.1 (b := (J.length : Int)) (by omega)
      have r3 := Int.emod_lt_of_pos (y.getD i O0).1 (b := (J.length : Int)) (by omega)
      have r4 := Int.emod_lt_of_pos (y.getD i O0).2.1 (b := (J.length : Int)) (by omega)
      have ik1 : InK .i64 (y.getD i O0).1 := by simp only [InK]; omega
      have ik2 : InK .i64 (y.getD i O0).2.1 := by simp only [InK]; omega
      by_cases hc : (y.getD i O0).1 % J.length = (y.getD i O0).2.1 % J.length
      · have hn := mkO_yes hc
        repeat' (first
 | refine W.seq ?_
 | refine W.block ?_
 | (refine W.drawPhTo (id := 13) tys_ok [] mixed [0, 1, 0, 6, 8, 16, 32, 0, 128, 256, 576, 0, 2048, 0, 12288, 16384, 32768, 65536, 0, 262144, 524288, 1179648, 2047, 8388607] [([0, 1, 2, 3, 4, 5, 6, 7, 11, 12, 13, 14, 15, 16, 17, 18], 7, 8388607), ([23], 0, 16777215)] ⟨[(1, .st false (.sadr (.agg [.lit (.int .u8 p), .arr U4 x, .arr U2 y]))), (2, .padr 3000 0), (3, .padr 4000 0), (9, .lit (.int .i64 (i))), (10, .lit (.int .i64 (((y.getD i O0).1 % J.length)))), (11, .lit (.int .i64 (((y.getD i O0).2.1 % J.length))))], [(3000, .box [.lit (.int .i64 0), .lit (.slice none 0 0), .lit (.slice none 0 0)]), (4000, .box [.lit (.int .i64 (p % 6 + 1)), .own 5000, .own 6000]), (5000, .row 45 JT true J), (6000, .row 79 OT true (mkO J.length y i))]⟩ (by decide +kernel) ?_ ?_ <;> (conv => whnf))
 | (refine W.region tys_ok [] ?_; conv => whnf)
 | (refine W.drawAll tys_ok [] mixed rfl ?_; conv => whnf)
 | (refine W.ret ?_; conv => whnf)
 | (refine W.skip ?_; conv => whnf)
 | (refine W.exit ?_; conv => whnf)
 | (refine Both.mk ?_ ?_ <;> (conv => whnf))
 | (refine W.cond rfl (fun hb => ?_) (fun hb => ?_) <;> (try simp only [Int.reduceToNat, Int.reduceTDiv, Int.reduceTMod, minL, maxL, pickB, zHB, zSH] at hb) <;> (try (first | (cases hb; done) | exact absurd hb (by decide) | (exfalso; omega) | (omega))))
 | ((with_reducible refine And.intro ?_ ?_); (focus (first | (with_reducible rfl) | omega | rfl | ((try simp only [Int.reduceToNat, Int.reduceTDiv, Int.reduceTMod, minL, maxL, pickB, zHB, zSH, InK, Path.imp, zL] at *); omega))); (conv => whnf))
 | ((with_reducible refine And.intro (Side.out ?_) ?_); rotate_left; (conv => whnf))
 | ((first | refine retF1 ?_ | refine retF2 ?_ | refine subF.leaf ?_ | refine subF.side ?_) <;> (conv => whnf) <;> repeat' (first
 | exact trivial
 | (with_reducible rfl)
 | ((with_reducible refine And.intro ?_ ?_) <;> conv => whnf)
 | omega
 | rfl
 | (refine congrArg (SV.arr _) ?_)
 | (refine congrArg (Value.int _) ?_)
 | (refine congrArg Value.bool ?_)))); all_goals (try unfold Side)
        all_goals try (repeat' (first | (with_reducible rfl) | (with_reducible refine And.intro ?_ ?_) | omega | rfl | exact Or.inl rfl | exact Or.inr rfl | exact of_decide_eq_true rfl | exact Path.imp_of (of_decide_eq_true rfl) | (focus ((try simp only [Int.reduceToNat, Int.reduceTDiv, Int.reduceTMod, minL, maxL, pickB, zHB, zSH, InK, Path.imp, zL] at *); omega)) | (refine app_le rfl ?_; omega)))
        all_goals try refine subF.ok ?_ <;> (conv => whnf) <;> repeat' (first
 | exact trivial
 | (with_reducible rfl)
 | ((with_reducible refine And.intro ?_ ?_) <;> conv => whnf)
 | omega
 | rfl
 | (refine congrArg (SV.arr _) ?_)
 | (refine congrArg (Value.int _) ?_)
 | (refine congrArg Value.bool ?_))
        all_goals try (first | exact t1 | exact t2 | exact Path.imp_of ik1 | exact Path.imp_of ik2)
        refine ⟨i + 1, ⟨⟨by omega, by omega⟩, by omega⟩, ?_⟩
        rw [hn]
        refine subF.ok ?_ <;> (conv => whnf) <;> repeat' (first
 | exact trivial
 | (with_reducible rfl)
 | ((with_reducible refine And.intro ?_ ?_) <;> conv => whnf)
 | omega
 | rfl
 | (refine congrArg (SV.arr _) ?_)
 | (refine congrArg (Value.int _) ?_)
 | (refine congrArg Value.bool ?_))
      · have hn := mkO_no hc
        repeat' (first
 | refine W.seq ?_
 | refine W.block ?_
 | (refine W.drawPhTo (id := 13) tys_ok [] mixed [0, 1, 0, 6, 8, 16, 32, 0, 128, 256, 576, 0, 2048, 0, 12288, 16384, 32768, 65536, 0, 262144, 524288, 1179648, 2047, 8388607] [([0, 1, 2, 3, 4, 5, 6, 7, 11, 12, 13, 14, 15, 16, 17, 18], 7, 8388607), ([23], 0, 16777215)] ⟨[(1, .st false (.sadr (.agg [.lit (.int .u8 p), .arr U4 x, .arr U2 y]))), (2, .padr 3000 0), (3, .padr 4000 0), (9, .lit (.int .i64 (i))), (10, .lit (.int .i64 (((y.getD i O0).1 % J.length)))), (11, .lit (.int .i64 (((y.getD i O0).2.1 % J.length))))], [(3000, .box [.lit (.int .i64 0), .lit (.slice none 0 0), .lit (.slice none 0 0)]), (4000, .box [.lit (.int .i64 (p % 6 + 1)), .own 5000, .own 6000]), (5000, .row 45 JT true J), (6000, .row 79 OT true (mkO J.length y i))]⟩ (by decide +kernel) ?_ ?_ <;> (conv => whnf))
 | (refine W.region tys_ok [] ?_; conv => whnf)
 | (refine W.drawAll tys_ok [] mixed rfl ?_; conv => whnf)
 | (refine W.ret ?_; conv => whnf)
 | (refine W.skip ?_; conv => whnf)
 | (refine W.exit ?_; conv => whnf)
 | (refine Both.mk ?_ ?_ <;> (conv => whnf))
 | (refine W.cond rfl (fun hb => ?_) (fun hb => ?_) <;> (try simp only [Int.reduceToNat, Int.reduceTDiv, Int.reduceTMod, minL, maxL, pickB, zHB, zSH] at hb) <;> (try (first | (cases hb; done) | exact absurd hb (by decide) | (exfalso; omega) | (omega))))
 | ((with_reducible refine And.intro ?_ ?_); (focus (first | (with_reducible rfl) | omega | rfl | ((try simp only [Int.reduceToNat, Int.reduceTDiv, Int.reduceTMod, minL, maxL, pickB, zHB, zSH, InK, Path.imp, zL] at *); omega))); (conv => whnf))
 | ((with_reducible refine And.intro (Side.out ?_) ?_); rotate_left; (conv => whnf))
 | ((first | refine retF1 ?_ | refine retF2 ?_ | refine subF.leaf ?_ | refine subF.side ?_) <;> (conv => whnf) <;> repeat' (first
 | exact trivial
 | (with_reducible rfl)
 | ((with_reducible refine And.intro ?_ ?_) <;> conv => whnf)
 | omega
 | rfl
 | (refine congrArg (SV.arr _) ?_)
 | (refine congrArg (Value.int _) ?_)
 | (refine congrArg Value.bool ?_)))); all_goals (try unfold Side)
        all_goals try (repeat' (first | (with_reducible rfl) | (with_reducible refine And.intro ?_ ?_) | omega | rfl | exact Or.inl rfl | exact Or.inr rfl | exact of_decide_eq_true rfl | exact Path.imp_of (of_decide_eq_true rfl) | (focus ((try simp only [Int.reduceToNat, Int.reduceTDiv, Int.reduceTMod, minL, maxL, pickB, zHB, zSH, InK, Path.imp, zL] at *); omega)) | (refine app_le rfl ?_; omega)))
        all_goals try refine subF.ok ?_ <;> (conv => whnf) <;> repeat' (first
 | exact trivial
 | (with_reducible rfl)
 | ((with_reducible refine And.intro ?_ ?_) <;> conv => whnf)
 | omega
 | rfl
 | (refine congrArg (SV.arr _) ?_)
 | (refine congrArg (Value.int _) ?_)
 | (refine congrArg Value.bool ?_))
        all_goals try (first | exact t1 | exact t2 | exact Path.imp_of ik1 | exact Path.imp_of ik2)
        refine ⟨i + 1, ⟨⟨by omega, by omega⟩, by omega⟩, ?_⟩
        refine subF.ok ?_ <;> (conv => whnf) <;> repeat' (first
 | exact trivial
 | (with_reducible rfl)
 | ((with_reducible refine And.intro ?_ ?_) <;> conv => whnf)
 | omega
 | rfl
 | (refine congrArg (SV.arr _) ?_)
 | (refine congrArg (Value.int _) ?_)
 | (refine congrArg Value.bool ?_))
        all_goals exact hn
    · have hie : i = min y.length 6 := by omega
      have he : mkO J.length y i = mkOs J.length y := by rw [hie]; rfl
      rw [he]
      repeat' (first
 | refine W.seq ?_
 | refine W.block ?_
 | (refine W.region tys_ok [] ?_; conv => whnf)
 | (refine W.drawAll tys_ok [] mixed rfl ?_; conv => whnf)
 | (refine W.ret ?_; conv => whnf)
 | (refine W.skip ?_; conv => whnf)
 | (refine W.exit ?_; conv => whnf)
 | (refine W.cond rfl (fun hb => ?_) (fun hb => ?_) <;> (try simp only [Int.reduceToNat, Int.reduceTDiv, Int.reduceTMod, minL, maxL, pickB, zHB, zSH] at hb) <;> (try (first | (cases hb; done) | exact absurd hb (by decide) | (exfalso; omega) | (omega))))
 | ((with_reducible refine And.intro ?_ ?_); (focus (first | (with_reducible rfl) | omega | rfl | ((try simp only [Int.reduceToNat, Int.reduceTDiv, Int.reduceTMod, minL, maxL, pickB, zHB, zSH, InK, Path.imp, zL] at *); omega))); (conv => whnf))
 | ((with_reducible refine And.intro (Side.out ?_) ?_); rotate_left; (conv => whnf))
 | ((first | refine retF1 ?_ | refine retF2 ?_) <;> (conv => whnf) <;> repeat' (first
 | exact trivial
 | (with_reducible rfl)
 | ((with_reducible refine And.intro ?_ ?_) <;> conv => whnf)
 | omega
 | rfl
 | (refine congrArg (SV.arr _) ?_)
 | (refine congrArg (Value.int _) ?_)
 | (refine congrArg Value.bool ?_)))); all_goals (try unfold Side)
      all_goals try (repeat' (first | (with_reducible rfl) | (with_reducible refine And.intro ?_ ?_) | omega | rfl | exact Or.inl rfl | exact Or.inr rfl | exact of_decide_eq_true rfl | exact Path.imp_of (of_decide_eq_true rfl) | (focus ((try simp only [Int.reduceToNat, Int.reduceTDiv, Int.reduceTMod, minL, maxL, pickB, zHB, zSH, InK, Path.imp, zL] at *); omega)) | (refine app_le rfl ?_; omega)))
set_option maxHeartbeats 8000000 in
theorem made_at {p : Int} {x : List Jb} {y : List Od} (hp : 0 ≤ p ∧ p ≤ 255) (hx : sm4 x) (hy : sm2 y) : FnAt Try.prog false 27 [.agg [.lit (.int .u8 p), .arr U4 x, .arr U2 y]]
    (.strct [.lit (.int .i64 (p % 6 + 1)), .own 0, .own 1]) [(0, .row 45 JT true (mkJs x)), (1, .row 79 OT true (mkOs (mkJs x).length y))] := by
  have hxl : ∀ i, @List.getD U4.T x i U4.dflt = x.getD i J0 := fun i => rfl
  have hlx : @List.length U4.T x = x.length := rfl
  have eP : Int.tmod p 6 = p % 6 := tm hp.1 _
  have eP1 : Int.tmod p 6 + 1 = p % 6 + 1 := by rw [eP]
  refine FnAt.of_body tys_ok Try.func27 (by rfl) rfl Try.ntmps27 (by rw [Try.results27]) (by simp) ?_
  
  repeat' (first
 | refine W.seq ?_
 | refine W.block ?_
 | (refine W.region tys_ok [] ?_; conv => whnf)
 | (refine W.drawAll tys_ok [] mixed rfl ?_; conv => whnf)
 | (refine W.ret ?_; conv => whnf)
 | (refine W.skip ?_; conv => whnf)
 | (refine W.exit ?_; conv => whnf)
 | (refine W.cond rfl (fun hb => ?_) (fun hb => ?_) <;> (try simp only [Int.reduceToNat, Int.reduceTDiv, Int.reduceTMod, minL, maxL, pickB, zHB, zSH] at hb) <;> (try (first | (cases hb; done) | exact absurd hb (by decide) | (exfalso; omega))))
 | ((with_reducible refine And.intro ?_ ?_); (focus (first | (with_reducible rfl) | omega | rfl | ((try simp only [Int.reduceToNat, Int.reduceTDiv, Int.reduceTMod, minL, maxL, pickB, zHB, zSH, InK, Path.imp, zL] at *); omega))); (conv => whnf))
 | ((with_reducible refine And.intro (Side.out ?_) ?_); rotate_left; (conv => whnf))
 | ((first | refine retF1 ?_ | refine retF2 ?_) <;> (conv => whnf) <;> repeat' (first
 | exact trivial
 | (with_reducible rfl)
 | ((with_reducible refine And.intro ?_ ?_) <;> conv => whnf)
 | omega
 | rfl
 | (refine congrArg (SV.arr _) ?_)
 | (refine congrArg (Value.int _) ?_)
 | (refine congrArg Value.bool ?_)))); all_goals (try unfold Side)
  all_goals try (repeat' (first | (with_reducible rfl) | (with_reducible refine And.intro ?_ ?_) | omega | rfl | exact Or.inl rfl | exact Or.inr rfl | exact of_decide_eq_true rfl | exact Path.imp_of (of_decide_eq_true rfl) | (focus ((try simp only [Int.reduceToNat, Int.reduceTDiv, Int.reduceTMod, minL, maxL, pickB, zHB, zSH, InK, Path.imp, zL] at *); omega)) | (refine app_le rfl ?_; omega)))
  refine W.loop (fun i : Nat => ⟨[(1, .st false (.sadr (.agg [.lit (.int .u8 p), .arr U4 x, .arr U2 y]))), (2, .padr 3000 0), (3, .padr 4000 0), (4, .lit (.int .i64 (i)))], [(3000, .box [.lit (.int .i64 0), .lit (.slice none 0 0), .lit (.slice none 0 0)]), (4000, .box [.lit (.int .i64 (p % 6 + 1)), .own 5000, .lit (.slice none 0 0)]), (5000, .row 45 JT true (mkL x i))]⟩) (fun i => i ≤ x.length ∧ i ≤ 5) (fun i => 5 - i) (0) ?_ ?_
  · refine ⟨⟨Nat.zero_le _, Nat.zero_le _⟩, ?_⟩
    refine subF.ok ?_ <;> (conv => whnf) <;> repeat' (first
 | exact trivial
 | (with_reducible rfl)
 | ((with_reducible refine And.intro ?_ ?_) <;> conv => whnf)
 | omega
 | rfl
 | (refine congrArg (SV.arr _) ?_)
 | (refine congrArg (Value.int _) ?_)
 | (refine congrArg Value.bool ?_))
    all_goals first | exact eP1 | rfl
  · rintro i ⟨hi, hi2⟩
    obtain ⟨x0, x1, x2, x3⟩ := hx i
    have hl : @List.length JT.T (mkL x i) = i := mkL_len hi
    by_cases hil : i < x.length ∧ i < 5
    · have t0 : Int.tmod (x.getD i J0).1 10 = (x.getD i J0).1 % 10 := tm x0.1 _
      have t1 : Int.tmod (x.getD i J0).2.1 5 = (x.getD i J0).2.1 % 5 := tm x1.1 _
      have t2 : Int.tmod (x.getD i J0).2.2.1 6 = (x.getD i J0).2.2.1 % 6 := tm x2.1 _
      have t3 : Int.tmod (x.getD i J0).2.2.2.1 6 = (x.getD i J0).2.2.2.1 % 6 := tm x3.1 _
      have hst := mkL_step hil.1
      have hst2 : mkL x i ++ [(Int.tmod (x.getD i J0).1 10, Int.tmod (x.getD i J0).1 10 + (Int.tmod (x.getD i J0).2.1 5 + 1) + Int.tmod (x.getD i J0).2.2.1 6, Int.tmod (x.getD i J0).2.1 5 + 1, Int.tmod (x.getD i J0).2.2.2.1 6 + 1, ())] = mkL x (i + 1) := by
        rw [t0, t1, t2, t3]; exact hst
      repeat' (first
 | refine W.seq ?_
 | refine W.block ?_
 | (refine W.resub (x := Code.region 6 _ _) (Γ' := ⟨[(1, .st false (.sadr (.agg [.lit (.int .u8 p), .arr U4 x, .arr U2 y]))), (2, .padr 3000 0), (3, .padr 4000 0), (4, .lit (.int .i64 (i))), (5, .st false (.sadr (.agg [.lit (.int .u8 (x.getD i J0).1), .lit (.int .u8 (x.getD i J0).2.1), .lit (.int .u8 (x.getD i J0).2.2.1), .lit (.int .u8 (x.getD i J0).2.2.2.1)])))], [(3000, .box [.lit (.int .i64 0), .lit (.slice none 0 0), .lit (.slice none 0 0)]), (4000, .box [.lit (.int .i64 (p % 6 + 1)), .own 5000, .lit (.slice none 0 0)]), (5000, .row 45 JT true (mkL x i))]⟩) ?_ (W.drawPh (id := 6) tys_ok [] mixed [0, 1, 2, 4, 0, 16, 32, 64, 128, 0, 512, 1024, 2048, 15, 8703, 32767] [([0, 1, 2, 3, 4, 5, 6, 7, 8, 9, 10, 11, 12, 13, 14, 15], 0, 65535)] (by decide +kernel) ?_); rotate_left; (conv => whnf))
 | (refine W.region tys_ok [] ?_; conv => whnf)
 | (refine W.drawAll tys_ok [] mixed rfl ?_; conv => whnf)
 | (refine W.ret ?_; conv => whnf)
 | (refine W.skip ?_; conv => whnf)
 | (refine W.exit ?_; conv => whnf)
 | (refine Both.mk ?_ ?_ <;> (conv => whnf))
 | (refine W.cond rfl (fun hb => ?_) (fun hb => ?_) <;> (try simp only [Int.reduceToNat, Int.reduceTDiv, Int.reduceTMod, minL, maxL, pickB, zHB, zSH] at hb) <;> (try (first | (cases hb; done) | exact absurd hb (by decide) | (exfalso; omega) | (omega))))
 | ((with_reducible refine And.intro ?_ ?_); (focus (first | (with_reducible rfl) | omega | rfl | ((try simp only [Int.reduceToNat, Int.reduceTDiv, Int.reduceTMod, minL, maxL, pickB, zHB, zSH, InK, Path.imp, zL] at *); omega))); (conv => whnf))
 | ((with_reducible refine And.intro (Side.out ?_) ?_); rotate_left; (conv => whnf))
 | ((first | refine retF1 ?_ | refine retF2 ?_ | refine subF.leaf ?_ | refine subF.side ?_) <;> (conv => whnf) <;> repeat' (first
 | exact trivial
 | (with_reducible rfl)
 | ((with_reducible refine And.intro ?_ ?_) <;> conv => whnf)
 | omega
 | rfl
 | (refine congrArg (SV.arr _) ?_)
 | (refine congrArg (Value.int _) ?_)
 | (refine congrArg Value.bool ?_)))); all_goals (try unfold Side)
      all_goals try (repeat' (first | (with_reducible rfl) | (with_reducible refine And.intro ?_ ?_) | omega | rfl | exact Or.inl rfl | exact Or.inr rfl | exact of_decide_eq_true rfl | exact Path.imp_of (of_decide_eq_true rfl) | (focus ((try simp only [Int.reduceToNat, Int.reduceTDiv, Int.reduceTMod, minL, maxL, pickB, zHB, zSH, InK, Path.imp, zL] at *); omega)) | (refine app_le rfl ?_; omega)))
      all_goals try refine subF.ok ?_ <;> (conv => whnf) <;> repeat' (first
 | exact trivial
 | (with_reducible rfl)
 | ((with_reducible refine And.intro ?_ ?_) <;> conv => whnf)
 | omega
 | rfl
 | (refine congrArg (SV.arr _) ?_)
 | (refine congrArg (Value.int _) ?_)
 | (refine congrArg Value.bool ?_))
      refine ⟨i + 1, ⟨⟨by omega, by omega⟩, by omega⟩, ?_⟩
      refine subF.ok ?_ <;> (conv => whnf) <;> repeat' (first
 | exact trivial
 | (with_reducible rfl)
 | ((with_reducible refine And.intro ?_ ?_) <;> conv => whnf)
 | omega
 | rfl
 | (refine congrArg (SV.arr _) ?_)
 | (refine congrArg (Value.int _) ?_)
 | (refine congrArg Value.bool ?_))
      all_goals exact hst2
    · by_cases h0 : x = []
      · have hj : mkJs x = [(0, 2, 1, 1, ())] := by unfold mkJs; rw [if_pos h0]
        have hi0 : i = 0 := by rw [h0] at hi; simpa using hi
        have hl0 : @List.length JT.T (mkL x i) = 0 := by omega
        have hr := made2_at (p := p) (x := x) (y := y) (J := mkJs x) mkJs_len hy
        rw [hj] at hr ⊢
        repeat' (first
 | refine W.resub (x := Code.seq (Code.seq (Code.region 10 _ _) _) _) ?_ (hr)
 | refine W.seq ?_
 | refine W.block ?_
 | (refine W.region tys_ok [] ?_; conv => whnf)
 | (refine W.drawAll tys_ok [] mixed rfl ?_; conv => whnf)
 | (refine W.ret ?_; conv => whnf)
 | (refine W.skip ?_; conv => whnf)
 | (refine W.exit ?_; conv => whnf)
 | (refine Both.mk ?_ ?_ <;> (conv => whnf))
 | (refine W.cond rfl (fun hb => ?_) (fun hb => ?_) <;> (try simp only [Int.reduceToNat, Int.reduceTDiv, Int.reduceTMod, minL, maxL, pickB, zHB, zSH] at hb) <;> (try (first | (cases hb; done) | exact absurd hb (by decide) | (exfalso; omega) | (omega))))
 | ((with_reducible refine And.intro ?_ ?_); (focus (first | (with_reducible rfl) | omega | rfl | ((try simp only [Int.reduceToNat, Int.reduceTDiv, Int.reduceTMod, minL, maxL, pickB, zHB, zSH, InK, Path.imp, zL] at *); omega))); (conv => whnf))
 | ((with_reducible refine And.intro (Side.out ?_) ?_); rotate_left; (conv => whnf))
 | ((first | refine retF1 ?_ | refine retF2 ?_ | refine subF.leaf ?_ | refine subF.side ?_) <;> (conv => whnf) <;> repeat' (first
 | exact trivial
 | (with_reducible rfl)
 | ((with_reducible refine And.intro ?_ ?_) <;> conv => whnf)
 | omega
 | rfl
 | (refine congrArg (SV.arr _) ?_)
 | (refine congrArg (Value.int _) ?_)
 | (refine congrArg Value.bool ?_)))); all_goals (try unfold Side)
        all_goals try (repeat' (first | (with_reducible rfl) | (with_reducible refine And.intro ?_ ?_) | omega | rfl | exact Or.inl rfl | exact Or.inr rfl | exact of_decide_eq_true rfl | exact Path.imp_of (of_decide_eq_true rfl) | (focus ((try simp only [Int.reduceToNat, Int.reduceTDiv, Int.reduceTMod, minL, maxL, pickB, zHB, zSH, InK, Path.imp, zL] at *); omega)) | (refine app_le rfl ?_; omega)))
        all_goals try refine subF.ok ?_ <;> (conv => whnf) <;> repeat' (first
 | exact trivial
 | (with_reducible rfl)
 | ((with_reducible refine And.intro ?_ ?_) <;> conv => whnf)
 | omega
 | rfl
 | (refine congrArg (SV.arr _) ?_)
 | (refine congrArg (Value.int _) ?_)
 | (refine congrArg Value.bool ?_))
      · have hx0 : x.length ≠ 0 := fun e => h0 (List.length_eq_zero_iff.1 e)
        have hj : mkJs x = mkL x i := by
          unfold mkJs; rw [if_neg h0]
          congr 1; omega
        have hr := made2_at (p := p) (x := x) (y := y) (J := mkJs x) mkJs_len hy
        rw [hj] at hr ⊢
        repeat' (first
 | refine W.resub (x := Code.seq (Code.seq (Code.region 10 _ _) _) _) ?_ (hr)
 | refine W.seq ?_
 | refine W.block ?_
 | (refine W.region tys_ok [] ?_; conv => whnf)
 | (refine W.drawAll tys_ok [] mixed rfl ?_; conv => whnf)
 | (refine W.ret ?_; conv => whnf)
 | (refine W.skip ?_; conv => whnf)
 | (refine W.exit ?_; conv => whnf)
 | (refine Both.mk ?_ ?_ <;> (conv => whnf))
 | (refine W.cond rfl (fun hb => ?_) (fun hb => ?_) <;> (try simp only [Int.reduceToNat, Int.reduceTDiv, Int.reduceTMod, minL, maxL, pickB, zHB, zSH] at hb) <;> (try (first | (cases hb; done) | exact absurd hb (by decide) | (exfalso; omega) | (omega))))
 | ((with_reducible refine And.intro ?_ ?_); (focus (first | (with_reducible rfl) | omega | rfl | ((try simp only [Int.reduceToNat, Int.reduceTDiv, Int.reduceTMod, minL, maxL, pickB, zHB, zSH, InK, Path.imp, zL] at *); omega))); (conv => whnf))
 | ((with_reducible refine And.intro (Side.out ?_) ?_); rotate_left; (conv => whnf))
 | ((first | refine retF1 ?_ | refine retF2 ?_ | refine subF.leaf ?_ | refine subF.side ?_) <;> (conv => whnf) <;> repeat' (first
 | exact trivial
 | (with_reducible rfl)
 | ((with_reducible refine And.intro ?_ ?_) <;> conv => whnf)
 | omega
 | rfl
 | (refine congrArg (SV.arr _) ?_)
 | (refine congrArg (Value.int _) ?_)
 | (refine congrArg Value.bool ?_)))); all_goals (try unfold Side)
        all_goals try (repeat' (first | (with_reducible rfl) | (with_reducible refine And.intro ?_ ?_) | omega | rfl | exact Or.inl rfl | exact Or.inr rfl | exact of_decide_eq_true rfl | exact Path.imp_of (of_decide_eq_true rfl) | (focus ((try simp only [Int.reduceToNat, Int.reduceTDiv, Int.reduceTMod, minL, maxL, pickB, zHB, zSH, InK, Path.imp, zL] at *); omega)) | (refine app_le rfl ?_; omega)))
        all_goals try refine subF.ok ?_ <;> (conv => whnf) <;> repeat' (first
 | exact trivial
 | (with_reducible rfl)
 | ((with_reducible refine And.intro ?_ ?_) <;> conv => whnf)
 | omega
 | rfl
 | (refine congrArg (SV.arr _) ?_)
 | (refine congrArg (Value.int _) ?_)
 | (refine congrArg Value.bool ?_))
end Go.Proofs.Ytmfholchenihaaa
namespace Go.Proofs.Ytmfholchenihaaa
open Go Go.Vc Go.Sh
set_option linter.unusedVariables false
set_option linter.unusedSimpArgs false
theorem first_spec {P : Int} {l : List Jb} {os : List Od} (h : VS P l os) : (firstT P l os = [] ∧ ∀ s, ¬ Fit P l os s) ∨ (firstT P l os ≠ [] ∧ Fit P l os (firstT P l os) ∧ ∀ s, Fit P l os s → lexle (firstT P l os) s) := by
  have h1 := growT_ok (P := P) (os := os) (k := l.length) (l := l) (i := 0) rfl h.pre
  unfold firstT
  cases e : growT P os l.length l 0 with
  | none => rw [e] at h1; exact .inl ⟨rfl, h1⟩
  | some r =>
    rw [e] at h1
    refine .inr ⟨fun hn => ?_, h1⟩
    have h2 := h1.1.len
    have h3 := h.ln
    have hn : r = [] := hn
    rw [hn] at h2
    simp at h2
    omega
theorem sh_spec {P : Int} {l : List Jb} {os : List Od} (h : VS P l os) : (shT P l os = [] ∧ shE P l os = 0 ∧ ∀ s, ¬ Fit P l os s) ∨ (shT P l os ≠ [] ∧ Fit P l os (shT P l os) ∧ endT l (shT P l os) = shE P l os ∧ (1 ≤ shE P l os ∧ shE P l os ≤ 24) ∧ ∀ s, Fit P l os s → shE P l os ≤ endT l s ∧ (endT l s = shE P l os → lexle (shT P l os) s)) := by
  have h1 := short_ok (P := P) (os := os) h.pre h.ln.1
  unfold shT shE
  cases e : shortK P l os 24 with
  | none => rw [e] at h1; exact .inl ⟨rfl, rfl, h1⟩
  | some er =>
    rw [e] at h1
    obtain ⟨e, r⟩ := er
    have h4 := end_pos h.pre h1.1 h.ln.1
    refine .inr ⟨fun hn => ?_, h1.1, h1.2.1, by rw [h1.2.1] at h4; exact h4, h1.2.2⟩
    have h2 := h1.1.len
    have h3 := h.ln
    have hn : r = [] := hn
    rw [hn] at h2
    simp at h2
    omega
theorem fit_rg {P : Int} {l : List Jb} {os : List Od} {s : List Int} (h : VS P l os) (hs : Fit P l os s) : s.length = l.length ∧ (∀ i, i < s.length → 0 ≤ s.getD i 0 ∧ s.getD i 0 ≤ 23 ∧ s.getD i 0 + jl l i ≤ 24 ∧ 1 ≤ jl l i) ∧ ∀ i, i < s.length → ¬ outC (s.getD i 0) := by
  have hl := hs.len
  have h1 : ∀ i, i < s.length → 0 ≤ s.getD i 0 ∧ s.getD i 0 ≤ 23 ∧ s.getD i 0 + jl l i ≤ 24 ∧ 1 ≤ jl l i := fun i hi => by
    have := hs.rg i (by omega)
    have h2 := h.pre.rg i (by omega)
    omega
  exact ⟨hl, h1, fun i hi => by have := h1 i hi; unfold outC; omega⟩
theorem fit_ld {P : Int} {l : List Jb} {os : List Od} {s : List Int} (h : VS P l os) (hs : Fit P l os s) {t : Nat} (ht : t < 24) : 0 ≤ loadT l s t ∧ loadT l s t ≤ P ∧ P ≤ 20 := by
  have h1 := loadK_rg (bd_of h) hs.len (t := t) (Nat.le_refl _)
  exact ⟨h1.1, hs.load t ht, h.pw.2⟩
theorem end_rg {l : List Jb} {s : List Int} (hb : Bd l) (hl : s.length ≤ l.length) (hs : ∀ i, i < s.length → 0 ≤ s.getD i 0 ∧ s.getD i 0 ≤ 100) : ∀ {k : Nat}, k ≤ s.length → 0 ≤ endK l s k ∧ endK l s k ≤ 200
  | 0, _ => by simp [endK]
  | k + 1, hk => by
    have h1 := end_rg hb hl hs (k := k) (by omega)
    have h2 := hs k (by omega)
    have h3 := (hb.rg k (by omega)).2.2
    unfold endK
    omega
set_option maxHeartbeats 4000000 in
theorem endR_at {P : Int} {l : List Jb} {os : List Od} {s : List Int} (hb : Bd l) (hl : s.length ≤ l.length) (hs : ∀ i, i < s.length → 0 ≤ s.getD i 0 ∧ s.getD i 0 ≤ 100) : FnAt Try.prog false 36 [.agg [I64 P, .arr JT l, .arr OT os], .arr (.int .i64) s] (.lit (.int .i64 (endT l s))) [] := by
  have hll := hb.len
  have hlj : @List.length JT.T l = l.length := rfl
  have hsl : @List.length (Ty.int .i64).T s = s.length := rfl
  have hrg := fun k hk => end_rg hb hl hs (k := k) hk
  have hst : ∀ k, max (endK l s k) (s.getD k 0 + jl l k) = endK l s (k + 1) := fun k => rfl
  have hen : endT l s = endK l s s.length := rfl
  obtain ⟨E, hE⟩ : ∃ E : Nat → Int, E = endK l s := ⟨_, rfl⟩
  have h0 : E 0 = 0 := by rw [hE]; rfl
  rw [← hE] at hrg hst hen
  rw [hen]
  clear hE
  refine FnAt.of_body tys_ok Try.func36 (by rfl) rfl Try.ntmps36 (by rw [Try.results36]) (by simp) ?_
  
  repeat' (first
 | refine W.seq ?_
 | refine W.block ?_
 | (refine W.region tys_ok [] ?_; conv => whnf)
 | (refine W.drawAll tys_ok [] mixed rfl ?_; conv => whnf)
 | (refine W.ret ?_; conv => whnf)
 | (refine W.skip ?_; conv => whnf)
 | (refine W.exit ?_; conv => whnf)
 | (refine W.cond rfl (fun hb => ?_) (fun hb => ?_) <;> (try simp only [Int.reduceToNat, Int.reduceTDiv, Int.reduceTMod, minL, maxL, pickB, zHB, zSH] at hb) <;> (try (first | (cases hb; done) | exact absurd hb (by decide) | (exfalso; omega))))
 | ((with_reducible refine And.intro ?_ ?_); (focus (first | (with_reducible rfl) | omega | rfl | ((try simp only [Int.reduceToNat, Int.reduceTDiv, Int.reduceTMod, minL, maxL, pickB, zHB, zSH, InK, Path.imp, zL] at *); omega))); (conv => whnf))
 | ((with_reducible refine And.intro (Side.out ?_) ?_); rotate_left; (conv => whnf))
 | ((first | refine retF1 ?_ | refine retF2 ?_) <;> (conv => whnf) <;> repeat' (first
 | exact trivial
 | (with_reducible rfl)
 | ((with_reducible refine And.intro ?_ ?_) <;> conv => whnf)
 | omega
 | rfl
 | (refine congrArg (SV.arr _) ?_)
 | (refine congrArg (Value.int _) ?_)
 | (refine congrArg Value.bool ?_)))); all_goals (try unfold Side)
  all_goals try (repeat' (first | (with_reducible rfl) | (with_reducible refine And.intro ?_ ?_) | omega | rfl | exact Or.inl rfl | exact Or.inr rfl | exact of_decide_eq_true rfl | exact Path.imp_of (of_decide_eq_true rfl) | (focus ((try simp only [Int.reduceToNat, Int.reduceTDiv, Int.reduceTMod, minL, maxL, pickB, zHB, zSH, InK, Path.imp, zL] at *); omega)) | (refine app_le rfl ?_; omega)))
  refine W.loop (fun i : Nat => ⟨[(1, .st false (.arr (.int .i64) (s : List Int))), (2, .st false (.sadr (.agg [I64 P, .arr JT l, .arr OT os]))), (5, .lit (.int .i64 ((E i)))), (6, .lit (.int .i64 (i)))], []⟩) (fun i => i ≤ s.length) (fun i => s.length - i) (0) ?_ ?_
  · refine ⟨Nat.zero_le _, ?_⟩
    refine subF.ok ?_ <;> (conv => whnf) <;> repeat' (first
 | exact trivial
 | (with_reducible rfl)
 | ((with_reducible refine And.intro ?_ ?_) <;> conv => whnf)
 | omega
 | rfl
 | (refine congrArg (SV.arr _) ?_)
 | (refine congrArg (Value.int _) ?_)
 | (refine congrArg Value.bool ?_))
    all_goals exact h0.symm
  · intro i hi
    by_cases hil : i < s.length
    · have h1 := hrg i hi
      have h2 := hrg (i + 1) (by omega)
      have h3 := hst i
      have h4 := hs i hil
      have h5 := (hb.rg i (by omega)).2.2
      unfold jl jp at h5
      unfold jl at h3
      repeat' (first
 | refine W.seq ?_
 | refine W.block ?_
 | (refine W.drawPh (id := 5) tys_ok [] mixed [0, 0, 0, 6, 8, 0, 32, 0, 192, 256, 512, 1040, 2049, 8191] [([0, 1, 2, 3, 4, 5, 6, 7, 8, 9, 10, 11, 12, 13], 0, 16383)] (by decide +kernel) ?_; conv => whnf)
 | (refine W.region tys_ok [] ?_; conv => whnf)
 | (refine W.drawAll tys_ok [] mixed rfl ?_; conv => whnf)
 | (refine W.ret ?_; conv => whnf)
 | (refine W.skip ?_; conv => whnf)
 | (refine W.exit ?_; conv => whnf)
 | (refine Both.mk ?_ ?_ <;> (conv => whnf))
 | (refine W.cond rfl (fun hb => ?_) (fun hb => ?_) <;> (try simp only [Int.reduceToNat, Int.reduceTDiv, Int.reduceTMod, minL, maxL, pickB, zHB, zSH] at hb) <;> (try (first | (cases hb; done) | exact absurd hb (by decide) | (exfalso; omega) | (omega))))
 | ((with_reducible refine And.intro ?_ ?_); (focus (first | (with_reducible rfl) | omega | rfl | ((try simp only [Int.reduceToNat, Int.reduceTDiv, Int.reduceTMod, minL, maxL, pickB, zHB, zSH, InK, Path.imp, zL] at *); omega))); (conv => whnf))
 | ((with_reducible refine And.intro (Side.out ?_) ?_); rotate_left; (conv => whnf))
 | ((first | refine retF1 ?_ | refine retF2 ?_ | refine subF.leaf ?_ | refine subF.side ?_) <;> (conv => whnf) <;> repeat' (first
 | exact trivial
 | (with_reducible rfl)
 | ((with_reducible refine And.intro ?_ ?_) <;> conv => whnf)
 | omega
 | rfl
 | (refine congrArg (SV.arr _) ?_)
 | (refine congrArg (Value.int _) ?_)
 | (refine congrArg Value.bool ?_)))); all_goals (try unfold Side)
      all_goals try (repeat' (first | (with_reducible rfl) | (with_reducible refine And.intro ?_ ?_) | omega | rfl | exact Or.inl rfl | exact Or.inr rfl | exact of_decide_eq_true rfl | exact Path.imp_of (of_decide_eq_true rfl) | (focus ((try simp only [Int.reduceToNat, Int.reduceTDiv, Int.reduceTMod, minL, maxL, pickB, zHB, zSH, InK, Path.imp, zL] at *); omega)) | (refine app_le rfl ?_; omega)))
      refine ⟨i + 1, ⟨by omega, by omega⟩, ?_⟩
      refine subF.ok ?_ <;> (conv => whnf) <;> repeat' (first
 | exact trivial
 | (with_reducible rfl)
 | ((with_reducible refine And.intro ?_ ?_) <;> conv => whnf)
 | omega
 | rfl
 | (refine congrArg (SV.arr _) ?_)
 | (refine congrArg (Value.int _) ?_)
 | (refine congrArg Value.bool ?_))
      all_goals exact h3
    · have hie : s.length = i := by omega
      subst hie
      repeat' (first
 | refine W.seq ?_
 | refine W.block ?_
 | (refine W.region tys_ok [] ?_; conv => whnf)
 | (refine W.drawAll tys_ok [] mixed rfl ?_; conv => whnf)
 | (refine W.ret ?_; conv => whnf)
 | (refine W.skip ?_; conv => whnf)
 | (refine W.exit ?_; conv => whnf)
 | (refine W.cond rfl (fun hb => ?_) (fun hb => ?_) <;> (try simp only [Int.reduceToNat, Int.reduceTDiv, Int.reduceTMod, minL, maxL, pickB, zHB, zSH] at hb) <;> (try (first | (cases hb; done) | exact absurd hb (by decide) | (exfalso; omega))))
 | ((with_reducible refine And.intro ?_ ?_); (focus (first | (with_reducible rfl) | omega | rfl | ((try simp only [Int.reduceToNat, Int.reduceTDiv, Int.reduceTMod, minL, maxL, pickB, zHB, zSH, InK, Path.imp, zL] at *); omega))); (conv => whnf))
 | ((with_reducible refine And.intro (Side.out ?_) ?_); rotate_left; (conv => whnf))
 | ((first | refine retF1 ?_ | refine retF2 ?_) <;> (conv => whnf) <;> repeat' (first
 | exact trivial
 | (with_reducible rfl)
 | ((with_reducible refine And.intro ?_ ?_) <;> conv => whnf)
 | omega
 | rfl
 | (refine congrArg (SV.arr _) ?_)
 | (refine congrArg (Value.int _) ?_)
 | (refine congrArg Value.bool ?_)))); all_goals (try unfold Side)
      all_goals try (repeat' (first | (with_reducible rfl) | (with_reducible refine And.intro ?_ ?_) | omega | rfl | exact Or.inl rfl | exact Or.inr rfl | exact of_decide_eq_true rfl | exact Path.imp_of (of_decide_eq_true rfl) | (focus ((try simp only [Int.reduceToNat, Int.reduceTDiv, Int.reduceTMod, minL, maxL, pickB, zHB, zSH, InK, Path.imp, zL] at *); omega)) | (refine app_le rfl ?_; omega)))
end Go.Proofs.Ytmfholchenihaaa
