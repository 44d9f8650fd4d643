/- Joined of: S6 Sm5 S7 S8 Sm6 S9 Sm7 S10 S11 S13 S15 Se1 Se2. No condition. -/
import Derived.Test.YtdfajcfkdfjoeaaJ4

namespace Go.Proofs.Ytdfajcfkdfjoeaa
open Go Go.Vc Go.Scr
set_option linter.unusedVariables false
set_option linter.unusedSimpArgs false
def sgnB (s : List Int) : Bool := s.all fun x => decide (x = 1) || decide (x = -1)
def signsB (s : List Int) (n : Nat) : Bool := sgnB s && decide (s.length = n)
theorem sgnB_take {s : List Int} {i : Nat} (h : i < s.length) : sgnB (s.take (i + 1)) = (sgnB (s.take i) && (decide (s.getD i 0 = 1) || decide (s.getD i 0 = -1))) := by
  rw [take_getD h, sgnB, List.all_append]; simp [sgnB]
theorem sgnB_not {s : List Int} {i : Nat} (h : i < s.length) (h1 : ¬ s.getD i 0 = 1) (h2 : ¬ s.getD i 0 = -1) : sgnB s = false := by
  have hm : s.getD i 0 ∈ s := by rw [List.getD_eq_getElem?_getD, List.getElem?_eq_getElem h]; exact List.getElem_mem h
  refine List.all_eq_false.2 ⟨_, hm, ?_⟩
  simp only [Bool.or_eq_true, decide_eq_true_eq]
  rintro (h | h)
  · exact h1 h
  · exact h2 h
theorem signs_ref (s : List Int) (n : Nat) (hl : s.length ≤ 1000) : FnAt Try.prog false 50 [.arr (.int .i64) s, .lit (.int .i64 n)] (.lit (.bool (signsB s n))) [] := by
  refine FnAt.of_body tys_ok Try.func50 (by rfl) rfl Try.ntmps50 (by rw [Try.results50]) (by simp) ?_
  
  repeat' (first
 | refine W.seq ?_
 | refine W.block ?_
 | (refine W.region tys_ok [] ?_; conv => whnf)
 | (refine W.drawAll tys_ok [] mixed rfl ?_; conv => whnf)
 | (refine W.ret ?_; conv => whnf)
 | (refine W.skip ?_; conv => whnf)
 | (refine W.exit ?_; conv => whnf)
 | (refine W.cond rfl (fun hb => ?_) (fun hb => ?_) <;> (try simp only [Int.reduceToNat, Int.reduceTDiv, Int.reduceTMod, minL, maxL, pickB, zHB] at hb) <;> (try (first | (cases hb; done) | exact absurd hb (by decide) | (exfalso; omega))))
 | ((with_reducible refine And.intro ?_ ?_); (focus ((repeat' (first | (with_reducible rfl) | (with_reducible refine And.intro ?_ ?_) | omega | rfl | exact Or.inl rfl | exact Or.inr rfl | exact of_decide_eq_true rfl | exact Path.imp_of (of_decide_eq_true rfl) | (focus ((try simp only [Int.reduceToNat, Int.reduceTDiv, Int.reduceTMod, minL, maxL, pickB, zHB, InK, Path.imp, List.length_replicate, List.length_set, List.length_append, List.length_cons, List.length_nil] at *); omega)) | (refine app_le rfl ?_; omega))); done)); (conv => whnf))
 | ((with_reducible refine And.intro (Side.out ?_) ?_); rotate_left; (conv => whnf))
 | ((first | refine retF1 ?_ | refine retF2 ?_) <;> (conv => whnf) <;> repeat' (first
 | exact trivial
 | (with_reducible rfl)
 | ((with_reducible refine And.intro ?_ ?_) <;> conv => whnf)
 | omega
 | rfl
 | (refine congrArg (SV.arr _) ?_)
 | (refine congrArg (Value.int _) ?_)
 | (refine congrArg Value.bool ?_)))); all_goals (try unfold Side)
  refine W.loop (fun i : Nat => ⟨[(0, .st false (.arr (.int .i64) (s : List Int))), (1, .lit (.int .i64 (n))), (5, .lit (.int .i64 (i)))], []⟩) (fun i => i ≤ s.length ∧ sgnB (s.take i) = true) (fun i => s.length - i) (0) ?_ ?_
  · refine ⟨⟨Nat.zero_le _, rfl⟩, ?_⟩
    refine subF.ok ?_ <;> (conv => whnf) <;> repeat' (first
 | exact trivial
 | (with_reducible rfl)
 | ((with_reducible refine And.intro ?_ ?_) <;> conv => whnf)
 | omega
 | rfl
 | (refine congrArg (SV.arr _) ?_)
 | (refine congrArg (Value.int _) ?_)
 | (refine congrArg Value.bool ?_))
  · rintro i ⟨hi, hv⟩
    by_cases hil : i < s.length
    · repeat' (first
 | refine W.seq ?_
 | refine W.block ?_
 | (refine W.region tys_ok [] ?_; conv => whnf)
 | (refine W.drawAll tys_ok [] mixed rfl ?_; conv => whnf)
 | (refine W.ret ?_; conv => whnf)
 | (refine W.skip ?_; conv => whnf)
 | (refine W.exit ?_; conv => whnf)
 | (refine W.cond rfl (fun hb => ?_) (fun hb => ?_) <;> (try simp only [Int.reduceToNat, Int.reduceTDiv, Int.reduceTMod, minL, maxL, pickB, zHB] at hb) <;> (try (first | (cases hb; done) | exact absurd hb (by decide) | (exfalso; omega))))
 | ((with_reducible refine And.intro ?_ ?_); (focus ((repeat' (first | (with_reducible rfl) | (with_reducible refine And.intro ?_ ?_) | omega | rfl | exact Or.inl rfl | exact Or.inr rfl | exact of_decide_eq_true rfl | exact Path.imp_of (of_decide_eq_true rfl) | (focus ((try simp only [Int.reduceToNat, Int.reduceTDiv, Int.reduceTMod, minL, maxL, pickB, zHB, InK, Path.imp, List.length_replicate, List.length_set, List.length_append, List.length_cons, List.length_nil] at *); omega)) | (refine app_le rfl ?_; omega))); done)); (conv => whnf))
 | ((with_reducible refine And.intro (Side.out ?_) ?_); rotate_left; (conv => whnf))
 | ((first | refine retF1 ?_ | refine retF2 ?_) <;> (conv => whnf) <;> repeat' (first
 | exact trivial
 | (with_reducible rfl)
 | ((with_reducible refine And.intro ?_ ?_) <;> conv => whnf)
 | omega
 | rfl
 | (refine congrArg (SV.arr _) ?_)
 | (refine congrArg (Value.int _) ?_)
 | (refine congrArg Value.bool ?_)))); all_goals (try unfold Side)
      all_goals try (repeat' (first | (with_reducible rfl) | (with_reducible refine And.intro ?_ ?_) | omega | rfl | exact Or.inl rfl | exact Or.inr rfl | exact of_decide_eq_true rfl | exact Path.imp_of (of_decide_eq_true rfl) | (focus ((try simp only [Int.reduceToNat, Int.reduceTDiv, Int.reduceTMod, minL, maxL, pickB, zHB, InK, Path.imp, List.length_replicate, List.length_set, List.length_append, List.length_cons, List.length_nil] at *); omega)) | (refine app_le rfl ?_; omega)))
      · rw [signsB, sgnB_not hil hb.1 hb.2]; rfl
      · refine ⟨i + 1, ⟨⟨by omega, ?_⟩, by omega⟩, ?_⟩
        · rw [sgnB_take hil, hv]; rcases hb with hb | hb <;> rw [hb] <;> rfl
        · refine subF.ok ?_ <;> (conv => whnf) <;> repeat' (first
 | exact trivial
 | (with_reducible rfl)
 | ((with_reducible refine And.intro ?_ ?_) <;> conv => whnf)
 | omega
 | rfl
 | (refine congrArg (SV.arr _) ?_)
 | (refine congrArg (Value.int _) ?_)
 | (refine congrArg Value.bool ?_))
    · have hie : s.length = i := by omega
      subst hie
      rw [List.take_length] at hv
      repeat' (first
 | refine W.seq ?_
 | refine W.block ?_
 | (refine W.region tys_ok [] ?_; conv => whnf)
 | (refine W.drawAll tys_ok [] mixed rfl ?_; conv => whnf)
 | (refine W.ret ?_; conv => whnf)
 | (refine W.skip ?_; conv => whnf)
 | (refine W.exit ?_; conv => whnf)
 | (refine W.cond rfl (fun hb => ?_) (fun hb => ?_) <;> (try simp only [Int.reduceToNat, Int.reduceTDiv, Int.reduceTMod, minL, maxL, pickB, zHB] at hb) <;> (try (first | (cases hb; done) | exact absurd hb (by decide) | (exfalso; omega))))
 | ((with_reducible refine And.intro ?_ ?_); (focus ((repeat' (first | (with_reducible rfl) | (with_reducible refine And.intro ?_ ?_) | omega | rfl | exact Or.inl rfl | exact Or.inr rfl | exact of_decide_eq_true rfl | exact Path.imp_of (of_decide_eq_true rfl) | (focus ((try simp only [Int.reduceToNat, Int.reduceTDiv, Int.reduceTMod, minL, maxL, pickB, zHB, InK, Path.imp, List.length_replicate, List.length_set, List.length_append, List.length_cons, List.length_nil] at *); omega)) | (refine app_le rfl ?_; omega))); done)); (conv => whnf))
 | ((with_reducible refine And.intro (Side.out ?_) ?_); rotate_left; (conv => whnf))
 | ((first | refine retF1 ?_ | refine retF2 ?_) <;> (conv => whnf) <;> repeat' (first
 | exact trivial
 | (with_reducible rfl)
 | ((with_reducible refine And.intro ?_ ?_) <;> conv => whnf)
 | omega
 | rfl
 | (refine congrArg (SV.arr _) ?_)
 | (refine congrArg (Value.int _) ?_)
 | (refine congrArg Value.bool ?_)))); all_goals (try unfold Side)
      all_goals try (repeat' (first | (with_reducible rfl) | (with_reducible refine And.intro ?_ ?_) | omega | rfl | exact Or.inl rfl | exact Or.inr rfl | exact of_decide_eq_true rfl | exact Path.imp_of (of_decide_eq_true rfl) | (focus ((try simp only [Int.reduceToNat, Int.reduceTDiv, Int.reduceTMod, minL, maxL, pickB, zHB, InK, Path.imp, List.length_replicate, List.length_set, List.length_append, List.length_cons, List.length_nil] at *); omega)) | (refine app_le rfl ?_; omega)))
      rw [signsB, hv, Bool.true_and]
      show decide ((s.length : Int) = n) = _
      rw [decide_eq_decide]; omega
theorem sgn_at (x : Int) : FnAt Try.prog false 65 [.lit (.int .i64 x)] (.lit (.bool (!(decide (x = 1) || decide (x = -1))))) [] := by
  refine FnAt.of_body tys_ok Try.func65 (by rfl) rfl Try.ntmps65 (by rw [Try.results65]) (by simp) ?_
  
  repeat' (first
 | refine W.seq ?_
 | refine W.block ?_
 | (refine W.region tys_ok [] ?_; conv => whnf)
 | (refine W.drawAll tys_ok [] mixed rfl ?_; conv => whnf)
 | (refine W.ret ?_; conv => whnf)
 | (refine W.skip ?_; conv => whnf)
 | (refine W.exit ?_; conv => whnf)
 | (refine W.cond rfl (fun hb => ?_) (fun hb => ?_) <;> (try simp only [Int.reduceToNat, Int.reduceTDiv, Int.reduceTMod, minL, maxL, pickB, zHB] at hb) <;> (try (first | (cases hb; done) | exact absurd hb (by decide) | (exfalso; omega))))
 | ((with_reducible refine And.intro ?_ ?_); (focus ((repeat' (first | (with_reducible rfl) | (with_reducible refine And.intro ?_ ?_) | omega | rfl | exact Or.inl rfl | exact Or.inr rfl | exact of_decide_eq_true rfl | exact Path.imp_of (of_decide_eq_true rfl) | (focus ((try simp only [Int.reduceToNat, Int.reduceTDiv, Int.reduceTMod, minL, maxL, pickB, zHB, InK, Path.imp, List.length_replicate, List.length_set, List.length_append, List.length_cons, List.length_nil] at *); omega)) | (refine app_le rfl ?_; omega))); done)); (conv => whnf))
 | ((with_reducible refine And.intro (Side.out ?_) ?_); rotate_left; (conv => whnf))
 | ((first | refine retF1 ?_ | refine retF2 ?_) <;> (conv => whnf) <;> repeat' (first
 | exact trivial
 | (with_reducible rfl)
 | ((with_reducible refine And.intro ?_ ?_) <;> conv => whnf)
 | omega
 | rfl
 | (refine congrArg (SV.arr _) ?_)
 | (refine congrArg (Value.int _) ?_)
 | (refine congrArg Value.bool ?_)))); all_goals (try unfold Side)
  all_goals try (repeat' (first | (with_reducible rfl) | (with_reducible refine And.intro ?_ ?_) | omega | rfl | exact Or.inl rfl | exact Or.inr rfl | exact of_decide_eq_true rfl | exact Path.imp_of (of_decide_eq_true rfl) | (focus ((try simp only [Int.reduceToNat, Int.reduceTDiv, Int.reduceTMod, minL, maxL, pickB, zHB, InK, Path.imp, List.length_replicate, List.length_set, List.length_append, List.length_cons, List.length_nil] at *); omega)) | (refine app_le rfl ?_; omega)))
  by_cases h1 : x = 1 <;> simp [pickB, h1]
def fidx (p : Int → Bool) : Nat → List Int → Int
  | _, [] => -1
  | i, x :: r => cond (p x) (i : Int) (fidx p (i + 1) r)
theorem fidx_any {p : Int → Bool} : ∀ {s : List Int} {i : Nat}, decide (0 ≤ fidx p i s) = s.any p
  | [], i => by simp [fidx]
  | x :: r, i => by
    rw [fidx, List.any_cons]
    cases hx : p x with
    | true => simp
    | false => rw [cond_false, fidx_any (s := r)]; simp
def badP (x : Int) : Bool := !(decide (x = 1) || decide (x = -1))
theorem indexfn_at (s : List Int) (hl : s.length ≤ 1000) : FnAt Try.prog false 71 [.arr (.int .i64) s, .fn 65 []] (.lit (.int .i64 (fidx badP 0 s))) [] := by
  refine FnAt.of_body tys_ok Try.func71 (by rfl) rfl Try.ntmps71 (by rw [Try.results71]) (by simp) ?_
  
  repeat' (first
 | refine W.seq ?_
 | refine W.block ?_
 | (refine W.region tys_ok [] ?_; conv => whnf)
 | (refine W.drawAll tys_ok [] mixed rfl ?_; conv => whnf)
 | (refine W.ret ?_; conv => whnf)
 | (refine W.skip ?_; conv => whnf)
 | (refine W.exit ?_; conv => whnf)
 | (refine W.cond rfl (fun hb => ?_) (fun hb => ?_) <;> (try simp only [Int.reduceToNat, Int.reduceTDiv, Int.reduceTMod, minL, maxL, pickB, zHB] at hb) <;> (try (first | (cases hb; done) | exact absurd hb (by decide) | (exfalso; omega))))
 | ((with_reducible refine And.intro ?_ ?_); (focus ((repeat' (first | (with_reducible rfl) | (with_reducible refine And.intro ?_ ?_) | omega | rfl | exact Or.inl rfl | exact Or.inr rfl | exact of_decide_eq_true rfl | exact Path.imp_of (of_decide_eq_true rfl) | (focus ((try simp only [Int.reduceToNat, Int.reduceTDiv, Int.reduceTMod, minL, maxL, pickB, zHB, InK, Path.imp, List.length_replicate, List.length_set, List.length_append, List.length_cons, List.length_nil] at *); omega)) | (refine app_le rfl ?_; omega))); done)); (conv => whnf))
 | ((with_reducible refine And.intro (Side.out ?_) ?_); rotate_left; (conv => whnf))
 | ((first | refine retF1 ?_ | refine retF2 ?_) <;> (conv => whnf) <;> repeat' (first
 | exact trivial
 | (with_reducible rfl)
 | ((with_reducible refine And.intro ?_ ?_) <;> conv => whnf)
 | omega
 | rfl
 | (refine congrArg (SV.arr _) ?_)
 | (refine congrArg (Value.int _) ?_)
 | (refine congrArg Value.bool ?_)))); all_goals (try unfold Side)
  refine W.loop (fun i : Nat => ⟨[(0, .st false (.arr (.int .i64) (s : List Int))), (1, .fn 65 []), (6, .st false (.arr (.int .i64) (s : List Int))), (7, .lit (.int .i64 (@List.length (Ty.int .i64).T s))), (8, .lit (.int .i64 (i)))], []⟩) (fun i => i ≤ s.length ∧ fidx badP 0 s = fidx badP i (s.drop i)) (fun i => s.length - i) (0) ?_ ?_
  · refine ⟨⟨Nat.zero_le _, rfl⟩, ?_⟩
    refine subF.ok ?_ <;> (conv => whnf) <;> repeat' (first
 | exact trivial
 | (with_reducible rfl)
 | ((with_reducible refine And.intro ?_ ?_) <;> conv => whnf)
 | omega
 | rfl
 | (refine congrArg (SV.arr _) ?_)
 | (refine congrArg (Value.int _) ?_)
 | (refine congrArg Value.bool ?_))
  · rintro i ⟨hi, hv⟩
    by_cases hil : i < s.length
    · rw [drop_getD 0 hil, fidx] at hv
      repeat' (first
 | refine W.seq ?_
 | refine W.block ?_
 | (refine W.region tys_ok [] ?_; conv => whnf)
 | (refine W.drawAll tys_ok [] mixed rfl ?_; conv => whnf)
 | (refine W.ret ?_; conv => whnf)
 | (refine W.skip ?_; conv => whnf)
 | (refine W.exit ?_; conv => whnf)
 | (refine call_at (al := false) (sgn_at (s.getD i 0)) rfl rfl rfl rfl ?_; conv => whnf)
 | (refine W.cond rfl (fun hb => ?_) (fun hb => ?_) <;> (try simp only [Int.reduceToNat, Int.reduceTDiv, Int.reduceTMod, minL, maxL, pickB, zHB] at hb) <;> (try (first | (cases hb; done) | exact absurd hb (by decide) | (exfalso; omega))))
 | ((with_reducible refine And.intro ?_ ?_); (focus ((repeat' (first | (with_reducible rfl) | (with_reducible refine And.intro ?_ ?_) | omega | rfl | exact Or.inl rfl | exact Or.inr rfl | exact of_decide_eq_true rfl | exact Path.imp_of (of_decide_eq_true rfl) | (focus ((try simp only [Int.reduceToNat, Int.reduceTDiv, Int.reduceTMod, minL, maxL, pickB, zHB, InK, Path.imp, List.length_replicate, List.length_set, List.length_append, List.length_cons, List.length_nil] at *); omega)) | (refine app_le rfl ?_; omega))); done)); (conv => whnf))
 | ((with_reducible refine And.intro (Side.out ?_) ?_); rotate_left; (conv => whnf))
 | ((first | refine retF1 ?_ | refine retF2 ?_) <;> (conv => whnf) <;> repeat' (first
 | exact trivial
 | (with_reducible rfl)
 | ((with_reducible refine And.intro ?_ ?_) <;> conv => whnf)
 | omega
 | rfl
 | (refine congrArg (SV.arr _) ?_)
 | (refine congrArg (Value.int _) ?_)
 | (refine congrArg Value.bool ?_)))); all_goals (try unfold Side)
      all_goals try (repeat' (first | (with_reducible rfl) | (with_reducible refine And.intro ?_ ?_) | omega | rfl | exact Or.inl rfl | exact Or.inr rfl | exact of_decide_eq_true rfl | exact Path.imp_of (of_decide_eq_true rfl) | (focus ((try simp only [Int.reduceToNat, Int.reduceTDiv, Int.reduceTMod, minL, maxL, pickB, zHB, InK, Path.imp, List.length_replicate, List.length_set, List.length_append, List.length_cons, List.length_nil] at *); omega)) | (refine app_le rfl ?_; omega)))
      · rw [hv]
        have : badP (s.getD i 0) = true := by rw [badP, decide_eq_false hb.1, decide_eq_false hb.2]; rfl
        rw [this]; rfl
      · refine ⟨i + 1, ⟨⟨by omega, ?_⟩, by omega⟩, ?_⟩
        · rw [hv]
          have : badP (s.getD i 0) = false := by rw [badP]; rcases hb with hb | hb <;> rw [hb] <;> rfl
          rw [this]; rfl
        · refine subF.ok ?_ <;> (conv => whnf) <;> repeat' (first
 | exact trivial
 | (with_reducible rfl)
 | ((with_reducible refine And.intro ?_ ?_) <;> conv => whnf)
 | omega
 | rfl
 | (refine congrArg (SV.arr _) ?_)
 | (refine congrArg (Value.int _) ?_)
 | (refine congrArg Value.bool ?_))
    · have hie : s.length = i := by omega
      subst hie
      rw [List.drop_length, fidx] at hv
      repeat' (first
 | refine W.seq ?_
 | refine W.block ?_
 | (refine W.region tys_ok [] ?_; conv => whnf)
 | (refine W.drawAll tys_ok [] mixed rfl ?_; conv => whnf)
 | (refine W.ret ?_; conv => whnf)
 | (refine W.skip ?_; conv => whnf)
 | (refine W.exit ?_; conv => whnf)
 | (refine W.cond rfl (fun hb => ?_) (fun hb => ?_) <;> (try simp only [Int.reduceToNat, Int.reduceTDiv, Int.reduceTMod, minL, maxL, pickB, zHB] at hb) <;> (try (first | (cases hb; done) | exact absurd hb (by decide) | (exfalso; omega))))
 | ((with_reducible refine And.intro ?_ ?_); (focus ((repeat' (first | (with_reducible rfl) | (with_reducible refine And.intro ?_ ?_) | omega | rfl | exact Or.inl rfl | exact Or.inr rfl | exact of_decide_eq_true rfl | exact Path.imp_of (of_decide_eq_true rfl) | (focus ((try simp only [Int.reduceToNat, Int.reduceTDiv, Int.reduceTMod, minL, maxL, pickB, zHB, InK, Path.imp, List.length_replicate, List.length_set, List.length_append, List.length_cons, List.length_nil] at *); omega)) | (refine app_le rfl ?_; omega))); done)); (conv => whnf))
 | ((with_reducible refine And.intro (Side.out ?_) ?_); rotate_left; (conv => whnf))
 | ((first | refine retF1 ?_ | refine retF2 ?_) <;> (conv => whnf) <;> repeat' (first
 | exact trivial
 | (with_reducible rfl)
 | ((with_reducible refine And.intro ?_ ?_) <;> conv => whnf)
 | omega
 | rfl
 | (refine congrArg (SV.arr _) ?_)
 | (refine congrArg (Value.int _) ?_)
 | (refine congrArg Value.bool ?_)))); all_goals (try unfold Side)
      all_goals try (repeat' (first | (with_reducible rfl) | (with_reducible refine And.intro ?_ ?_) | omega | rfl | exact Or.inl rfl | exact Or.inr rfl | exact of_decide_eq_true rfl | exact Path.imp_of (of_decide_eq_true rfl) | (focus ((try simp only [Int.reduceToNat, Int.reduceTDiv, Int.reduceTMod, minL, maxL, pickB, zHB, InK, Path.imp, List.length_replicate, List.length_set, List.length_append, List.length_cons, List.length_nil] at *); omega)) | (refine app_le rfl ?_; omega)))
      all_goals exact hv.symm
theorem contains_at (s : List Int) (hl : s.length ≤ 1000) : FnAt Try.prog false 64 [.arr (.int .i64) s, .fn 65 []] (.lit (.bool (!sgnB s))) [] := by
  have e : decide (0 ≤ fidx badP 0 s) = !sgnB s := by
    rw [fidx_any, sgnB, Bool.eq_iff_iff]
    simp [badP]
  refine FnAt.of_body tys_ok Try.func64 (by rfl) rfl Try.ntmps64 (by rw [Try.results64]) (by simp) ?_
  
  repeat' (first
 | refine W.seq ?_
 | refine W.block ?_
 | (refine W.region tys_ok [] ?_; conv => whnf)
 | (refine W.drawAll tys_ok [] mixed rfl ?_; conv => whnf)
 | (refine W.ret ?_; conv => whnf)
 | (refine W.skip ?_; conv => whnf)
 | (refine W.exit ?_; conv => whnf)
 | (refine call_at (al := false) (indexfn_at s hl) rfl rfl rfl rfl ?_; conv => whnf)
 | (refine W.cond rfl (fun hb => ?_) (fun hb => ?_) <;> (try simp only [Int.reduceToNat, Int.reduceTDiv, Int.reduceTMod, minL, maxL, pickB, zHB] at hb) <;> (try (first | (cases hb; done) | exact absurd hb (by decide) | (exfalso; omega))))
 | ((with_reducible refine And.intro ?_ ?_); (focus ((repeat' (first | (with_reducible rfl) | (with_reducible refine And.intro ?_ ?_) | omega | rfl | exact Or.inl rfl | exact Or.inr rfl | exact of_decide_eq_true rfl | exact Path.imp_of (of_decide_eq_true rfl) | (focus ((try simp only [Int.reduceToNat, Int.reduceTDiv, Int.reduceTMod, minL, maxL, pickB, zHB, InK, Path.imp, List.length_replicate, List.length_set, List.length_append, List.length_cons, List.length_nil] at *); omega)) | (refine app_le rfl ?_; omega))); done)); (conv => whnf))
 | ((with_reducible refine And.intro (Side.out ?_) ?_); rotate_left; (conv => whnf))
 | ((first | refine retF1 ?_ | refine retF2 ?_) <;> (conv => whnf) <;> repeat' (first
 | exact trivial
 | (with_reducible rfl)
 | ((with_reducible refine And.intro ?_ ?_) <;> conv => whnf)
 | omega
 | rfl
 | (refine congrArg (SV.arr _) ?_)
 | (refine congrArg (Value.int _) ?_)
 | (refine congrArg Value.bool ?_)))); all_goals (try unfold Side)
  all_goals try (repeat' (first | (with_reducible rfl) | (with_reducible refine And.intro ?_ ?_) | omega | rfl | exact Or.inl rfl | exact Or.inr rfl | exact of_decide_eq_true rfl | exact Path.imp_of (of_decide_eq_true rfl) | (focus ((try simp only [Int.reduceToNat, Int.reduceTDiv, Int.reduceTMod, minL, maxL, pickB, zHB, InK, Path.imp, List.length_replicate, List.length_set, List.length_append, List.length_cons, List.length_nil] at *); omega)) | (refine app_le rfl ?_; omega)))
  all_goals exact e
theorem signed_ok {w s : List Int} {n : Nat} (h : Word w n) (hn : n ≤ 10) (hs : signsB s n = true) : FnAt Try.prog true 47 [.arr (.int .i64) w, .arr (.int .i64) s] (.tup [.st true (curveT n w), .lit (.int .i64 0)]) [] := by
  simp only [signsB, Bool.and_eq_true, decide_eq_true_eq] at hs
  have hl : @List.length (Ty.int .i64).T s = n := hs.2
  have hc := contains_at s (by omega)
  rw [hs.1] at hc
  refine FnAt.of_body tys_ok Try.func47 (by rfl) rfl Try.ntmps47 (by rw [Try.results47]) (by simp) ?_
  
  repeat' (first
 | refine W.seq ?_
 | refine W.block ?_
 | (refine W.region tys_ok [] ?_; conv => whnf)
 | (refine W.drawAll tys_ok [] mixed rfl ?_; conv => whnf)
 | (refine W.ret ?_; conv => whnf)
 | (refine W.skip ?_; conv => whnf)
 | (refine W.exit ?_; conv => whnf)
 | (refine call_at (al := true) (read_ok h hn) rfl rfl rfl rfl ?_; conv => whnf)
 | (refine call_at (al := false) (hc) rfl rfl rfl rfl ?_; conv => whnf)
 | (refine W.cond rfl (fun hb => ?_) (fun hb => ?_) <;> (try simp only [Int.reduceToNat, Int.reduceTDiv, Int.reduceTMod, minL, maxL, pickB, zHB] at hb) <;> (try (first | (cases hb; done) | exact absurd hb (by decide) | (exfalso; omega))))
 | ((with_reducible refine And.intro ?_ ?_); (focus ((repeat' (first | (with_reducible rfl) | (with_reducible refine And.intro ?_ ?_) | omega | rfl | exact Or.inl rfl | exact Or.inr rfl | exact of_decide_eq_true rfl | exact Path.imp_of (of_decide_eq_true rfl) | (focus ((try simp only [Int.reduceToNat, Int.reduceTDiv, Int.reduceTMod, minL, maxL, pickB, zHB, InK, Path.imp, List.length_replicate, List.length_set, List.length_append, List.length_cons, List.length_nil] at *); omega)) | (refine app_le rfl ?_; omega))); done)); (conv => whnf))
 | ((with_reducible refine And.intro (Side.out ?_) ?_); rotate_left; (conv => whnf))
 | ((first | refine retF1 ?_ | refine retF2 ?_) <;> (conv => whnf) <;> repeat' (first
 | exact trivial
 | (with_reducible rfl)
 | ((with_reducible refine And.intro ?_ ?_) <;> conv => whnf)
 | omega
 | rfl
 | (refine congrArg (SV.arr _) ?_)
 | (refine congrArg (Value.int _) ?_)
 | (refine congrArg Value.bool ?_)))); all_goals (try unfold Side)
  all_goals try (repeat' (first | (with_reducible rfl) | (with_reducible refine And.intro ?_ ?_) | omega | rfl | exact Or.inl rfl | exact Or.inr rfl | exact of_decide_eq_true rfl | exact Path.imp_of (of_decide_eq_true rfl) | (focus ((try simp only [Int.reduceToNat, Int.reduceTDiv, Int.reduceTMod, minL, maxL, pickB, zHB, InK, Path.imp, List.length_replicate, List.length_set, List.length_append, List.length_cons, List.length_nil] at *); omega)) | (refine app_le rfl ?_; omega)))
theorem signed_bad {w s : List Int} (hw : ¬ checkT w = 0) (hl : w.length ≤ 1000) : FnAt Try.prog true 47 [.arr (.int .i64) w, .arr (.int .i64) s] (.tup [.lit (.pointer none), .lit (.int .i64 (checkT w))]) [] := by
  refine FnAt.of_body tys_ok Try.func47 (by rfl) rfl Try.ntmps47 (by rw [Try.results47]) (by simp) ?_
  
  repeat' (first
 | refine W.seq ?_
 | refine W.block ?_
 | (refine W.region tys_ok [] ?_; conv => whnf)
 | (refine W.drawAll tys_ok [] mixed rfl ?_; conv => whnf)
 | (refine W.ret ?_; conv => whnf)
 | (refine W.skip ?_; conv => whnf)
 | (refine W.exit ?_; conv => whnf)
 | (refine call_at (al := true) (read_bad hw hl) rfl rfl rfl rfl ?_; conv => whnf)
 | (refine W.cond rfl (fun hb => ?_) (fun hb => ?_) <;> (try simp only [Int.reduceToNat, Int.reduceTDiv, Int.reduceTMod, minL, maxL, pickB, zHB] at hb) <;> (try (first | (cases hb; done) | exact absurd hb (by decide) | (exfalso; omega))))
 | ((with_reducible refine And.intro ?_ ?_); (focus ((repeat' (first | (with_reducible rfl) | (with_reducible refine And.intro ?_ ?_) | omega | rfl | exact Or.inl rfl | exact Or.inr rfl | exact of_decide_eq_true rfl | exact Path.imp_of (of_decide_eq_true rfl) | (focus ((try simp only [Int.reduceToNat, Int.reduceTDiv, Int.reduceTMod, minL, maxL, pickB, zHB, InK, Path.imp, List.length_replicate, List.length_set, List.length_append, List.length_cons, List.length_nil] at *); omega)) | (refine app_le rfl ?_; omega))); done)); (conv => whnf))
 | ((with_reducible refine And.intro (Side.out ?_) ?_); rotate_left; (conv => whnf))
 | ((first | refine retF1 ?_ | refine retF2 ?_) <;> (conv => whnf) <;> repeat' (first
 | exact trivial
 | (with_reducible rfl)
 | ((with_reducible refine And.intro ?_ ?_) <;> conv => whnf)
 | omega
 | rfl
 | (refine congrArg (SV.arr _) ?_)
 | (refine congrArg (Value.int _) ?_)
 | (refine congrArg Value.bool ?_)))); all_goals (try unfold Side)
  all_goals try (repeat' (first | (with_reducible rfl) | (with_reducible refine And.intro ?_ ?_) | omega | rfl | exact Or.inl rfl | exact Or.inr rfl | exact of_decide_eq_true rfl | exact Path.imp_of (of_decide_eq_true rfl) | (focus ((try simp only [Int.reduceToNat, Int.reduceTDiv, Int.reduceTMod, minL, maxL, pickB, zHB, InK, Path.imp, List.length_replicate, List.length_set, List.length_append, List.length_cons, List.length_nil] at *); omega)) | (refine app_le rfl ?_; omega)))
theorem signed_form {w s : List Int} {n : Nat} (h : Word w n) (hn : n ≤ 10) (hs : signsB s n = false) (hl : s.length ≤ 1000) : FnAt Try.prog true 47 [.arr (.int .i64) w, .arr (.int .i64) s] (.tup [.lit (.pointer none), .lit (.int .i64 2)]) [] := by
  have hc := contains_at s (by omega)
  refine FnAt.of_body tys_ok Try.func47 (by rfl) rfl Try.ntmps47 (by rw [Try.results47]) (by simp) ?_
  
  repeat' (first
 | refine W.seq ?_
 | refine W.block ?_
 | (refine W.region tys_ok [] ?_; conv => whnf)
 | (refine W.drawAll tys_ok [] mixed rfl ?_; conv => whnf)
 | (refine W.ret ?_; conv => whnf)
 | (refine W.skip ?_; conv => whnf)
 | (refine W.exit ?_; conv => whnf)
 | (refine call_at (al := true) (read_ok h hn) rfl rfl rfl rfl ?_; conv => whnf)
 | (refine call_at (al := false) (hc) rfl rfl rfl rfl ?_; conv => whnf)
 | (refine W.cond rfl (fun hb => ?_) (fun hb => ?_) <;> (try simp only [Int.reduceToNat, Int.reduceTDiv, Int.reduceTMod, minL, maxL, pickB, zHB] at hb) <;> (try (first | (cases hb; done) | exact absurd hb (by decide) | (exfalso; omega))))
 | ((with_reducible refine And.intro ?_ ?_); (focus ((repeat' (first | (with_reducible rfl) | (with_reducible refine And.intro ?_ ?_) | omega | rfl | exact Or.inl rfl | exact Or.inr rfl | exact of_decide_eq_true rfl | exact Path.imp_of (of_decide_eq_true rfl) | (focus ((try simp only [Int.reduceToNat, Int.reduceTDiv, Int.reduceTMod, minL, maxL, pickB, zHB, InK, Path.imp, List.length_replicate, List.length_set, List.length_append, List.length_cons, List.length_nil] at *); omega)) | (refine app_le rfl ?_; omega))); done)); (conv => whnf))
 | ((with_reducible refine And.intro (Side.out ?_) ?_); rotate_left; (conv => whnf))
 | ((first | refine retF1 ?_ | refine retF2 ?_) <;> (conv => whnf) <;> repeat' (first
 | exact trivial
 | (with_reducible rfl)
 | ((with_reducible refine And.intro ?_ ?_) <;> conv => whnf)
 | omega
 | rfl
 | (refine congrArg (SV.arr _) ?_)
 | (refine congrArg (Value.int _) ?_)
 | (refine congrArg Value.bool ?_)))); all_goals (try unfold Side)
  all_goals try (repeat' (first | (with_reducible rfl) | (with_reducible refine And.intro ?_ ?_) | omega | rfl | exact Or.inl rfl | exact Or.inr rfl | exact of_decide_eq_true rfl | exact Path.imp_of (of_decide_eq_true rfl) | (focus ((try simp only [Int.reduceToNat, Int.reduceTDiv, Int.reduceTMod, minL, maxL, pickB, zHB, InK, Path.imp, List.length_replicate, List.length_set, List.length_append, List.length_cons, List.length_nil] at *); omega)) | (refine app_le rfl ?_; omega)))
  rw [signsB, hb.2, Bool.true_and, decide_eq_false_iff_not] at hs
  exact hs (by have := hb.1; have h' : (s.length : Int) = n := this; omega)
end Go.Proofs.Ytdfajcfkdfjoeaa
namespace Go.Scr
set_option linter.unusedVariables false
set_option linter.unusedSimpArgs false
def atT (m : Nat) (st : Int) : Int := if 0 ≤ st then (st + 1).tmod m else -1 - st
def nextT (w s : List Int) (st : Int) : Int :=
  let a := atT w.length st
  let v := w.getD a.toNat 0
  let p := (placesT w v).getD 0 0
  let q := (placesT w v).getD 1 0
  if decide (0 ≤ st) == (decide (s.getD v.toNat 0 = 1) == decide (a = p)) then -1 - (p + q - a + w.length - 1).tmod w.length else p + q - a
structure At (w s : List Int) (n : Nat) (st : Int) (a x p q : Nat) : Prop where
  ha : a < 2 * n
  at_ : atT (2 * n) st = a
  hx : x < n
  wa : w.getD a 0 = x
  pq : p < q
  hq : q < 2 * n
  pl : placesT w x = [(p : Int), (q : Int)]
  hp : a = p ∨ a = q
  sg : s.getD x 0 = 1 ∨ s.getD x 0 = -1
  nx : nextT w s st = if decide (0 ≤ st) == (decide (s.getD x 0 = 1) == decide (a = p)) then -1 - ((p : Int) + q - a + (2 * n : Nat) - 1).tmod (2 * n : Nat) else (p : Int) + q - a
theorem atT_lt {m : Nat} {st : Int} (hm : 0 < m) (h0 : -(m : Int) ≤ st) (h1 : st < m) : 0 ≤ atT m st ∧ atT m st < m := by
  unfold atT
  split
  · exact ⟨Int.tmod_nonneg _ (by omega), Int.tmod_lt_of_pos _ (by omega)⟩
  · omega
theorem at_of {w s : List Int} {n : Nat} (h : Word w n) (hs : s.all (fun x => decide (x = 1) || decide (x = -1)) = true) (hl : s.length = n) {st : Int} (h0 : -((2 * n : Nat) : Int) ≤ st) (h1 : st < (2 * n : Nat)) : ∃ a x p q, At w s n st a x p q := by
  have hp1 := h.pos
  have ha := atT_lt (m := 2 * n) (by omega) h0 h1
  obtain ⟨a, ha'⟩ : ∃ a : Nat, atT (2 * n) st = a := ⟨(atT (2 * n) st).toNat, by omega⟩
  have han : a < 2 * n := by omega
  have hx := h.rg a han
  obtain ⟨x, hx'⟩ : ∃ x : Nat, w.getD a 0 = x := ⟨(w.getD a 0).toNat, by omega⟩
  have hxn : x < n := by omega
  obtain ⟨p, q, hpq, hq, hpl, _, _, hall⟩ := h.places hxn
  refine ⟨a, x, p, q, han, ha', hxn, hx', hpq, hq, hpl, hall a han hx', ?_, ?_⟩
  · have hm : s.getD x 0 ∈ s := by rw [List.getD_eq_getElem?_getD, List.getElem?_eq_getElem (by omega)]; exact List.getElem_mem _
    have := List.all_eq_true.1 hs _ hm
    simpa using this
  · unfold nextT
    simp only [h.len, ha', Int.toNat_natCast, hx', hpl, List.getD_cons_zero, List.getD_cons_succ]
    have : decide ((a : Int) = p) = decide (a = p) := by rw [decide_eq_decide]; omega
    rw [this]
theorem At.rg {w s : List Int} {n : Nat} {st : Int} {a x p q : Nat} (h : At w s n st a x p q) : -((2 * n : Nat) : Int) ≤ nextT w s st ∧ nextT w s st < (2 * n : Nat) := by
  rw [h.nx]
  have h1 := h.hp; have h2 := h.hq; have h3 := h.pq
  split
  · have := Int.tmod_nonneg (a := (p : Int) + q - a + (2 * n : Nat) - 1) (2 * n : Nat) (by omega)
    have := Int.tmod_lt_of_pos ((p : Int) + q - a + (2 * n : Nat) - 1) (b := (2 * n : Nat)) (by omega)
    omega
  · omega
end Go.Scr
namespace Go.Proofs.Ytdfajcfkdfjoeaa
open Go Go.Vc Go.Scr
set_option linter.unusedVariables false
set_option linter.unusedSimpArgs false
theorem around_p : FnAt Try.prog false 72 [.lit (.int .i64 1)] (.strct [.lit (.int .i64 0), .lit (.int .i64 2), .lit (.int .i64 1), .lit (.int .i64 3)]) [] := by
  refine FnAt.of_body tys_ok Try.func72 (by rfl) rfl Try.ntmps72 (by rw [Try.results72]) (by simp) ?_
  
  repeat' (first
 | refine W.seq ?_
 | refine W.block ?_
 | (refine W.region tys_ok [] ?_; conv => whnf)
 | (refine W.drawAll tys_ok [] mixed rfl ?_; conv => whnf)
 | (refine W.ret ?_; conv => whnf)
 | (refine W.skip ?_; conv => whnf)
 | (refine W.exit ?_; conv => whnf)
 | (refine W.cond rfl (fun hb => ?_) (fun hb => ?_) <;> (try simp only [Int.reduceToNat, Int.reduceTDiv, Int.reduceTMod, minL, maxL, pickB, zHB] at hb) <;> (try (first | (cases hb; done) | exact absurd hb (by decide) | (exfalso; omega))))
 | ((with_reducible refine And.intro ?_ ?_); (focus ((repeat' (first | (with_reducible rfl) | (with_reducible refine And.intro ?_ ?_) | omega | rfl | exact Or.inl rfl | exact Or.inr rfl | exact of_decide_eq_true rfl | exact Path.imp_of (of_decide_eq_true rfl) | (focus ((try simp only [Int.reduceToNat, Int.reduceTDiv, Int.reduceTMod, minL, maxL, pickB, zHB, InK, Path.imp, List.length_replicate, List.length_set, List.length_append, List.length_cons, List.length_nil] at *); omega)) | (refine app_le rfl ?_; omega))); done)); (conv => whnf))
 | ((with_reducible refine And.intro (Side.out ?_) ?_); rotate_left; (conv => whnf))
 | ((first | refine retF1 ?_ | refine retF2 ?_) <;> (conv => whnf) <;> repeat' (first
 | exact trivial
 | (with_reducible rfl)
 | ((with_reducible refine And.intro ?_ ?_) <;> conv => whnf)
 | omega
 | rfl
 | (refine congrArg (SV.arr _) ?_)
 | (refine congrArg (Value.int _) ?_)
 | (refine congrArg Value.bool ?_)))); all_goals (try unfold Side)
  all_goals try (repeat' (first | (with_reducible rfl) | (with_reducible refine And.intro ?_ ?_) | omega | rfl | exact Or.inl rfl | exact Or.inr rfl | exact of_decide_eq_true rfl | exact Path.imp_of (of_decide_eq_true rfl) | (focus ((try simp only [Int.reduceToNat, Int.reduceTDiv, Int.reduceTMod, minL, maxL, pickB, zHB, InK, Path.imp, List.length_replicate, List.length_set, List.length_append, List.length_cons, List.length_nil] at *); omega)) | (refine app_le rfl ?_; omega)))
theorem around_m : FnAt Try.prog false 72 [.lit (.int .i64 (-1))] (.strct [.lit (.int .i64 0), .lit (.int .i64 3), .lit (.int .i64 1), .lit (.int .i64 2)]) [] := by
  refine FnAt.of_body tys_ok Try.func72 (by rfl) rfl Try.ntmps72 (by rw [Try.results72]) (by simp) ?_
  
  repeat' (first
 | refine W.seq ?_
 | refine W.block ?_
 | (refine W.region tys_ok [] ?_; conv => whnf)
 | (refine W.drawAll tys_ok [] mixed rfl ?_; conv => whnf)
 | (refine W.ret ?_; conv => whnf)
 | (refine W.skip ?_; conv => whnf)
 | (refine W.exit ?_; conv => whnf)
 | (refine W.cond rfl (fun hb => ?_) (fun hb => ?_) <;> (try simp only [Int.reduceToNat, Int.reduceTDiv, Int.reduceTMod, minL, maxL, pickB, zHB] at hb) <;> (try (first | (cases hb; done) | exact absurd hb (by decide) | (exfalso; omega))))
 | ((with_reducible refine And.intro ?_ ?_); (focus ((repeat' (first | (with_reducible rfl) | (with_reducible refine And.intro ?_ ?_) | omega | rfl | exact Or.inl rfl | exact Or.inr rfl | exact of_decide_eq_true rfl | exact Path.imp_of (of_decide_eq_true rfl) | (focus ((try simp only [Int.reduceToNat, Int.reduceTDiv, Int.reduceTMod, minL, maxL, pickB, zHB, InK, Path.imp, List.length_replicate, List.length_set, List.length_append, List.length_cons, List.length_nil] at *); omega)) | (refine app_le rfl ?_; omega))); done)); (conv => whnf))
 | ((with_reducible refine And.intro (Side.out ?_) ?_); rotate_left; (conv => whnf))
 | ((first | refine retF1 ?_ | refine retF2 ?_) <;> (conv => whnf) <;> repeat' (first
 | exact trivial
 | (with_reducible rfl)
 | ((with_reducible refine And.intro ?_ ?_) <;> conv => whnf)
 | omega
 | rfl
 | (refine congrArg (SV.arr _) ?_)
 | (refine congrArg (Value.int _) ?_)
 | (refine congrArg Value.bool ?_)))); all_goals (try unfold Side)
  all_goals try (repeat' (first | (with_reducible rfl) | (with_reducible refine And.intro ?_ ?_) | omega | rfl | exact Or.inl rfl | exact Or.inr rfl | exact of_decide_eq_true rfl | exact Path.imp_of (of_decide_eq_true rfl) | (focus ((try simp only [Int.reduceToNat, Int.reduceTDiv, Int.reduceTMod, minL, maxL, pickB, zHB, InK, Path.imp, List.length_replicate, List.length_set, List.length_append, List.length_cons, List.length_nil] at *); omega)) | (refine app_le rfl ?_; omega)))
theorem index_at (xs : List Int) (v : Int) (hl : xs.length ≤ 1000) : FnAt Try.prog false 73 [.arr (.int .i64) xs, .lit (.int .i64 v)] (.lit (.int .i64 (fidx (fun x => decide (v = x)) 0 xs))) [] := by
  refine FnAt.of_body tys_ok Try.func73 (by rfl) rfl Try.ntmps73 (by rw [Try.results73]) (by simp) ?_
  
  repeat' (first
 | refine W.seq ?_
 | refine W.block ?_
 | (refine W.region tys_ok [] ?_; conv => whnf)
 | (refine W.drawAll tys_ok [] mixed rfl ?_; conv => whnf)
 | (refine W.ret ?_; conv => whnf)
 | (refine W.skip ?_; conv => whnf)
 | (refine W.exit ?_; conv => whnf)
 | (refine W.cond rfl (fun hb => ?_) (fun hb => ?_) <;> (try simp only [Int.reduceToNat, Int.reduceTDiv, Int.reduceTMod, minL, maxL, pickB, zHB] at hb) <;> (try (first | (cases hb; done) | exact absurd hb (by decide) | (exfalso; omega))))
 | ((with_reducible refine And.intro ?_ ?_); (focus ((repeat' (first | (with_reducible rfl) | (with_reducible refine And.intro ?_ ?_) | omega | rfl | exact Or.inl rfl | exact Or.inr rfl | exact of_decide_eq_true rfl | exact Path.imp_of (of_decide_eq_true rfl) | (focus ((try simp only [Int.reduceToNat, Int.reduceTDiv, Int.reduceTMod, minL, maxL, pickB, zHB, InK, Path.imp, List.length_replicate, List.length_set, List.length_append, List.length_cons, List.length_nil] at *); omega)) | (refine app_le rfl ?_; omega))); done)); (conv => whnf))
 | ((with_reducible refine And.intro (Side.out ?_) ?_); rotate_left; (conv => whnf))
 | ((first | refine retF1 ?_ | refine retF2 ?_) <;> (conv => whnf) <;> repeat' (first
 | exact trivial
 | (with_reducible rfl)
 | ((with_reducible refine And.intro ?_ ?_) <;> conv => whnf)
 | omega
 | rfl
 | (refine congrArg (SV.arr _) ?_)
 | (refine congrArg (Value.int _) ?_)
 | (refine congrArg Value.bool ?_)))); all_goals (try unfold Side)
  refine W.loop (fun i : Nat => ⟨[(0, .st false (.arr (.int .i64) (xs : List Int))), (1, .lit (.int .i64 (v))), (7, .lit (.int .i64 (@List.length (Ty.int .i64).T xs))), (8, .lit (.int .i64 (i)))], []⟩) (fun i => i ≤ xs.length ∧ fidx (fun x => decide (v = x)) 0 xs = fidx (fun x => decide (v = x)) i (xs.drop i)) (fun i => xs.length - i) (0) ?_ ?_
  · refine ⟨⟨Nat.zero_le _, rfl⟩, ?_⟩
    refine subF.ok ?_ <;> (conv => whnf) <;> repeat' (first
 | exact trivial
 | (with_reducible rfl)
 | ((with_reducible refine And.intro ?_ ?_) <;> conv => whnf)
 | omega
 | rfl
 | (refine congrArg (SV.arr _) ?_)
 | (refine congrArg (Value.int _) ?_)
 | (refine congrArg Value.bool ?_))
  · rintro i ⟨hi, hv⟩
    by_cases hil : i < xs.length
    · rw [drop_getD 0 hil, fidx] at hv
      repeat' (first
 | refine W.seq ?_
 | refine W.block ?_
 | (refine W.region tys_ok [] ?_; conv => whnf)
 | (refine W.drawAll tys_ok [] mixed rfl ?_; conv => whnf)
 | (refine W.ret ?_; conv => whnf)
 | (refine W.skip ?_; conv => whnf)
 | (refine W.exit ?_; conv => whnf)
 | (refine W.cond rfl (fun hb => ?_) (fun hb => ?_) <;> (try simp only [Int.reduceToNat, Int.reduceTDiv, Int.reduceTMod, minL, maxL, pickB, zHB] at hb) <;> (try (first | (cases hb; done) | exact absurd hb (by decide) | (exfalso; omega))))
 | ((with_reducible refine And.intro ?_ ?_); (focus ((repeat' (first | (with_reducible rfl) | (with_reducible refine And.intro ?_ ?_) | omega | rfl | exact Or.inl rfl | exact Or.inr rfl | exact of_decide_eq_true rfl | exact Path.imp_of (of_decide_eq_true rfl) | (focus ((try simp only [Int.reduceToNat, Int.reduceTDiv, Int.reduceTMod, minL, maxL, pickB, zHB, InK, Path.imp, List.length_replicate, List.length_set, List.length_append, List.length_cons, List.length_nil] at *); omega)) | (refine app_le rfl ?_; omega))); done)); (conv => whnf))
 | ((with_reducible refine And.intro (Side.out ?_) ?_); rotate_left; (conv => whnf))
 | ((first | refine retF1 ?_ | refine retF2 ?_) <;> (conv => whnf) <;> repeat' (first
 | exact trivial
 | (with_reducible rfl)
 | ((with_reducible refine And.intro ?_ ?_) <;> conv => whnf)
 | omega
 | rfl
 | (refine congrArg (SV.arr _) ?_)
 | (refine congrArg (Value.int _) ?_)
 | (refine congrArg Value.bool ?_)))); all_goals (try unfold Side)
      all_goals try (repeat' (first | (with_reducible rfl) | (with_reducible refine And.intro ?_ ?_) | omega | rfl | exact Or.inl rfl | exact Or.inr rfl | exact of_decide_eq_true rfl | exact Path.imp_of (of_decide_eq_true rfl) | (focus ((try simp only [Int.reduceToNat, Int.reduceTDiv, Int.reduceTMod, minL, maxL, pickB, zHB, InK, Path.imp, List.length_replicate, List.length_set, List.length_append, List.length_cons, List.length_nil] at *); omega)) | (refine app_le rfl ?_; omega)))
      · rw [hv, decide_eq_true hb]; rfl
      · refine ⟨i + 1, ⟨⟨by omega, ?_⟩, by omega⟩, ?_⟩
        · rw [hv, decide_eq_false hb]; rfl
        · refine subF.ok ?_ <;> (conv => whnf) <;> repeat' (first
 | exact trivial
 | (with_reducible rfl)
 | ((with_reducible refine And.intro ?_ ?_) <;> conv => whnf)
 | omega
 | rfl
 | (refine congrArg (SV.arr _) ?_)
 | (refine congrArg (Value.int _) ?_)
 | (refine congrArg Value.bool ?_))
    · have hie : xs.length = i := by omega
      subst hie
      rw [List.drop_length, fidx] at hv
      repeat' (first
 | refine W.seq ?_
 | refine W.block ?_
 | (refine W.region tys_ok [] ?_; conv => whnf)
 | (refine W.drawAll tys_ok [] mixed rfl ?_; conv => whnf)
 | (refine W.ret ?_; conv => whnf)
 | (refine W.skip ?_; conv => whnf)
 | (refine W.exit ?_; conv => whnf)
 | (refine W.cond rfl (fun hb => ?_) (fun hb => ?_) <;> (try simp only [Int.reduceToNat, Int.reduceTDiv, Int.reduceTMod, minL, maxL, pickB, zHB] at hb) <;> (try (first | (cases hb; done) | exact absurd hb (by decide) | (exfalso; omega))))
 | ((with_reducible refine And.intro ?_ ?_); (focus ((repeat' (first | (with_reducible rfl) | (with_reducible refine And.intro ?_ ?_) | omega | rfl | exact Or.inl rfl | exact Or.inr rfl | exact of_decide_eq_true rfl | exact Path.imp_of (of_decide_eq_true rfl) | (focus ((try simp only [Int.reduceToNat, Int.reduceTDiv, Int.reduceTMod, minL, maxL, pickB, zHB, InK, Path.imp, List.length_replicate, List.length_set, List.length_append, List.length_cons, List.length_nil] at *); omega)) | (refine app_le rfl ?_; omega))); done)); (conv => whnf))
 | ((with_reducible refine And.intro (Side.out ?_) ?_); rotate_left; (conv => whnf))
 | ((first | refine retF1 ?_ | refine retF2 ?_) <;> (conv => whnf) <;> repeat' (first
 | exact trivial
 | (with_reducible rfl)
 | ((with_reducible refine And.intro ?_ ?_) <;> conv => whnf)
 | omega
 | rfl
 | (refine congrArg (SV.arr _) ?_)
 | (refine congrArg (Value.int _) ?_)
 | (refine congrArg Value.bool ?_)))); all_goals (try unfold Side)
      all_goals try (repeat' (first | (with_reducible rfl) | (with_reducible refine And.intro ?_ ?_) | omega | rfl | exact Or.inl rfl | exact Or.inr rfl | exact of_decide_eq_true rfl | exact Path.imp_of (of_decide_eq_true rfl) | (focus ((try simp only [Int.reduceToNat, Int.reduceTDiv, Int.reduceTMod, minL, maxL, pickB, zHB, InK, Path.imp, List.length_replicate, List.length_set, List.length_append, List.length_cons, List.length_nil] at *); omega)) | (refine app_le rfl ?_; omega)))
      all_goals exact hv.symm
theorem index_lit (xs : List Int) (v j : Int) (hl : xs.length ≤ 1000) (h : fidx (fun x => decide (v = x)) 0 xs = j) : FnAt Try.prog false 73 [.arr (.int .i64) xs, .lit (.int .i64 v)] (.lit (.int .i64 j)) [] := by
  rw [← h]; exact index_at xs v hl
set_option maxHeartbeats 4000000 in
theorem next_fpp {w s : List Int} {n x p q : Nat} {st : Int} (h : Word w n) (hn : n ≤ 10) (hl : s.length = n) (h0 : -((2 * n : Nat) : Int) ≤ st) (h1 : st < (2 * n : Nat)) (hx : x < n) (hpq : p < q) (hq : q < 2 * n)
    (hpl : placesT w x = [(p : Int), (q : Int)]) (hwa : w.getD p 0 = x) (hc : 0 ≤ st) (hat : (st + 1).tmod ((2 * n : Nat) : Int) = p) (hs : s.getD x 0 = 1) : FnAt Try.prog false 66 [curveT n w, .lit (.int .i64 st), .arr (.int .i64) s] (.lit (.int .i64 (-1 - ((q : Int) + (2 * n : Nat) - 1).tmod (2 * n : Nat)))) [] := by
  have hwl : @List.length (Ty.int .i64).T w = 2 * n := h.len
  have hsl : @List.length (Ty.int .i64).T s = n := hl
  have hPl : @List.length (Ty.sl (.int .i64)).T (PT w n) = n := PT_len
  have hPx : (PT w n).getD x [] = [(p : Int), (q : Int)] := (PT_get hx).trans hpl
  have hPs : @List.length (Ty.int .i64).T (@List.getD (Ty.sl (.int .i64)).T (PT w n) x (Ty.sl (.int .i64)).dflt) = 2 := by
    show ((PT w n).getD x []).length = 2
    rw [hPx]; rfl
  have hPs2 : ((PT w n).getD x []).length = 2 := hPs
  have hp2 : ((PT w n).getD x []).getD 0 0 = (p : Int) := by rw [hPx]; rfl
  have hq2 : ((PT w n).getD x []).getD 1 0 = (q : Int) := by rw [hPx]; rfl
  have ht0 := Int.tmod_nonneg (a := (q : Int) + (2 * n : Nat) - 1) (2 * n : Nat) (by omega)
  have ht1 := Int.tmod_lt_of_pos ((q : Int) + (2 * n : Nat) - 1) (b := (2 * n : Nat)) (by omega)
  have har : FnAt Try.prog false 72 [.lit (.int .i64 (s.getD x 0))] (.strct [.lit (.int .i64 0), .lit (.int .i64 2), .lit (.int .i64 1), .lit (.int .i64 3)]) [] := by
    rw [hs]; exact around_p
  refine FnAt.of_body tys_ok Try.func66 (by rfl) rfl Try.ntmps66 (by rw [Try.results66]) (by simp) ?_
  
  repeat' (first
 | refine W.seq ?_
 | refine W.block ?_
 | (refine W.resub (x := Code.region 6 _ _) (Γ' := ⟨[(0, .st false (curveT n w)), (1, .lit (.int .i64 (st))), (2, .st false (.arr (.int .i64) (s : List Int))), (7, .lit (.int .i64 (@List.length (Ty.int .i64).T w))), (8, .lit (.int .i64 (p))), (9, .lit (.bool (true)))], []⟩) ?_ (W.region tys_ok [] ?_); rotate_left; (conv => whnf))
 | (refine W.resub (x := Code.region 7 _ _) (Γ' := ⟨[(0, .st false (curveT n w)), (1, .lit (.int .i64 (st))), (2, .st false (.arr (.int .i64) (s : List Int))), (7, .lit (.int .i64 (@List.length (Ty.int .i64).T w))), (8, .lit (.int .i64 (p))), (9, .lit (.bool (true))), (10, .lit (.int .i64 (x)))], []⟩) ?_ (W.region tys_ok [] ?_); rotate_left; (conv => whnf))
 | (refine W.resub (x := Code.region 13 _ _) (Γ' := ⟨[(0, .st false (curveT n w)), (1, .lit (.int .i64 (st))), (2, .st false (.arr (.int .i64) (s : List Int))), (7, .lit (.int .i64 (@List.length (Ty.int .i64).T w))), (8, .lit (.int .i64 (p))), (9, .lit (.bool (true))), (10, .lit (.int .i64 (x))), (11, .lit (.int .i64 (0))), (12, .st true (.sadr (.agg [.lit (.int .i64 0), .lit (.int .i64 2), .lit (.int .i64 1), .lit (.int .i64 3)])))], []⟩) ?_ (W.region tys_ok [] ?_); rotate_left; (conv => whnf))
 | (refine W.resub (x := Code.region 15 _ _) (Γ' := ⟨[(0, .st false (curveT n w)), (1, .lit (.int .i64 (st))), (2, .st false (.arr (.int .i64) (s : List Int))), (7, .lit (.int .i64 ((2 * n : Nat)))), (8, .lit (.int .i64 (p))), (9, .lit (.bool (true))), (13, .lit (.int .i64 (2))), (14, .lit (.int .i64 (q)))], []⟩) ?_ (W.region tys_ok [] ?_); rotate_left; (conv => whnf))
 | (refine W.region tys_ok [] ?_; conv => whnf)
 | (refine W.drawAll tys_ok [] mixed rfl ?_; conv => whnf)
 | (refine W.ret ?_; conv => whnf)
 | (refine W.skip ?_; conv => whnf)
 | (refine W.exit ?_; conv => whnf)
 | (refine call_at (al := false) (har) rfl rfl rfl rfl ?_; conv => whnf)
 | (refine call_at (al := false) (index_lit [0, 2, 1, 3] 0 0 (by decide) rfl) rfl rfl rfl rfl ?_; conv => whnf)
 | (refine W.cond rfl (fun hb => ?_) (fun hb => ?_) <;> (try simp only [Int.reduceToNat, Int.reduceTDiv, Int.reduceTMod, minL, maxL, pickB, zHB] at hb) <;> (try (first | (cases hb; done) | exact absurd hb (by decide) | (exfalso; omega))))
 | ((with_reducible refine And.intro ?_ ?_); (focus ((repeat' (first | (with_reducible rfl) | (with_reducible refine And.intro ?_ ?_) | omega | rfl | exact Or.inl rfl | exact Or.inr rfl | exact of_decide_eq_true rfl | exact Path.imp_of (of_decide_eq_true rfl) | (focus ((try simp only [Int.reduceToNat, Int.reduceTDiv, Int.reduceTMod, minL, maxL, pickB, zHB, InK, Path.imp, List.length_replicate, List.length_set, List.length_append, List.length_cons, List.length_nil] at *); omega)) | (refine app_le rfl ?_; omega))); done)); (conv => whnf))
 | ((with_reducible refine And.intro (Side.out ?_) ?_); rotate_left; (conv => whnf))
 | ((first | refine retF1 ?_ | refine retF2 ?_) <;> (conv => whnf) <;> repeat' (first
 | exact trivial
 | (with_reducible rfl)
 | ((with_reducible refine And.intro ?_ ?_) <;> conv => whnf)
 | omega
 | rfl
 | (refine congrArg (SV.arr _) ?_)
 | (refine congrArg (Value.int _) ?_)
 | (refine congrArg Value.bool ?_)))); all_goals (try unfold Side)
  all_goals try (repeat' (first | (with_reducible rfl) | (with_reducible refine And.intro ?_ ?_) | omega | rfl | exact Or.inl rfl | exact Or.inr rfl | exact of_decide_eq_true rfl | exact Path.imp_of (of_decide_eq_true rfl) | (focus ((try simp only [Int.reduceToNat, Int.reduceTDiv, Int.reduceTMod, minL, maxL, pickB, zHB, InK, Path.imp, List.length_replicate, List.length_set, List.length_append, List.length_cons, List.length_nil] at *); omega)) | (refine app_le rfl ?_; omega)))
  all_goals first | (refine subF.ok ?_ <;> (conv => whnf) <;> repeat' (first
 | exact trivial
 | (with_reducible rfl)
 | ((with_reducible refine And.intro ?_ ?_) <;> conv => whnf)
 | omega
 | rfl
 | (refine congrArg (SV.arr _) ?_)
 | (refine congrArg (Value.int _) ?_)
 | (refine congrArg Value.bool ?_))) | skip
  all_goals try (repeat' (first | (with_reducible rfl) | (with_reducible refine And.intro ?_ ?_) | omega | rfl | exact Or.inl rfl | exact Or.inr rfl | exact of_decide_eq_true rfl | exact Path.imp_of (of_decide_eq_true rfl) | (focus ((try simp only [Int.reduceToNat, Int.reduceTDiv, Int.reduceTMod, minL, maxL, pickB, zHB, InK, Path.imp, List.length_replicate, List.length_set, List.length_append, List.length_cons, List.length_nil] at *); omega)) | (refine app_le rfl ?_; omega)))
  all_goals (rw [hwl]; exact hat)
set_option maxHeartbeats 4000000 in
theorem next_fpq {w s : List Int} {n x p q : Nat} {st : Int} (h : Word w n) (hn : n ≤ 10) (hl : s.length = n) (h0 : -((2 * n : Nat) : Int) ≤ st) (h1 : st < (2 * n : Nat)) (hx : x < n) (hpq : p < q) (hq : q < 2 * n)
    (hpl : placesT w x = [(p : Int), (q : Int)]) (hwa : w.getD q 0 = x) (hc : 0 ≤ st) (hat : (st + 1).tmod ((2 * n : Nat) : Int) = q) (hs : s.getD x 0 = 1) : FnAt Try.prog false 66 [curveT n w, .lit (.int .i64 st), .arr (.int .i64) s] (.lit (.int .i64 ((p : Int)))) [] := by
  have hwl : @List.length (Ty.int .i64).T w = 2 * n := h.len
  have hsl : @List.length (Ty.int .i64).T s = n := hl
  have hPl : @List.length (Ty.sl (.int .i64)).T (PT w n) = n := PT_len
  have hPx : (PT w n).getD x [] = [(p : Int), (q : Int)] := (PT_get hx).trans hpl
  have hPs : @List.length (Ty.int .i64).T (@List.getD (Ty.sl (.int .i64)).T (PT w n) x (Ty.sl (.int .i64)).dflt) = 2 := by
    show ((PT w n).getD x []).length = 2
    rw [hPx]; rfl
  have hPs2 : ((PT w n).getD x []).length = 2 := hPs
  have hp2 : ((PT w n).getD x []).getD 0 0 = (p : Int) := by rw [hPx]; rfl
  have hq2 : ((PT w n).getD x []).getD 1 0 = (q : Int) := by rw [hPx]; rfl
  have ht0 := Int.tmod_nonneg (a := (p : Int) + (2 * n : Nat) - 1) (2 * n : Nat) (by omega)
  have ht1 := Int.tmod_lt_of_pos ((p : Int) + (2 * n : Nat) - 1) (b := (2 * n : Nat)) (by omega)
  have har : FnAt Try.prog false 72 [.lit (.int .i64 (s.getD x 0))] (.strct [.lit (.int .i64 0), .lit (.int .i64 2), .lit (.int .i64 1), .lit (.int .i64 3)]) [] := by
    rw [hs]; exact around_p
  refine FnAt.of_body tys_ok Try.func66 (by rfl) rfl Try.ntmps66 (by rw [Try.results66]) (by simp) ?_
  
  repeat' (first
 | refine W.seq ?_
 | refine W.block ?_
 | (refine W.resub (x := Code.region 6 _ _) (Γ' := ⟨[(0, .st false (curveT n w)), (1, .lit (.int .i64 (st))), (2, .st false (.arr (.int .i64) (s : List Int))), (7, .lit (.int .i64 (@List.length (Ty.int .i64).T w))), (8, .lit (.int .i64 (q))), (9, .lit (.bool (true)))], []⟩) ?_ (W.region tys_ok [] ?_); rotate_left; (conv => whnf))
 | (refine W.resub (x := Code.region 7 _ _) (Γ' := ⟨[(0, .st false (curveT n w)), (1, .lit (.int .i64 (st))), (2, .st false (.arr (.int .i64) (s : List Int))), (7, .lit (.int .i64 (@List.length (Ty.int .i64).T w))), (8, .lit (.int .i64 (q))), (9, .lit (.bool (true))), (10, .lit (.int .i64 (x)))], []⟩) ?_ (W.region tys_ok [] ?_); rotate_left; (conv => whnf))
 | (refine W.resub (x := Code.region 13 _ _) (Γ' := ⟨[(0, .st false (curveT n w)), (1, .lit (.int .i64 (st))), (2, .st false (.arr (.int .i64) (s : List Int))), (7, .lit (.int .i64 (@List.length (Ty.int .i64).T w))), (8, .lit (.int .i64 (q))), (9, .lit (.bool (true))), (10, .lit (.int .i64 (x))), (11, .lit (.int .i64 (2))), (12, .st true (.sadr (.agg [.lit (.int .i64 0), .lit (.int .i64 2), .lit (.int .i64 1), .lit (.int .i64 3)])))], []⟩) ?_ (W.region tys_ok [] ?_); rotate_left; (conv => whnf))
 | (refine W.resub (x := Code.region 15 _ _) (Γ' := ⟨[(0, .st false (curveT n w)), (1, .lit (.int .i64 (st))), (2, .st false (.arr (.int .i64) (s : List Int))), (7, .lit (.int .i64 ((2 * n : Nat)))), (8, .lit (.int .i64 (q))), (9, .lit (.bool (true))), (13, .lit (.int .i64 (1))), (14, .lit (.int .i64 (p)))], []⟩) ?_ (W.region tys_ok [] ?_); rotate_left; (conv => whnf))
 | (refine W.region tys_ok [] ?_; conv => whnf)
 | (refine W.drawAll tys_ok [] mixed rfl ?_; conv => whnf)
 | (refine W.ret ?_; conv => whnf)
 | (refine W.skip ?_; conv => whnf)
 | (refine W.exit ?_; conv => whnf)
 | (refine call_at (al := false) (har) rfl rfl rfl rfl ?_; conv => whnf)
 | (refine call_at (al := false) (index_lit [0, 2, 1, 3] 2 1 (by decide) rfl) rfl rfl rfl rfl ?_; conv => whnf)
 | (refine W.cond rfl (fun hb => ?_) (fun hb => ?_) <;> (try simp only [Int.reduceToNat, Int.reduceTDiv, Int.reduceTMod, minL, maxL, pickB, zHB] at hb) <;> (try (first | (cases hb; done) | exact absurd hb (by decide) | (exfalso; omega))))
 | ((with_reducible refine And.intro ?_ ?_); (focus ((repeat' (first | (with_reducible rfl) | (with_reducible refine And.intro ?_ ?_) | omega | rfl | exact Or.inl rfl | exact Or.inr rfl | exact of_decide_eq_true rfl | exact Path.imp_of (of_decide_eq_true rfl) | (focus ((try simp only [Int.reduceToNat, Int.reduceTDiv, Int.reduceTMod, minL, maxL, pickB, zHB, InK, Path.imp, List.length_replicate, List.length_set, List.length_append, List.length_cons, List.length_nil] at *); omega)) | (refine app_le rfl ?_; omega))); done)); (conv => whnf))
 | ((with_reducible refine And.intro (Side.out ?_) ?_); rotate_left; (conv => whnf))
 | ((first | refine retF1 ?_ | refine retF2 ?_) <;> (conv => whnf) <;> repeat' (first
 | exact trivial
 | (with_reducible rfl)
 | ((with_reducible refine And.intro ?_ ?_) <;> conv => whnf)
 | omega
 | rfl
 | (refine congrArg (SV.arr _) ?_)
 | (refine congrArg (Value.int _) ?_)
 | (refine congrArg Value.bool ?_)))); all_goals (try unfold Side)
  all_goals try (repeat' (first | (with_reducible rfl) | (with_reducible refine And.intro ?_ ?_) | omega | rfl | exact Or.inl rfl | exact Or.inr rfl | exact of_decide_eq_true rfl | exact Path.imp_of (of_decide_eq_true rfl) | (focus ((try simp only [Int.reduceToNat, Int.reduceTDiv, Int.reduceTMod, minL, maxL, pickB, zHB, InK, Path.imp, List.length_replicate, List.length_set, List.length_append, List.length_cons, List.length_nil] at *); omega)) | (refine app_le rfl ?_; omega)))
  all_goals first | (refine subF.ok ?_ <;> (conv => whnf) <;> repeat' (first
 | exact trivial
 | (with_reducible rfl)
 | ((with_reducible refine And.intro ?_ ?_) <;> conv => whnf)
 | omega
 | rfl
 | (refine congrArg (SV.arr _) ?_)
 | (refine congrArg (Value.int _) ?_)
 | (refine congrArg Value.bool ?_))) | skip
  all_goals try (repeat' (first | (with_reducible rfl) | (with_reducible refine And.intro ?_ ?_) | omega | rfl | exact Or.inl rfl | exact Or.inr rfl | exact of_decide_eq_true rfl | exact Path.imp_of (of_decide_eq_true rfl) | (focus ((try simp only [Int.reduceToNat, Int.reduceTDiv, Int.reduceTMod, minL, maxL, pickB, zHB, InK, Path.imp, List.length_replicate, List.length_set, List.length_append, List.length_cons, List.length_nil] at *); omega)) | (refine app_le rfl ?_; omega)))
  all_goals (rw [hwl]; exact hat)
set_option maxHeartbeats 4000000 in
theorem next_fmp {w s : List Int} {n x p q : Nat} {st : Int} (h : Word w n) (hn : n ≤ 10) (hl : s.length = n) (h0 : -((2 * n : Nat) : Int) ≤ st) (h1 : st < (2 * n : Nat)) (hx : x < n) (hpq : p < q) (hq : q < 2 * n)
    (hpl : placesT w x = [(p : Int), (q : Int)]) (hwa : w.getD p 0 = x) (hc : 0 ≤ st) (hat : (st + 1).tmod ((2 * n : Nat) : Int) = p) (hs : s.getD x 0 = -1) : FnAt Try.prog false 66 [curveT n w, .lit (.int .i64 st), .arr (.int .i64) s] (.lit (.int .i64 ((q : Int)))) [] := by
  have hwl : @List.length (Ty.int .i64).T w = 2 * n := h.len
  have hsl : @List.length (Ty.int .i64).T s = n := hl
  have hPl : @List.length (Ty.sl (.int .i64)).T (PT w n) = n := PT_len
  have hPx : (PT w n).getD x [] = [(p : Int), (q : Int)] := (PT_get hx).trans hpl
  have hPs : @List.length (Ty.int .i64).T (@List.getD (Ty.sl (.int .i64)).T (PT w n) x (Ty.sl (.int .i64)).dflt) = 2 := by
    show ((PT w n).getD x []).length = 2
    rw [hPx]; rfl
  have hPs2 : ((PT w n).getD x []).length = 2 := hPs
  have hp2 : ((PT w n).getD x []).getD 0 0 = (p : Int) := by rw [hPx]; rfl
  have hq2 : ((PT w n).getD x []).getD 1 0 = (q : Int) := by rw [hPx]; rfl
  have ht0 := Int.tmod_nonneg (a := (q : Int) + (2 * n : Nat) - 1) (2 * n : Nat) (by omega)
  have ht1 := Int.tmod_lt_of_pos ((q : Int) + (2 * n : Nat) - 1) (b := (2 * n : Nat)) (by omega)
  have har : FnAt Try.prog false 72 [.lit (.int .i64 (s.getD x 0))] (.strct [.lit (.int .i64 0), .lit (.int .i64 3), .lit (.int .i64 1), .lit (.int .i64 2)]) [] := by
    rw [hs]; exact around_m
  refine FnAt.of_body tys_ok Try.func66 (by rfl) rfl Try.ntmps66 (by rw [Try.results66]) (by simp) ?_
  
  repeat' (first
 | refine W.seq ?_
 | refine W.block ?_
 | (refine W.resub (x := Code.region 6 _ _) (Γ' := ⟨[(0, .st false (curveT n w)), (1, .lit (.int .i64 (st))), (2, .st false (.arr (.int .i64) (s : List Int))), (7, .lit (.int .i64 (@List.length (Ty.int .i64).T w))), (8, .lit (.int .i64 (p))), (9, .lit (.bool (true)))], []⟩) ?_ (W.region tys_ok [] ?_); rotate_left; (conv => whnf))
 | (refine W.resub (x := Code.region 7 _ _) (Γ' := ⟨[(0, .st false (curveT n w)), (1, .lit (.int .i64 (st))), (2, .st false (.arr (.int .i64) (s : List Int))), (7, .lit (.int .i64 (@List.length (Ty.int .i64).T w))), (8, .lit (.int .i64 (p))), (9, .lit (.bool (true))), (10, .lit (.int .i64 (x)))], []⟩) ?_ (W.region tys_ok [] ?_); rotate_left; (conv => whnf))
 | (refine W.resub (x := Code.region 13 _ _) (Γ' := ⟨[(0, .st false (curveT n w)), (1, .lit (.int .i64 (st))), (2, .st false (.arr (.int .i64) (s : List Int))), (7, .lit (.int .i64 (@List.length (Ty.int .i64).T w))), (8, .lit (.int .i64 (p))), (9, .lit (.bool (true))), (10, .lit (.int .i64 (x))), (11, .lit (.int .i64 (0))), (12, .st true (.sadr (.agg [.lit (.int .i64 0), .lit (.int .i64 3), .lit (.int .i64 1), .lit (.int .i64 2)])))], []⟩) ?_ (W.region tys_ok [] ?_); rotate_left; (conv => whnf))
 | (refine W.resub (x := Code.region 15 _ _) (Γ' := ⟨[(0, .st false (curveT n w)), (1, .lit (.int .i64 (st))), (2, .st false (.arr (.int .i64) (s : List Int))), (7, .lit (.int .i64 ((2 * n : Nat)))), (8, .lit (.int .i64 (p))), (9, .lit (.bool (true))), (13, .lit (.int .i64 (3))), (14, .lit (.int .i64 (q)))], []⟩) ?_ (W.region tys_ok [] ?_); rotate_left; (conv => whnf))
 | (refine W.region tys_ok [] ?_; conv => whnf)
 | (refine W.drawAll tys_ok [] mixed rfl ?_; conv => whnf)
 | (refine W.ret ?_; conv => whnf)
 | (refine W.skip ?_; conv => whnf)
 | (refine W.exit ?_; conv => whnf)
 | (refine call_at (al := false) (har) rfl rfl rfl rfl ?_; conv => whnf)
 | (refine call_at (al := false) (index_lit [0, 3, 1, 2] 0 0 (by decide) rfl) rfl rfl rfl rfl ?_; conv => whnf)
 | (refine W.cond rfl (fun hb => ?_) (fun hb => ?_) <;> (try simp only [Int.reduceToNat, Int.reduceTDiv, Int.reduceTMod, minL, maxL, pickB, zHB] at hb) <;> (try (first | (cases hb; done) | exact absurd hb (by decide) | (exfalso; omega))))
 | ((with_reducible refine And.intro ?_ ?_); (focus ((repeat' (first | (with_reducible rfl) | (with_reducible refine And.intro ?_ ?_) | omega | rfl | exact Or.inl rfl | exact Or.inr rfl | exact of_decide_eq_true rfl | exact Path.imp_of (of_decide_eq_true rfl) | (focus ((try simp only [Int.reduceToNat, Int.reduceTDiv, Int.reduceTMod, minL, maxL, pickB, zHB, InK, Path.imp, List.length_replicate, List.length_set, List.length_append, List.length_cons, List.length_nil] at *); omega)) | (refine app_le rfl ?_; omega))); done)); (conv => whnf))
 | ((with_reducible refine And.intro (Side.out ?_) ?_); rotate_left; (conv => whnf))
 | ((first | refine retF1 ?_ | refine retF2 ?_) <;> (conv => whnf) <;> repeat' (first
 | exact trivial
 | (with_reducible rfl)
 | ((with_reducible refine And.intro ?_ ?_) <;> conv => whnf)
 | omega
 | rfl
 | (refine congrArg (SV.arr _) ?_)
 | (refine congrArg (Value.int _) ?_)
 | (refine congrArg Value.bool ?_)))); all_goals (try unfold Side)
  all_goals try (repeat' (first | (with_reducible rfl) | (with_reducible refine And.intro ?_ ?_) | omega | rfl | exact Or.inl rfl | exact Or.inr rfl | exact of_decide_eq_true rfl | exact Path.imp_of (of_decide_eq_true rfl) | (focus ((try simp only [Int.reduceToNat, Int.reduceTDiv, Int.reduceTMod, minL, maxL, pickB, zHB, InK, Path.imp, List.length_replicate, List.length_set, List.length_append, List.length_cons, List.length_nil] at *); omega)) | (refine app_le rfl ?_; omega)))
  all_goals first | (refine subF.ok ?_ <;> (conv => whnf) <;> repeat' (first
 | exact trivial
 | (with_reducible rfl)
 | ((with_reducible refine And.intro ?_ ?_) <;> conv => whnf)
 | omega
 | rfl
 | (refine congrArg (SV.arr _) ?_)
 | (refine congrArg (Value.int _) ?_)
 | (refine congrArg Value.bool ?_))) | skip
  all_goals try (repeat' (first | (with_reducible rfl) | (with_reducible refine And.intro ?_ ?_) | omega | rfl | exact Or.inl rfl | exact Or.inr rfl | exact of_decide_eq_true rfl | exact Path.imp_of (of_decide_eq_true rfl) | (focus ((try simp only [Int.reduceToNat, Int.reduceTDiv, Int.reduceTMod, minL, maxL, pickB, zHB, InK, Path.imp, List.length_replicate, List.length_set, List.length_append, List.length_cons, List.length_nil] at *); omega)) | (refine app_le rfl ?_; omega)))
  all_goals (rw [hwl]; exact hat)
set_option maxHeartbeats 4000000 in
theorem next_fmq {w s : List Int} {n x p q : Nat} {st : Int} (h : Word w n) (hn : n ≤ 10) (hl : s.length = n) (h0 : -((2 * n : Nat) : Int) ≤ st) (h1 : st < (2 * n : Nat)) (hx : x < n) (hpq : p < q) (hq : q < 2 * n)
    (hpl : placesT w x = [(p : Int), (q : Int)]) (hwa : w.getD q 0 = x) (hc : 0 ≤ st) (hat : (st + 1).tmod ((2 * n : Nat) : Int) = q) (hs : s.getD x 0 = -1) : FnAt Try.prog false 66 [curveT n w, .lit (.int .i64 st), .arr (.int .i64) s] (.lit (.int .i64 (-1 - ((p : Int) + (2 * n : Nat) - 1).tmod (2 * n : Nat)))) [] := by
  have hwl : @List.length (Ty.int .i64).T w = 2 * n := h.len
  have hsl : @List.length (Ty.int .i64).T s = n := hl
  have hPl : @List.length (Ty.sl (.int .i64)).T (PT w n) = n := PT_len
  have hPx : (PT w n).getD x [] = [(p : Int), (q : Int)] := (PT_get hx).trans hpl
  have hPs : @List.length (Ty.int .i64).T (@List.getD (Ty.sl (.int .i64)).T (PT w n) x (Ty.sl (.int .i64)).dflt) = 2 := by
    show ((PT w n).getD x []).length = 2
    rw [hPx]; rfl
  have hPs2 : ((PT w n).getD x []).length = 2 := hPs
  have hp2 : ((PT w n).getD x []).getD 0 0 = (p : Int) := by rw [hPx]; rfl
  have hq2 : ((PT w n).getD x []).getD 1 0 = (q : Int) := by rw [hPx]; rfl
  have ht0 := Int.tmod_nonneg (a := (p : Int) + (2 * n : Nat) - 1) (2 * n : Nat) (by omega)
  have ht1 := Int.tmod_lt_of_pos ((p : Int) + (2 * n : Nat) - 1) (b := (2 * n : Nat)) (by omega)
  have har : FnAt Try.prog false 72 [.lit (.int .i64 (s.getD x 0))] (.strct [.lit (.int .i64 0), .lit (.int .i64 3), .lit (.int .i64 1), .lit (.int .i64 2)]) [] := by
    rw [hs]; exact around_m
  refine FnAt.of_body tys_ok Try.func66 (by rfl) rfl Try.ntmps66 (by rw [Try.results66]) (by simp) ?_
  
  repeat' (first
 | refine W.seq ?_
 | refine W.block ?_
 | (refine W.resub (x := Code.region 6 _ _) (Γ' := ⟨[(0, .st false (curveT n w)), (1, .lit (.int .i64 (st))), (2, .st false (.arr (.int .i64) (s : List Int))), (7, .lit (.int .i64 (@List.length (Ty.int .i64).T w))), (8, .lit (.int .i64 (q))), (9, .lit (.bool (true)))], []⟩) ?_ (W.region tys_ok [] ?_); rotate_left; (conv => whnf))
 | (refine W.resub (x := Code.region 7 _ _) (Γ' := ⟨[(0, .st false (curveT n w)), (1, .lit (.int .i64 (st))), (2, .st false (.arr (.int .i64) (s : List Int))), (7, .lit (.int .i64 (@List.length (Ty.int .i64).T w))), (8, .lit (.int .i64 (q))), (9, .lit (.bool (true))), (10, .lit (.int .i64 (x)))], []⟩) ?_ (W.region tys_ok [] ?_); rotate_left; (conv => whnf))
 | (refine W.resub (x := Code.region 13 _ _) (Γ' := ⟨[(0, .st false (curveT n w)), (1, .lit (.int .i64 (st))), (2, .st false (.arr (.int .i64) (s : List Int))), (7, .lit (.int .i64 (@List.length (Ty.int .i64).T w))), (8, .lit (.int .i64 (q))), (9, .lit (.bool (true))), (10, .lit (.int .i64 (x))), (11, .lit (.int .i64 (2))), (12, .st true (.sadr (.agg [.lit (.int .i64 0), .lit (.int .i64 3), .lit (.int .i64 1), .lit (.int .i64 2)])))], []⟩) ?_ (W.region tys_ok [] ?_); rotate_left; (conv => whnf))
 | (refine W.resub (x := Code.region 15 _ _) (Γ' := ⟨[(0, .st false (curveT n w)), (1, .lit (.int .i64 (st))), (2, .st false (.arr (.int .i64) (s : List Int))), (7, .lit (.int .i64 ((2 * n : Nat)))), (8, .lit (.int .i64 (q))), (9, .lit (.bool (true))), (13, .lit (.int .i64 (0))), (14, .lit (.int .i64 (p)))], []⟩) ?_ (W.region tys_ok [] ?_); rotate_left; (conv => whnf))
 | (refine W.region tys_ok [] ?_; conv => whnf)
 | (refine W.drawAll tys_ok [] mixed rfl ?_; conv => whnf)
 | (refine W.ret ?_; conv => whnf)
 | (refine W.skip ?_; conv => whnf)
 | (refine W.exit ?_; conv => whnf)
 | (refine call_at (al := false) (har) rfl rfl rfl rfl ?_; conv => whnf)
 | (refine call_at (al := false) (index_lit [0, 3, 1, 2] 2 3 (by decide) rfl) rfl rfl rfl rfl ?_; conv => whnf)
 | (refine W.cond rfl (fun hb => ?_) (fun hb => ?_) <;> (try simp only [Int.reduceToNat, Int.reduceTDiv, Int.reduceTMod, minL, maxL, pickB, zHB] at hb) <;> (try (first | (cases hb; done) | exact absurd hb (by decide) | (exfalso; omega))))
 | ((with_reducible refine And.intro ?_ ?_); (focus ((repeat' (first | (with_reducible rfl) | (with_reducible refine And.intro ?_ ?_) | omega | rfl | exact Or.inl rfl | exact Or.inr rfl | exact of_decide_eq_true rfl | exact Path.imp_of (of_decide_eq_true rfl) | (focus ((try simp only [Int.reduceToNat, Int.reduceTDiv, Int.reduceTMod, minL, maxL, pickB, zHB, InK, Path.imp, List.length_replicate, List.length_set, List.length_append, List.length_cons, List.length_nil] at *); omega)) | (refine app_le rfl ?_; omega))); done)); (conv => whnf))
 | ((with_reducible refine And.intro (Side.out ?_) ?_); rotate_left; (conv => whnf))
 | ((first | refine retF1 ?_ | refine retF2 ?_) <;> (conv => whnf) <;> repeat' (first
 | exact trivial
 | (with_reducible rfl)
 | ((with_reducible refine And.intro ?_ ?_) <;> conv => whnf)
 | omega
 | rfl
 | (refine congrArg (SV.arr _) ?_)
 | (refine congrArg (Value.int _) ?_)
 | (refine congrArg Value.bool ?_)))); all_goals (try unfold Side)
  all_goals try (repeat' (first | (with_reducible rfl) | (with_reducible refine And.intro ?_ ?_) | omega | rfl | exact Or.inl rfl | exact Or.inr rfl | exact of_decide_eq_true rfl | exact Path.imp_of (of_decide_eq_true rfl) | (focus ((try simp only [Int.reduceToNat, Int.reduceTDiv, Int.reduceTMod, minL, maxL, pickB, zHB, InK, Path.imp, List.length_replicate, List.length_set, List.length_append, List.length_cons, List.length_nil] at *); omega)) | (refine app_le rfl ?_; omega)))
  all_goals first | (refine subF.ok ?_ <;> (conv => whnf) <;> repeat' (first
 | exact trivial
 | (with_reducible rfl)
 | ((with_reducible refine And.intro ?_ ?_) <;> conv => whnf)
 | omega
 | rfl
 | (refine congrArg (SV.arr _) ?_)
 | (refine congrArg (Value.int _) ?_)
 | (refine congrArg Value.bool ?_))) | skip
  all_goals try (repeat' (first | (with_reducible rfl) | (with_reducible refine And.intro ?_ ?_) | omega | rfl | exact Or.inl rfl | exact Or.inr rfl | exact of_decide_eq_true rfl | exact Path.imp_of (of_decide_eq_true rfl) | (focus ((try simp only [Int.reduceToNat, Int.reduceTDiv, Int.reduceTMod, minL, maxL, pickB, zHB, InK, Path.imp, List.length_replicate, List.length_set, List.length_append, List.length_cons, List.length_nil] at *); omega)) | (refine app_le rfl ?_; omega)))
  all_goals (rw [hwl]; exact hat)
set_option maxHeartbeats 4000000 in
theorem next_bpp {w s : List Int} {n x p q : Nat} {st : Int} (h : Word w n) (hn : n ≤ 10) (hl : s.length = n) (h0 : -((2 * n : Nat) : Int) ≤ st) (h1 : st < (2 * n : Nat)) (hx : x < n) (hpq : p < q) (hq : q < 2 * n)
    (hpl : placesT w x = [(p : Int), (q : Int)]) (hwa : w.getD p 0 = x) (hc : st < 0) (hat : -1 - st = (p : Int)) (hs : s.getD x 0 = 1) : FnAt Try.prog false 66 [curveT n w, .lit (.int .i64 st), .arr (.int .i64) s] (.lit (.int .i64 ((q : Int)))) [] := by
  have hwl : @List.length (Ty.int .i64).T w = 2 * n := h.len
  have hsl : @List.length (Ty.int .i64).T s = n := hl
  have hPl : @List.length (Ty.sl (.int .i64)).T (PT w n) = n := PT_len
  have hPx : (PT w n).getD x [] = [(p : Int), (q : Int)] := (PT_get hx).trans hpl
  have hPs : @List.length (Ty.int .i64).T (@List.getD (Ty.sl (.int .i64)).T (PT w n) x (Ty.sl (.int .i64)).dflt) = 2 := by
    show ((PT w n).getD x []).length = 2
    rw [hPx]; rfl
  have hPs2 : ((PT w n).getD x []).length = 2 := hPs
  have hp2 : ((PT w n).getD x []).getD 0 0 = (p : Int) := by rw [hPx]; rfl
  have hq2 : ((PT w n).getD x []).getD 1 0 = (q : Int) := by rw [hPx]; rfl
  have ht0 := Int.tmod_nonneg (a := (q : Int) + (2 * n : Nat) - 1) (2 * n : Nat) (by omega)
  have ht1 := Int.tmod_lt_of_pos ((q : Int) + (2 * n : Nat) - 1) (b := (2 * n : Nat)) (by omega)
  have har : FnAt Try.prog false 72 [.lit (.int .i64 (s.getD x 0))] (.strct [.lit (.int .i64 0), .lit (.int .i64 2), .lit (.int .i64 1), .lit (.int .i64 3)]) [] := by
    rw [hs]; exact around_p
  refine FnAt.of_body tys_ok Try.func66 (by rfl) rfl Try.ntmps66 (by rw [Try.results66]) (by simp) ?_
  
  repeat' (first
 | refine W.seq ?_
 | refine W.block ?_
 | (refine W.resub (x := Code.region 6 _ _) (Γ' := ⟨[(0, .st false (curveT n w)), (1, .lit (.int .i64 (st))), (2, .st false (.arr (.int .i64) (s : List Int))), (7, .lit (.int .i64 (@List.length (Ty.int .i64).T w))), (8, .lit (.int .i64 (p))), (9, .lit (.bool (false)))], []⟩) ?_ (W.region tys_ok [] ?_); rotate_left; (conv => whnf))
 | (refine W.resub (x := Code.region 7 _ _) (Γ' := ⟨[(0, .st false (curveT n w)), (1, .lit (.int .i64 (st))), (2, .st false (.arr (.int .i64) (s : List Int))), (7, .lit (.int .i64 (@List.length (Ty.int .i64).T w))), (8, .lit (.int .i64 (p))), (9, .lit (.bool (false))), (10, .lit (.int .i64 (x)))], []⟩) ?_ (W.region tys_ok [] ?_); rotate_left; (conv => whnf))
 | (refine W.resub (x := Code.region 13 _ _) (Γ' := ⟨[(0, .st false (curveT n w)), (1, .lit (.int .i64 (st))), (2, .st false (.arr (.int .i64) (s : List Int))), (7, .lit (.int .i64 (@List.length (Ty.int .i64).T w))), (8, .lit (.int .i64 (p))), (9, .lit (.bool (false))), (10, .lit (.int .i64 (x))), (11, .lit (.int .i64 (1))), (12, .st true (.sadr (.agg [.lit (.int .i64 0), .lit (.int .i64 2), .lit (.int .i64 1), .lit (.int .i64 3)])))], []⟩) ?_ (W.region tys_ok [] ?_); rotate_left; (conv => whnf))
 | (refine W.resub (x := Code.region 15 _ _) (Γ' := ⟨[(0, .st false (curveT n w)), (1, .lit (.int .i64 (st))), (2, .st false (.arr (.int .i64) (s : List Int))), (7, .lit (.int .i64 ((2 * n : Nat)))), (8, .lit (.int .i64 (p))), (9, .lit (.bool (false))), (13, .lit (.int .i64 (3))), (14, .lit (.int .i64 (q)))], []⟩) ?_ (W.region tys_ok [] ?_); rotate_left; (conv => whnf))
 | (refine W.region tys_ok [] ?_; conv => whnf)
 | (refine W.drawAll tys_ok [] mixed rfl ?_; conv => whnf)
 | (refine W.ret ?_; conv => whnf)
 | (refine W.skip ?_; conv => whnf)
 | (refine W.exit ?_; conv => whnf)
 | (refine call_at (al := false) (har) rfl rfl rfl rfl ?_; conv => whnf)
 | (refine call_at (al := false) (index_lit [0, 2, 1, 3] 1 2 (by decide) rfl) rfl rfl rfl rfl ?_; conv => whnf)
 | (refine W.cond rfl (fun hb => ?_) (fun hb => ?_) <;> (try simp only [Int.reduceToNat, Int.reduceTDiv, Int.reduceTMod, minL, maxL, pickB, zHB] at hb) <;> (try (first | (cases hb; done) | exact absurd hb (by decide) | (exfalso; omega))))
 | ((with_reducible refine And.intro ?_ ?_); (focus ((repeat' (first | (with_reducible rfl) | (with_reducible refine And.intro ?_ ?_) | omega | rfl | exact Or.inl rfl | exact Or.inr rfl | exact of_decide_eq_true rfl | exact Path.imp_of (of_decide_eq_true rfl) | (focus ((try simp only [Int.reduceToNat, Int.reduceTDiv, Int.reduceTMod, minL, maxL, pickB, zHB, InK, Path.imp, List.length_replicate, List.length_set, List.length_append, List.length_cons, List.length_nil] at *); omega)) | (refine app_le rfl ?_; omega))); done)); (conv => whnf))
 | ((with_reducible refine And.intro (Side.out ?_) ?_); rotate_left; (conv => whnf))
 | ((first | refine retF1 ?_ | refine retF2 ?_) <;> (conv => whnf) <;> repeat' (first
 | exact trivial
 | (with_reducible rfl)
 | ((with_reducible refine And.intro ?_ ?_) <;> conv => whnf)
 | omega
 | rfl
 | (refine congrArg (SV.arr _) ?_)
 | (refine congrArg (Value.int _) ?_)
 | (refine congrArg Value.bool ?_)))); all_goals (try unfold Side)
  all_goals try (repeat' (first | (with_reducible rfl) | (with_reducible refine And.intro ?_ ?_) | omega | rfl | exact Or.inl rfl | exact Or.inr rfl | exact of_decide_eq_true rfl | exact Path.imp_of (of_decide_eq_true rfl) | (focus ((try simp only [Int.reduceToNat, Int.reduceTDiv, Int.reduceTMod, minL, maxL, pickB, zHB, InK, Path.imp, List.length_replicate, List.length_set, List.length_append, List.length_cons, List.length_nil] at *); omega)) | (refine app_le rfl ?_; omega)))
  all_goals first | (refine subF.ok ?_ <;> (conv => whnf) <;> repeat' (first
 | exact trivial
 | (with_reducible rfl)
 | ((with_reducible refine And.intro ?_ ?_) <;> conv => whnf)
 | omega
 | rfl
 | (refine congrArg (SV.arr _) ?_)
 | (refine congrArg (Value.int _) ?_)
 | (refine congrArg Value.bool ?_))) | skip
  all_goals try (repeat' (first | (with_reducible rfl) | (with_reducible refine And.intro ?_ ?_) | omega | rfl | exact Or.inl rfl | exact Or.inr rfl | exact of_decide_eq_true rfl | exact Path.imp_of (of_decide_eq_true rfl) | (focus ((try simp only [Int.reduceToNat, Int.reduceTDiv, Int.reduceTMod, minL, maxL, pickB, zHB, InK, Path.imp, List.length_replicate, List.length_set, List.length_append, List.length_cons, List.length_nil] at *); omega)) | (refine app_le rfl ?_; omega)))
set_option maxHeartbeats 4000000 in
theorem next_bpq {w s : List Int} {n x p q : Nat} {st : Int} (h : Word w n) (hn : n ≤ 10) (hl : s.length = n) (h0 : -((2 * n : Nat) : Int) ≤ st) (h1 : st < (2 * n : Nat)) (hx : x < n) (hpq : p < q) (hq : q < 2 * n)
    (hpl : placesT w x = [(p : Int), (q : Int)]) (hwa : w.getD q 0 = x) (hc : st < 0) (hat : -1 - st = (q : Int)) (hs : s.getD x 0 = 1) : FnAt Try.prog false 66 [curveT n w, .lit (.int .i64 st), .arr (.int .i64) s] (.lit (.int .i64 (-1 - ((p : Int) + (2 * n : Nat) - 1).tmod (2 * n : Nat)))) [] := by
  have hwl : @List.length (Ty.int .i64).T w = 2 * n := h.len
  have hsl : @List.length (Ty.int .i64).T s = n := hl
  have hPl : @List.length (Ty.sl (.int .i64)).T (PT w n) = n := PT_len
  have hPx : (PT w n).getD x [] = [(p : Int), (q : Int)] := (PT_get hx).trans hpl
  have hPs : @List.length (Ty.int .i64).T (@List.getD (Ty.sl (.int .i64)).T (PT w n) x (Ty.sl (.int .i64)).dflt) = 2 := by
    show ((PT w n).getD x []).length = 2
    rw [hPx]; rfl
  have hPs2 : ((PT w n).getD x []).length = 2 := hPs
  have hp2 : ((PT w n).getD x []).getD 0 0 = (p : Int) := by rw [hPx]; rfl
  have hq2 : ((PT w n).getD x []).getD 1 0 = (q : Int) := by rw [hPx]; rfl
  have ht0 := Int.tmod_nonneg (a := (p : Int) + (2 * n : Nat) - 1) (2 * n : Nat) (by omega)
  have ht1 := Int.tmod_lt_of_pos ((p : Int) + (2 * n : Nat) - 1) (b := (2 * n : Nat)) (by omega)
  have har : FnAt Try.prog false 72 [.lit (.int .i64 (s.getD x 0))] (.strct [.lit (.int .i64 0), .lit (.int .i64 2), .lit (.int .i64 1), .lit (.int .i64 3)]) [] := by
    rw [hs]; exact around_p
  refine FnAt.of_body tys_ok Try.func66 (by rfl) rfl Try.ntmps66 (by rw [Try.results66]) (by simp) ?_
  
  repeat' (first
 | refine W.seq ?_
 | refine W.block ?_
 | (refine W.resub (x := Code.region 6 _ _) (Γ' := ⟨[(0, .st false (curveT n w)), (1, .lit (.int .i64 (st))), (2, .st false (.arr (.int .i64) (s : List Int))), (7, .lit (.int .i64 (@List.length (Ty.int .i64).T w))), (8, .lit (.int .i64 (q))), (9, .lit (.bool (false)))], []⟩) ?_ (W.region tys_ok [] ?_); rotate_left; (conv => whnf))
 | (refine W.resub (x := Code.region 7 _ _) (Γ' := ⟨[(0, .st false (curveT n w)), (1, .lit (.int .i64 (st))), (2, .st false (.arr (.int .i64) (s : List Int))), (7, .lit (.int .i64 (@List.length (Ty.int .i64).T w))), (8, .lit (.int .i64 (q))), (9, .lit (.bool (false))), (10, .lit (.int .i64 (x)))], []⟩) ?_ (W.region tys_ok [] ?_); rotate_left; (conv => whnf))
 | (refine W.resub (x := Code.region 13 _ _) (Γ' := ⟨[(0, .st false (curveT n w)), (1, .lit (.int .i64 (st))), (2, .st false (.arr (.int .i64) (s : List Int))), (7, .lit (.int .i64 (@List.length (Ty.int .i64).T w))), (8, .lit (.int .i64 (q))), (9, .lit (.bool (false))), (10, .lit (.int .i64 (x))), (11, .lit (.int .i64 (3))), (12, .st true (.sadr (.agg [.lit (.int .i64 0), .lit (.int .i64 2), .lit (.int .i64 1), .lit (.int .i64 3)])))], []⟩) ?_ (W.region tys_ok [] ?_); rotate_left; (conv => whnf))
 | (refine W.resub (x := Code.region 15 _ _) (Γ' := ⟨[(0, .st false (curveT n w)), (1, .lit (.int .i64 (st))), (2, .st false (.arr (.int .i64) (s : List Int))), (7, .lit (.int .i64 ((2 * n : Nat)))), (8, .lit (.int .i64 (q))), (9, .lit (.bool (false))), (13, .lit (.int .i64 (0))), (14, .lit (.int .i64 (p)))], []⟩) ?_ (W.region tys_ok [] ?_); rotate_left; (conv => whnf))
 | (refine W.region tys_ok [] ?_; conv => whnf)
 | (refine W.drawAll tys_ok [] mixed rfl ?_; conv => whnf)
 | (refine W.ret ?_; conv => whnf)
 | (refine W.skip ?_; conv => whnf)
 | (refine W.exit ?_; conv => whnf)
 | (refine call_at (al := false) (har) rfl rfl rfl rfl ?_; conv => whnf)
 | (refine call_at (al := false) (index_lit [0, 2, 1, 3] 3 3 (by decide) rfl) rfl rfl rfl rfl ?_; conv => whnf)
 | (refine W.cond rfl (fun hb => ?_) (fun hb => ?_) <;> (try simp only [Int.reduceToNat, Int.reduceTDiv, Int.reduceTMod, minL, maxL, pickB, zHB] at hb) <;> (try (first | (cases hb; done) | exact absurd hb (by decide) | (exfalso; omega))))
 | ((with_reducible refine And.intro ?_ ?_); (focus ((repeat' (first | (with_reducible rfl) | (with_reducible refine And.intro ?_ ?_) | omega | rfl | exact Or.inl rfl | exact Or.inr rfl | exact of_decide_eq_true rfl | exact Path.imp_of (of_decide_eq_true rfl) | (focus ((try simp only [Int.reduceToNat, Int.reduceTDiv, Int.reduceTMod, minL, maxL, pickB, zHB, InK, Path.imp, List.length_replicate, List.length_set, List.length_append, List.length_cons, List.length_nil] at *); omega)) | (refine app_le rfl ?_; omega))); done)); (conv => whnf))
 | ((with_reducible refine And.intro (Side.out ?_) ?_); rotate_left; (conv => whnf))
 | ((first | refine retF1 ?_ | refine retF2 ?_) <;> (conv => whnf) <;> repeat' (first
 | exact trivial
 | (with_reducible rfl)
 | ((with_reducible refine And.intro ?_ ?_) <;> conv => whnf)
 | omega
 | rfl
 | (refine congrArg (SV.arr _) ?_)
 | (refine congrArg (Value.int _) ?_)
 | (refine congrArg Value.bool ?_)))); all_goals (try unfold Side)
  all_goals try (repeat' (first | (with_reducible rfl) | (with_reducible refine And.intro ?_ ?_) | omega | rfl | exact Or.inl rfl | exact Or.inr rfl | exact of_decide_eq_true rfl | exact Path.imp_of (of_decide_eq_true rfl) | (focus ((try simp only [Int.reduceToNat, Int.reduceTDiv, Int.reduceTMod, minL, maxL, pickB, zHB, InK, Path.imp, List.length_replicate, List.length_set, List.length_append, List.length_cons, List.length_nil] at *); omega)) | (refine app_le rfl ?_; omega)))
  all_goals first | (refine subF.ok ?_ <;> (conv => whnf) <;> repeat' (first
 | exact trivial
 | (with_reducible rfl)
 | ((with_reducible refine And.intro ?_ ?_) <;> conv => whnf)
 | omega
 | rfl
 | (refine congrArg (SV.arr _) ?_)
 | (refine congrArg (Value.int _) ?_)
 | (refine congrArg Value.bool ?_))) | skip
  all_goals try (repeat' (first | (with_reducible rfl) | (with_reducible refine And.intro ?_ ?_) | omega | rfl | exact Or.inl rfl | exact Or.inr rfl | exact of_decide_eq_true rfl | exact Path.imp_of (of_decide_eq_true rfl) | (focus ((try simp only [Int.reduceToNat, Int.reduceTDiv, Int.reduceTMod, minL, maxL, pickB, zHB, InK, Path.imp, List.length_replicate, List.length_set, List.length_append, List.length_cons, List.length_nil] at *); omega)) | (refine app_le rfl ?_; omega)))
set_option maxHeartbeats 4000000 in
theorem next_bmp {w s : List Int} {n x p q : Nat} {st : Int} (h : Word w n) (hn : n ≤ 10) (hl : s.length = n) (h0 : -((2 * n : Nat) : Int) ≤ st) (h1 : st < (2 * n : Nat)) (hx : x < n) (hpq : p < q) (hq : q < 2 * n)
    (hpl : placesT w x = [(p : Int), (q : Int)]) (hwa : w.getD p 0 = x) (hc : st < 0) (hat : -1 - st = (p : Int)) (hs : s.getD x 0 = -1) : FnAt Try.prog false 66 [curveT n w, .lit (.int .i64 st), .arr (.int .i64) s] (.lit (.int .i64 (-1 - ((q : Int) + (2 * n : Nat) - 1).tmod (2 * n : Nat)))) [] := by
  have hwl : @List.length (Ty.int .i64).T w = 2 * n := h.len
  have hsl : @List.length (Ty.int .i64).T s = n := hl
  have hPl : @List.length (Ty.sl (.int .i64)).T (PT w n) = n := PT_len
  have hPx : (PT w n).getD x [] = [(p : Int), (q : Int)] := (PT_get hx).trans hpl
  have hPs : @List.length (Ty.int .i64).T (@List.getD (Ty.sl (.int .i64)).T (PT w n) x (Ty.sl (.int .i64)).dflt) = 2 := by
    show ((PT w n).getD x []).length = 2
    rw [hPx]; rfl
  have hPs2 : ((PT w n).getD x []).length = 2 := hPs
  have hp2 : ((PT w n).getD x []).getD 0 0 = (p : Int) := by rw [hPx]; rfl
  have hq2 : ((PT w n).getD x []).getD 1 0 = (q : Int) := by rw [hPx]; rfl
  have ht0 := Int.tmod_nonneg (a := (q : Int) + (2 * n : Nat) - 1) (2 * n : Nat) (by omega)
  have ht1 := Int.tmod_lt_of_pos ((q : Int) + (2 * n : Nat) - 1) (b := (2 * n : Nat)) (by omega)
  have har : FnAt Try.prog false 72 [.lit (.int .i64 (s.getD x 0))] (.strct [.lit (.int .i64 0), .lit (.int .i64 3), .lit (.int .i64 1), .lit (.int .i64 2)]) [] := by
    rw [hs]; exact around_m
  refine FnAt.of_body tys_ok Try.func66 (by rfl) rfl Try.ntmps66 (by rw [Try.results66]) (by simp) ?_
  
  repeat' (first
 | refine W.seq ?_
 | refine W.block ?_
 | (refine W.resub (x := Code.region 6 _ _) (Γ' := ⟨[(0, .st false (curveT n w)), (1, .lit (.int .i64 (st))), (2, .st false (.arr (.int .i64) (s : List Int))), (7, .lit (.int .i64 (@List.length (Ty.int .i64).T w))), (8, .lit (.int .i64 (p))), (9, .lit (.bool (false)))], []⟩) ?_ (W.region tys_ok [] ?_); rotate_left; (conv => whnf))
 | (refine W.resub (x := Code.region 7 _ _) (Γ' := ⟨[(0, .st false (curveT n w)), (1, .lit (.int .i64 (st))), (2, .st false (.arr (.int .i64) (s : List Int))), (7, .lit (.int .i64 (@List.length (Ty.int .i64).T w))), (8, .lit (.int .i64 (p))), (9, .lit (.bool (false))), (10, .lit (.int .i64 (x)))], []⟩) ?_ (W.region tys_ok [] ?_); rotate_left; (conv => whnf))
 | (refine W.resub (x := Code.region 13 _ _) (Γ' := ⟨[(0, .st false (curveT n w)), (1, .lit (.int .i64 (st))), (2, .st false (.arr (.int .i64) (s : List Int))), (7, .lit (.int .i64 (@List.length (Ty.int .i64).T w))), (8, .lit (.int .i64 (p))), (9, .lit (.bool (false))), (10, .lit (.int .i64 (x))), (11, .lit (.int .i64 (1))), (12, .st true (.sadr (.agg [.lit (.int .i64 0), .lit (.int .i64 3), .lit (.int .i64 1), .lit (.int .i64 2)])))], []⟩) ?_ (W.region tys_ok [] ?_); rotate_left; (conv => whnf))
 | (refine W.resub (x := Code.region 15 _ _) (Γ' := ⟨[(0, .st false (curveT n w)), (1, .lit (.int .i64 (st))), (2, .st false (.arr (.int .i64) (s : List Int))), (7, .lit (.int .i64 ((2 * n : Nat)))), (8, .lit (.int .i64 (p))), (9, .lit (.bool (false))), (13, .lit (.int .i64 (2))), (14, .lit (.int .i64 (q)))], []⟩) ?_ (W.region tys_ok [] ?_); rotate_left; (conv => whnf))
 | (refine W.region tys_ok [] ?_; conv => whnf)
 | (refine W.drawAll tys_ok [] mixed rfl ?_; conv => whnf)
 | (refine W.ret ?_; conv => whnf)
 | (refine W.skip ?_; conv => whnf)
 | (refine W.exit ?_; conv => whnf)
 | (refine call_at (al := false) (har) rfl rfl rfl rfl ?_; conv => whnf)
 | (refine call_at (al := false) (index_lit [0, 3, 1, 2] 1 2 (by decide) rfl) rfl rfl rfl rfl ?_; conv => whnf)
 | (refine W.cond rfl (fun hb => ?_) (fun hb => ?_) <;> (try simp only [Int.reduceToNat, Int.reduceTDiv, Int.reduceTMod, minL, maxL, pickB, zHB] at hb) <;> (try (first | (cases hb; done) | exact absurd hb (by decide) | (exfalso; omega))))
 | ((with_reducible refine And.intro ?_ ?_); (focus ((repeat' (first | (with_reducible rfl) | (with_reducible refine And.intro ?_ ?_) | omega | rfl | exact Or.inl rfl | exact Or.inr rfl | exact of_decide_eq_true rfl | exact Path.imp_of (of_decide_eq_true rfl) | (focus ((try simp only [Int.reduceToNat, Int.reduceTDiv, Int.reduceTMod, minL, maxL, pickB, zHB, InK, Path.imp, List.length_replicate, List.length_set, List.length_append, List.length_cons, List.length_nil] at *); omega)) | (refine app_le rfl ?_; omega))); done)); (conv => whnf))
 | ((with_reducible refine And.intro (Side.out ?_) ?_); rotate_left; (conv => whnf))
 | ((first | refine retF1 ?_ | refine retF2 ?_) <;> (conv => whnf) <;> repeat' (first
 | exact trivial
 | (with_reducible rfl)
 | ((with_reducible refine And.intro ?_ ?_) <;> conv => whnf)
 | omega
 | rfl
 | (refine congrArg (SV.arr _) ?_)
 | (refine congrArg (Value.int _) ?_)
 | (refine congrArg Value.bool ?_)))); all_goals (try unfold Side)
  all_goals try (repeat' (first | (with_reducible rfl) | (with_reducible refine And.intro ?_ ?_) | omega | rfl | exact Or.inl rfl | exact Or.inr rfl | exact of_decide_eq_true rfl | exact Path.imp_of (of_decide_eq_true rfl) | (focus ((try simp only [Int.reduceToNat, Int.reduceTDiv, Int.reduceTMod, minL, maxL, pickB, zHB, InK, Path.imp, List.length_replicate, List.length_set, List.length_append, List.length_cons, List.length_nil] at *); omega)) | (refine app_le rfl ?_; omega)))
  all_goals first | (refine subF.ok ?_ <;> (conv => whnf) <;> repeat' (first
 | exact trivial
 | (with_reducible rfl)
 | ((with_reducible refine And.intro ?_ ?_) <;> conv => whnf)
 | omega
 | rfl
 | (refine congrArg (SV.arr _) ?_)
 | (refine congrArg (Value.int _) ?_)
 | (refine congrArg Value.bool ?_))) | skip
  all_goals try (repeat' (first | (with_reducible rfl) | (with_reducible refine And.intro ?_ ?_) | omega | rfl | exact Or.inl rfl | exact Or.inr rfl | exact of_decide_eq_true rfl | exact Path.imp_of (of_decide_eq_true rfl) | (focus ((try simp only [Int.reduceToNat, Int.reduceTDiv, Int.reduceTMod, minL, maxL, pickB, zHB, InK, Path.imp, List.length_replicate, List.length_set, List.length_append, List.length_cons, List.length_nil] at *); omega)) | (refine app_le rfl ?_; omega)))
set_option maxHeartbeats 4000000 in
theorem next_bmq {w s : List Int} {n x p q : Nat} {st : Int} (h : Word w n) (hn : n ≤ 10) (hl : s.length = n) (h0 : -((2 * n : Nat) : Int) ≤ st) (h1 : st < (2 * n : Nat)) (hx : x < n) (hpq : p < q) (hq : q < 2 * n)
    (hpl : placesT w x = [(p : Int), (q : Int)]) (hwa : w.getD q 0 = x) (hc : st < 0) (hat : -1 - st = (q : Int)) (hs : s.getD x 0 = -1) : FnAt Try.prog false 66 [curveT n w, .lit (.int .i64 st), .arr (.int .i64) s] (.lit (.int .i64 ((p : Int)))) [] := by
  have hwl : @List.length (Ty.int .i64).T w = 2 * n := h.len
  have hsl : @List.length (Ty.int .i64).T s = n := hl
  have hPl : @List.length (Ty.sl (.int .i64)).T (PT w n) = n := PT_len
  have hPx : (PT w n).getD x [] = [(p : Int), (q : Int)] := (PT_get hx).trans hpl
  have hPs : @List.length (Ty.int .i64).T (@List.getD (Ty.sl (.int .i64)).T (PT w n) x (Ty.sl (.int .i64)).dflt) = 2 := by
    show ((PT w n).getD x []).length = 2
    rw [hPx]; rfl
  have hPs2 : ((PT w n).getD x []).length = 2 := hPs
  have hp2 : ((PT w n).getD x []).getD 0 0 = (p : Int) := by rw [hPx]; rfl
  have hq2 : ((PT w n).getD x []).getD 1 0 = (q : Int) := by rw [hPx]; rfl
  have ht0 := Int.tmod_nonneg (a := (p : Int) + (2 * n : Nat) - 1) (2 * n : Nat) (by omega)
  have ht1 := Int.tmod_lt_of_pos ((p : Int) + (2 * n : Nat) - 1) (b := (2 * n : Nat)) (by omega)
  have har : FnAt Try.prog false 72 [.lit (.int .i64 (s.getD x 0))] (.strct [.lit (.int .i64 0), .lit (.int .i64 3), .lit (.int .i64 1), .lit (.int .i64 2)]) [] := by
    rw [hs]; exact around_m
  refine FnAt.of_body tys_ok Try.func66 (by rfl) rfl Try.ntmps66 (by rw [Try.results66]) (by simp) ?_
  
  repeat' (first
 | refine W.seq ?_
 | refine W.block ?_
 | (refine W.resub (x := Code.region 6 _ _) (Γ' := ⟨[(0, .st false (curveT n w)), (1, .lit (.int .i64 (st))), (2, .st false (.arr (.int .i64) (s : List Int))), (7, .lit (.int .i64 (@List.length (Ty.int .i64).T w))), (8, .lit (.int .i64 (q))), (9, .lit (.bool (false)))], []⟩) ?_ (W.region tys_ok [] ?_); rotate_left; (conv => whnf))
 | (refine W.resub (x := Code.region 7 _ _) (Γ' := ⟨[(0, .st false (curveT n w)), (1, .lit (.int .i64 (st))), (2, .st false (.arr (.int .i64) (s : List Int))), (7, .lit (.int .i64 (@List.length (Ty.int .i64).T w))), (8, .lit (.int .i64 (q))), (9, .lit (.bool (false))), (10, .lit (.int .i64 (x)))], []⟩) ?_ (W.region tys_ok [] ?_); rotate_left; (conv => whnf))
 | (refine W.resub (x := Code.region 13 _ _) (Γ' := ⟨[(0, .st false (curveT n w)), (1, .lit (.int .i64 (st))), (2, .st false (.arr (.int .i64) (s : List Int))), (7, .lit (.int .i64 (@List.length (Ty.int .i64).T w))), (8, .lit (.int .i64 (q))), (9, .lit (.bool (false))), (10, .lit (.int .i64 (x))), (11, .lit (.int .i64 (3))), (12, .st true (.sadr (.agg [.lit (.int .i64 0), .lit (.int .i64 3), .lit (.int .i64 1), .lit (.int .i64 2)])))], []⟩) ?_ (W.region tys_ok [] ?_); rotate_left; (conv => whnf))
 | (refine W.resub (x := Code.region 15 _ _) (Γ' := ⟨[(0, .st false (curveT n w)), (1, .lit (.int .i64 (st))), (2, .st false (.arr (.int .i64) (s : List Int))), (7, .lit (.int .i64 ((2 * n : Nat)))), (8, .lit (.int .i64 (q))), (9, .lit (.bool (false))), (13, .lit (.int .i64 (1))), (14, .lit (.int .i64 (p)))], []⟩) ?_ (W.region tys_ok [] ?_); rotate_left; (conv => whnf))
 | (refine W.region tys_ok [] ?_; conv => whnf)
 | (refine W.drawAll tys_ok [] mixed rfl ?_; conv => whnf)
 | (refine W.ret ?_; conv => whnf)
 | (refine W.skip ?_; conv => whnf)
 | (refine W.exit ?_; conv => whnf)
 | (refine call_at (al := false) (har) rfl rfl rfl rfl ?_; conv => whnf)
 | (refine call_at (al := false) (index_lit [0, 3, 1, 2] 3 1 (by decide) rfl) rfl rfl rfl rfl ?_; conv => whnf)
 | (refine W.cond rfl (fun hb => ?_) (fun hb => ?_) <;> (try simp only [Int.reduceToNat, Int.reduceTDiv, Int.reduceTMod, minL, maxL, pickB, zHB] at hb) <;> (try (first | (cases hb; done) | exact absurd hb (by decide) | (exfalso; omega))))
 | ((with_reducible refine And.intro ?_ ?_); (focus ((repeat' (first | (with_reducible rfl) | (with_reducible refine And.intro ?_ ?_) | omega | rfl | exact Or.inl rfl | exact Or.inr rfl | exact of_decide_eq_true rfl | exact Path.imp_of (of_decide_eq_true rfl) | (focus ((try simp only [Int.reduceToNat, Int.reduceTDiv, Int.reduceTMod, minL, maxL, pickB, zHB, InK, Path.imp, List.length_replicate, List.length_set, List.length_append, List.length_cons, List.length_nil] at *); omega)) | (refine app_le rfl ?_; omega))); done)); (conv => whnf))
 | ((with_reducible refine And.intro (Side.out ?_) ?_); rotate_left; (conv => whnf))
 | ((first | refine retF1 ?_ | refine retF2 ?_) <;> (conv => whnf) <;> repeat' (first
 | exact trivial
 | (with_reducible rfl)
 | ((with_reducible refine And.intro ?_ ?_) <;> conv => whnf)
 | omega
 | rfl
 | (refine congrArg (SV.arr _) ?_)
 | (refine congrArg (Value.int _) ?_)
 | (refine congrArg Value.bool ?_)))); all_goals (try unfold Side)
  all_goals try (repeat' (first | (with_reducible rfl) | (with_reducible refine And.intro ?_ ?_) | omega | rfl | exact Or.inl rfl | exact Or.inr rfl | exact of_decide_eq_true rfl | exact Path.imp_of (of_decide_eq_true rfl) | (focus ((try simp only [Int.reduceToNat, Int.reduceTDiv, Int.reduceTMod, minL, maxL, pickB, zHB, InK, Path.imp, List.length_replicate, List.length_set, List.length_append, List.length_cons, List.length_nil] at *); omega)) | (refine app_le rfl ?_; omega)))
  all_goals first | (refine subF.ok ?_ <;> (conv => whnf) <;> repeat' (first
 | exact trivial
 | (with_reducible rfl)
 | ((with_reducible refine And.intro ?_ ?_) <;> conv => whnf)
 | omega
 | rfl
 | (refine congrArg (SV.arr _) ?_)
 | (refine congrArg (Value.int _) ?_)
 | (refine congrArg Value.bool ?_))) | skip
  all_goals try (repeat' (first | (with_reducible rfl) | (with_reducible refine And.intro ?_ ?_) | omega | rfl | exact Or.inl rfl | exact Or.inr rfl | exact of_decide_eq_true rfl | exact Path.imp_of (of_decide_eq_true rfl) | (focus ((try simp only [Int.reduceToNat, Int.reduceTDiv, Int.reduceTMod, minL, maxL, pickB, zHB, InK, Path.imp, List.length_replicate, List.length_set, List.length_append, List.length_cons, List.length_nil] at *); omega)) | (refine app_le rfl ?_; omega)))
end Go.Proofs.Ytdfajcfkdfjoeaa
namespace Go.Proofs.Ytdfajcfkdfjoeaa
open Go Go.Vc Go.Scr
set_option linter.unusedVariables false
set_option linter.unusedSimpArgs false
theorem next_at {w s : List Int} {n : Nat} (h : Word w n) (hn : n ≤ 10) (hs : signsB s n = true) {st : Int} (h0 : -((2 * n : Nat) : Int) ≤ st) (h1 : st < (2 * n : Nat)) : FnAt Try.prog false 66 [curveT n w, .lit (.int .i64 st), .arr (.int .i64) s] (.lit (.int .i64 (nextT w s st))) [] := by
  simp only [signsB, Bool.and_eq_true, decide_eq_true_eq] at hs
  obtain ⟨a, x, p, q, ha, hat, hx, hwa, hpq, hq, hpl, hpp, hsg, hnx⟩ := at_of h hs.1 hs.2 h0 h1
  rw [hnx]
  by_cases hc : 0 ≤ st
  · have hd : decide (0 ≤ st) = true := decide_eq_true hc
    have hat' : (st + 1).tmod ((2 * n : Nat) : Int) = a := by rw [atT, if_pos hc] at hat; exact hat
    rcases hpp with rfl | rfl <;> rcases hsg with hsg | hsg
    · have := next_fpp h hn hs.2 h0 h1 hx hpq hq hpl hwa hc hat' hsg
      have e1 : decide (s.getD x 0 = 1) = true := decide_eq_true hsg
      have e2 : decide (a = a) = true := decide_eq_true rfl
      rw [hd, e1, e2, show (a : Int) + q - a = q by omega]
      exact this
    · have := next_fmp h hn hs.2 h0 h1 hx hpq hq hpl hwa hc hat' hsg
      have e1 : decide (s.getD x 0 = 1) = false := decide_eq_false (by rw [hsg]; decide)
      have e2 : decide (a = a) = true := decide_eq_true rfl
      rw [hd, e1, e2, show (a : Int) + q - a = q by omega]
      exact this
    · have := next_fpq h hn hs.2 h0 h1 hx hpq hq hpl hwa hc hat' hsg
      have e1 : decide (s.getD x 0 = 1) = true := decide_eq_true hsg
      have e2 : decide (a = p) = false := decide_eq_false (by omega)
      rw [hd, e1, e2, show (p : Int) + a - a = p by omega]
      exact this
    · have := next_fmq h hn hs.2 h0 h1 hx hpq hq hpl hwa hc hat' hsg
      have e1 : decide (s.getD x 0 = 1) = false := decide_eq_false (by rw [hsg]; decide)
      have e2 : decide (a = p) = false := decide_eq_false (by omega)
      rw [hd, e1, e2, show (p : Int) + a - a = p by omega]
      exact this
  · have hd : decide (0 ≤ st) = false := decide_eq_false hc
    have hat' : -1 - st = (a : Int) := by rw [atT, if_neg hc] at hat; exact hat
    have hc' : st < 0 := by omega
    rcases hpp with rfl | rfl <;> rcases hsg with hsg | hsg
    · have := next_bpp h hn hs.2 h0 h1 hx hpq hq hpl hwa hc' hat' hsg
      have e1 : decide (s.getD x 0 = 1) = true := decide_eq_true hsg
      have e2 : decide (a = a) = true := decide_eq_true rfl
      rw [hd, e1, e2, show (a : Int) + q - a = q by omega]
      exact this
    · have := next_bmp h hn hs.2 h0 h1 hx hpq hq hpl hwa hc' hat' hsg
      have e1 : decide (s.getD x 0 = 1) = false := decide_eq_false (by rw [hsg]; decide)
      have e2 : decide (a = a) = true := decide_eq_true rfl
      rw [hd, e1, e2, show (a : Int) + q - a = q by omega]
      exact this
    · have := next_bpq h hn hs.2 h0 h1 hx hpq hq hpl hwa hc' hat' hsg
      have e1 : decide (s.getD x 0 = 1) = true := decide_eq_true hsg
      have e2 : decide (a = p) = false := decide_eq_false (by omega)
      rw [hd, e1, e2, show (p : Int) + a - a = p by omega]
      exact this
    · have := next_bmq h hn hs.2 h0 h1 hx hpq hq hpl hwa hc' hat' hsg
      have e1 : decide (s.getD x 0 = 1) = false := decide_eq_false (by rw [hsg]; decide)
      have e2 : decide (a = p) = false := decide_eq_false (by omega)
      rw [hd, e1, e2, show (p : Int) + a - a = p by omega]
      exact this
set_option maxHeartbeats 4000000 in
theorem nref_f {w s : List Int} {n a x p q : Nat} {st : Int} (h : Word w n) (hn : n ≤ 10) (hl : s.length = n) (h0 : -((2 * n : Nat) : Int) ≤ st) (h1 : st < (2 * n : Nat)) (hA : At w s n st a x p q) (hc : 0 ≤ st) : FnAt Try.prog false 51 [.arr (.int .i64) w, .arr (.int .i64) s, .lit (.int .i64 st)] (.lit (.int .i64 (nextT w s st))) [] := by
  have hwl : @List.length (Ty.int .i64).T w = 2 * n := h.len
  have hsl : @List.length (Ty.int .i64).T s = n := hl
  have hwl0 := h.len
  obtain ⟨ha, hat, hx, hwa, hpq, hq, hpl, hpp, hsg, hnx⟩ := hA
  have hat' : (st + 1).tmod ((2 * n : Nat) : Int) = a := by
    unfold atT at hat
    rwa [if_pos hc] at hat
  have hdc : decide (0 ≤ st) = true := decide_eq_true hc
  have ht0 := Int.tmod_nonneg (a := (p : Int) + q - a + (2 * n : Nat) - 1) (2 * n : Nat) (by omega)
  have ht1 := Int.tmod_lt_of_pos ((p : Int) + q - a + (2 * n : Nat) - 1) (b := (2 * n : Nat)) (by omega)
  have ht0w : 0 ≤ ((p : Int) + q - a + @List.length (Ty.int .i64).T w - 1).tmod (@List.length (Ty.int .i64).T w) := by rw [hwl]; exact ht0
  have ht1w : ((p : Int) + q - a + @List.length (Ty.int .i64).T w - 1).tmod (@List.length (Ty.int .i64).T w) < (2 * n : Nat) := by rw [hwl]; exact ht1
  rw [hdc] at hnx
  have hP := places_at w x (by omega)
  rw [hpl] at hP
  obtain ⟨t, ht⟩ : ∃ t, t = (decide (s.getD x 0 = 1) == decide (a = p)) := ⟨_, rfl⟩
  rw [← ht] at hnx
  have ht' : (decide (s.getD x 0 = 1) == decide ((a : Int) = p)) = t := by
    rw [ht]; congr 1; rw [decide_eq_decide]; omega
  refine FnAt.of_body tys_ok Try.func51 (by rfl) rfl Try.ntmps51 (by rw [Try.results51]) (by simp) ?_
  
  repeat' (first
 | refine W.seq ?_
 | refine W.block ?_
 | (refine W.resub (x := Code.region 4 _ _) (Γ' := ⟨[(0, .st false (.arr (.int .i64) (w : List Int))), (1, .st false (.arr (.int .i64) (s : List Int))), (2, .lit (.int .i64 (st))), (7, .lit (.int .i64 (a))), (8, .lit (.bool (true)))], []⟩) ?_ (W.region tys_ok [10, 28] ?_); rotate_left; (conv => whnf))
 | (refine W.resub (x := Code.region 5 _ _) (Γ' := ⟨[(0, .st false (.arr (.int .i64) (w : List Int))), (1, .st false (.arr (.int .i64) (s : List Int))), (2, .lit (.int .i64 (st))), (7, .lit (.int .i64 (a))), (8, .lit (.bool (true))), (9, .lit (.int .i64 (x)))], []⟩) ?_ (W.region tys_ok [10, 28] ?_); rotate_left; (conv => whnf))
 | (refine W.drawPhTo (id := 6) tys_ok [10, 28] mixed [0, 1, 2, 0, 8, 16, 36, 0, 192, 511] [([0, 1, 2, 3, 4, 5, 6, 7, 8, 9], 0, 1023)] ⟨[(0, .st false (.arr (.int .i64) (w : List Int))), (1, .st false (.arr (.int .i64) (s : List Int))), (2, .lit (.int .i64 (st))), (7, .lit (.int .i64 (a))), (8, .lit (.bool (true))), (9, .lit (.int .i64 (x))), (10, .st true (.arr (.int .i64) ([(p : Int), (q : Int)] : List Int))), (11, .lit (.int .i64 ((p : Int) + q - a)))], []⟩ (by decide +kernel) ?_ ?_ <;> (conv => whnf))
 | (refine W.drawPhTo (id := 7) tys_ok [10, 28] mixed [0, 0, 3, 4, 8, 0, 0, 64, 128, 288, 528, 2047] [([0, 1, 2, 3, 4, 5, 6, 7, 8, 9, 10, 11], 0, 4095)] ⟨[(0, .st false (.arr (.int .i64) (w : List Int))), (1, .st false (.arr (.int .i64) (s : List Int))), (2, .lit (.int .i64 (st))), (7, .lit (.int .i64 (a))), (8, .lit (.bool (true))), (11, .lit (.int .i64 ((p : Int) + q - a))), (12, .lit (.bool (t)))], []⟩ (by decide +kernel) ?_ ?_ <;> (conv => whnf))
 | (refine W.resub (x := Code.region 9 _ _) (Γ' := ⟨[(0, .st false (.arr (.int .i64) w)), (2, .lit (.int .i64 st)), (11, .lit (.int .i64 ((p : Int) + q - a)))], []⟩) ?_ (W.region tys_ok [10, 28] ?_); rotate_left; (conv => whnf))
 | (refine W.region tys_ok [10, 28] ?_; conv => whnf)
 | (refine W.drawAll tys_ok [10, 28] mixed rfl ?_; conv => whnf)
 | (refine W.ret ?_; conv => whnf)
 | (refine W.skip ?_; conv => whnf)
 | (refine W.exit ?_; conv => whnf)
 | (refine call_at (al := false) (hP) rfl rfl rfl rfl ?_; conv => whnf)
 | (refine Both.mk ?_ ?_ <;> (conv => whnf))
 | (refine W.cond rfl (fun hb => ?_) (fun hb => ?_) <;> (try simp only [Int.reduceToNat, Int.reduceTDiv, Int.reduceTMod, minL, maxL, pickB, zHB] at hb) <;> (try (first | (cases hb; done) | exact absurd hb (by decide) | (exfalso; omega))))
 | ((with_reducible refine And.intro ?_ ?_); (focus ((repeat' (first | (with_reducible rfl) | (with_reducible refine And.intro ?_ ?_) | omega | rfl | exact Or.inl rfl | exact Or.inr rfl | exact of_decide_eq_true rfl | exact Path.imp_of (of_decide_eq_true rfl) | (focus ((try simp only [Int.reduceToNat, Int.reduceTDiv, Int.reduceTMod, minL, maxL, pickB, zHB, InK, Path.imp, List.length_replicate, List.length_set, List.length_append, List.length_cons, List.length_nil] at *); omega)) | (refine app_le rfl ?_; omega))); done)); (conv => whnf))
 | ((with_reducible refine And.intro (Side.out ?_) ?_); rotate_left; (conv => whnf))
 | ((first | refine retF1 ?_ | refine retF2 ?_ | refine subF.leaf ?_ | refine subF.side ?_) <;> (conv => whnf) <;> repeat' (first
 | exact trivial
 | (with_reducible rfl)
 | ((with_reducible refine And.intro ?_ ?_) <;> conv => whnf)
 | omega
 | rfl
 | (refine congrArg (SV.arr _) ?_)
 | (refine congrArg (Value.int _) ?_)
 | (refine congrArg Value.bool ?_)))); all_goals (try unfold Side)
  all_goals try (repeat' (first | (with_reducible rfl) | (with_reducible refine And.intro ?_ ?_) | omega | rfl | exact Or.inl rfl | exact Or.inr rfl | exact of_decide_eq_true rfl | exact Path.imp_of (of_decide_eq_true rfl) | (focus ((try simp only [Int.reduceToNat, Int.reduceTDiv, Int.reduceTMod, minL, maxL, pickB, zHB, InK, Path.imp, List.length_replicate, List.length_set, List.length_append, List.length_cons, List.length_nil] at *); omega)) | (refine app_le rfl ?_; omega)))
  all_goals first
    | (rw [hnx, if_pos hb]; show -1 - Int.tmod ((p : Int) + q - a + (w.length : Nat) - 1) (w.length : Nat) = _; rw [hwl0])
    | (rw [hnx, if_neg (by rw [hb]; simp)]; done)
    | (rw [hwl]; exact hat')
set_option maxHeartbeats 4000000 in
theorem nref_b {w s : List Int} {n a x p q : Nat} {st : Int} (h : Word w n) (hn : n ≤ 10) (hl : s.length = n) (h0 : -((2 * n : Nat) : Int) ≤ st) (h1 : st < (2 * n : Nat)) (hA : At w s n st a x p q) (hc : st < 0) : FnAt Try.prog false 51 [.arr (.int .i64) w, .arr (.int .i64) s, .lit (.int .i64 st)] (.lit (.int .i64 (nextT w s st))) [] := by
  have hwl : @List.length (Ty.int .i64).T w = 2 * n := h.len
  have hsl : @List.length (Ty.int .i64).T s = n := hl
  have hwl0 := h.len
  obtain ⟨ha, hat, hx, hwa, hpq, hq, hpl, hpp, hsg, hnx⟩ := hA
  have hat' : -1 - st = (a : Int) := by
    unfold atT at hat
    rwa [if_neg (by omega)] at hat
  have hdc : decide (0 ≤ st) = false := decide_eq_false (by omega)
  have ht0 := Int.tmod_nonneg (a := (p : Int) + q - a + (2 * n : Nat) - 1) (2 * n : Nat) (by omega)
  have ht1 := Int.tmod_lt_of_pos ((p : Int) + q - a + (2 * n : Nat) - 1) (b := (2 * n : Nat)) (by omega)
  have ht0w : 0 ≤ ((p : Int) + q - a + @List.length (Ty.int .i64).T w - 1).tmod (@List.length (Ty.int .i64).T w) := by rw [hwl]; exact ht0
  have ht1w : ((p : Int) + q - a + @List.length (Ty.int .i64).T w - 1).tmod (@List.length (Ty.int .i64).T w) < (2 * n : Nat) := by rw [hwl]; exact ht1
  rw [hdc] at hnx
  have hP := places_at w x (by omega)
  rw [hpl] at hP
  obtain ⟨t, ht⟩ : ∃ t, t = (decide (s.getD x 0 = 1) == decide (a = p)) := ⟨_, rfl⟩
  rw [← ht] at hnx
  have ht' : (decide (s.getD x 0 = 1) == decide ((a : Int) = p)) = t := by
    rw [ht]; congr 1; rw [decide_eq_decide]; omega
  refine FnAt.of_body tys_ok Try.func51 (by rfl) rfl Try.ntmps51 (by rw [Try.results51]) (by simp) ?_
  
  repeat' (first
 | refine W.seq ?_
 | refine W.block ?_
 | (refine W.resub (x := Code.region 4 _ _) (Γ' := ⟨[(0, .st false (.arr (.int .i64) (w : List Int))), (1, .st false (.arr (.int .i64) (s : List Int))), (2, .lit (.int .i64 (st))), (7, .lit (.int .i64 (a))), (8, .lit (.bool (false)))], []⟩) ?_ (W.region tys_ok [10, 28] ?_); rotate_left; (conv => whnf))
 | (refine W.resub (x := Code.region 5 _ _) (Γ' := ⟨[(0, .st false (.arr (.int .i64) (w : List Int))), (1, .st false (.arr (.int .i64) (s : List Int))), (2, .lit (.int .i64 (st))), (7, .lit (.int .i64 (a))), (8, .lit (.bool (false))), (9, .lit (.int .i64 (x)))], []⟩) ?_ (W.region tys_ok [10, 28] ?_); rotate_left; (conv => whnf))
 | (refine W.drawPhTo (id := 6) tys_ok [10, 28] mixed [0, 1, 2, 0, 8, 16, 36, 0, 192, 511] [([0, 1, 2, 3, 4, 5, 6, 7, 8, 9], 0, 1023)] ⟨[(0, .st false (.arr (.int .i64) (w : List Int))), (1, .st false (.arr (.int .i64) (s : List Int))), (2, .lit (.int .i64 (st))), (7, .lit (.int .i64 (a))), (8, .lit (.bool (false))), (9, .lit (.int .i64 (x))), (10, .st true (.arr (.int .i64) ([(p : Int), (q : Int)] : List Int))), (11, .lit (.int .i64 ((p : Int) + q - a)))], []⟩ (by decide +kernel) ?_ ?_ <;> (conv => whnf))
 | (refine W.drawPhTo (id := 7) tys_ok [10, 28] mixed [0, 0, 3, 4, 8, 0, 0, 64, 128, 288, 528, 2047] [([0, 1, 2, 3, 4, 5, 6, 7, 8, 9, 10, 11], 0, 4095)] ⟨[(0, .st false (.arr (.int .i64) (w : List Int))), (1, .st false (.arr (.int .i64) (s : List Int))), (2, .lit (.int .i64 (st))), (7, .lit (.int .i64 (a))), (8, .lit (.bool (false))), (11, .lit (.int .i64 ((p : Int) + q - a))), (12, .lit (.bool (t)))], []⟩ (by decide +kernel) ?_ ?_ <;> (conv => whnf))
 | (refine W.resub (x := Code.region 9 _ _) (Γ' := ⟨[(0, .st false (.arr (.int .i64) w)), (2, .lit (.int .i64 st)), (11, .lit (.int .i64 ((p : Int) + q - a)))], []⟩) ?_ (W.region tys_ok [10, 28] ?_); rotate_left; (conv => whnf))
 | (refine W.region tys_ok [10, 28] ?_; conv => whnf)
 | (refine W.drawAll tys_ok [10, 28] mixed rfl ?_; conv => whnf)
 | (refine W.ret ?_; conv => whnf)
 | (refine W.skip ?_; conv => whnf)
 | (refine W.exit ?_; conv => whnf)
 | (refine call_at (al := false) (hP) rfl rfl rfl rfl ?_; conv => whnf)
 | (refine Both.mk ?_ ?_ <;> (conv => whnf))
 | (refine W.cond rfl (fun hb => ?_) (fun hb => ?_) <;> (try simp only [Int.reduceToNat, Int.reduceTDiv, Int.reduceTMod, minL, maxL, pickB, zHB] at hb) <;> (try (first | (cases hb; done) | exact absurd hb (by decide) | (exfalso; omega))))
 | ((with_reducible refine And.intro ?_ ?_); (focus ((repeat' (first | (with_reducible rfl) | (with_reducible refine And.intro ?_ ?_) | omega | rfl | exact Or.inl rfl | exact Or.inr rfl | exact of_decide_eq_true rfl | exact Path.imp_of (of_decide_eq_true rfl) | (focus ((try simp only [Int.reduceToNat, Int.reduceTDiv, Int.reduceTMod, minL, maxL, pickB, zHB, InK, Path.imp, List.length_replicate, List.length_set, List.length_append, List.length_cons, List.length_nil] at *); omega)) | (refine app_le rfl ?_; omega))); done)); (conv => whnf))
 | ((with_reducible refine And.intro (Side.out ?_) ?_); rotate_left; (conv => whnf))
 | ((first | refine retF1 ?_ | refine retF2 ?_ | refine subF.leaf ?_ | refine subF.side ?_) <;> (conv => whnf) <;> repeat' (first
 | exact trivial
 | (with_reducible rfl)
 | ((with_reducible refine And.intro ?_ ?_) <;> conv => whnf)
 | omega
 | rfl
 | (refine congrArg (SV.arr _) ?_)
 | (refine congrArg (Value.int _) ?_)
 | (refine congrArg Value.bool ?_)))); all_goals (try unfold Side)
  all_goals try (repeat' (first | (with_reducible rfl) | (with_reducible refine And.intro ?_ ?_) | omega | rfl | exact Or.inl rfl | exact Or.inr rfl | exact of_decide_eq_true rfl | exact Path.imp_of (of_decide_eq_true rfl) | (focus ((try simp only [Int.reduceToNat, Int.reduceTDiv, Int.reduceTMod, minL, maxL, pickB, zHB, InK, Path.imp, List.length_replicate, List.length_set, List.length_append, List.length_cons, List.length_nil] at *); omega)) | (refine app_le rfl ?_; omega)))
  all_goals first
    | (rw [hnx, if_pos hb]; show -1 - Int.tmod ((p : Int) + q - a + (w.length : Nat) - 1) (w.length : Nat) = _; rw [hwl0])
    | (rw [hnx, if_neg (by rw [hb]; simp)]; done)
    | (rw [hwl]; exact hat')
end Go.Proofs.Ytdfajcfkdfjoeaa
namespace Go.Scr
set_option linter.unusedVariables false
set_option linter.unusedSimpArgs false
theorem Wk.init {nx : Int → Int} {m : Nat} {seen : List Int} {b : Int} (h1 : seen.Nodup) (h2 : ∀ x ∈ seen, -(m : Int) ≤ x ∧ x < m) (h3 : -(m : Int) ≤ b) (h4 : b < m) : Wk nx m seen b b [] :=
  ⟨by simpa using h1, by simpa using h2, ⟨h3, h4⟩, rfl, fun i hi => by simp at hi, fun h => absurd rfl h⟩
theorem facesK_ok {nx : Int → Int} {m : Nat} (hr : ∀ s, -(m : Int) ≤ s → s < m → -(m : Int) ≤ nx s ∧ nx s < m) : ∀ k, k ≤ 2 * m → (facesK nx m k).flatten.Nodup ∧ ∀ x ∈ (facesK nx m k).flatten, -(m : Int) ≤ x ∧ x < m
  | 0, _ => by simp [facesK]
  | k + 1, hk => by
    obtain ⟨h1, h2⟩ := facesK_ok hr k (by omega)
    rw [facesK, faceAdd]
    split
    · exact ⟨h1, h2⟩
    · obtain ⟨st, h3, _⟩ := walk_ok hr (2 * m + 1) ((k : Int) - m) [] (Wk.init (b := (k : Int) - m) h1 h2 (by omega) (by omega)) (by simp)
      rw [List.flatten_append, List.flatten_singleton]
      exact ⟨h3.nd, h3.rg⟩
theorem walk_more {nx : Int → Int} {seen : List Int} {m : Nat} {step : Int} {face : List Int} (hl : face.length ≤ 2 * m) (h : ¬ (step ∈ seen ∨ step ∈ face)) : walk nx seen (2 * m + 1 - face.length) step face = walk nx seen (2 * m + 1 - (face ++ [step]).length) (nx step) (face ++ [step]) := by
  rw [List.length_append, List.length_singleton, show 2 * m + 1 - face.length = (2 * m + 1 - (face.length + 1)) + 1 by omega, walk, if_neg h]
theorem walk_end {nx : Int → Int} {seen : List Int} {m : Nat} {step : Int} {face : List Int} (hl : face.length ≤ 2 * m) (h : step ∈ seen ∨ step ∈ face) : walk nx seen (2 * m + 1 - face.length) step face = face := by
  rw [show 2 * m + 1 - face.length = (2 * m - face.length) + 1 by omega, walk, if_pos h]
theorem facesK_skip {nx : Int → Int} {m k : Nat} (h : (k : Int) - m ∈ (facesK nx m k).flatten) : facesK nx m (k + 1) = facesK nx m k := by rw [facesK, faceAdd, if_pos h]
theorem facesK_push {nx : Int → Int} {m k : Nat} (h : ¬ (k : Int) - m ∈ (facesK nx m k).flatten) : facesK nx m (k + 1) = facesK nx m k ++ [walk nx (facesK nx m k).flatten (2 * m + 1) ((k : Int) - m) []] := by rw [facesK, faceAdd, if_neg h]
theorem facesK_len {nx : Int → Int} {m : Nat} : ∀ k, (facesK nx m k).length ≤ k
  | 0 => by simp [facesK]
  | k + 1 => by
    have := facesK_len (nx := nx) (m := m) k
    rw [facesK, faceAdd]; split
    · omega
    · simp; omega
theorem facesK_lens {nx : Int → Int} {m : Nat} (hr : ∀ s, -(m : Int) ≤ s → s < m → -(m : Int) ≤ nx s ∧ nx s < m) (k : Nat) (hk : k ≤ 2 * m) : ∀ i, i < (facesK nx m k).length → ((facesK nx m k).getD i []).length ≤ 2 * m := fun i hi => by
  obtain ⟨h1, h2⟩ := facesK_ok hr k hk
  have hf : (facesK nx m k).getD i [] ∈ facesK nx m k := by
    rw [List.getD_eq_getElem?_getD, List.getElem?_eq_getElem hi]; exact List.getElem_mem hi
  have hs : ((facesK nx m k).getD i []).Sublist (facesK nx m k).flatten := List.sublist_flatten_of_mem hf
  exact nodup_range (hs.nodup h1) fun x hx => h2 x (hs.subset hx)
theorem facesT_lens {nx : Int → Int} {m : Nat} (hr : ∀ s, -(m : Int) ≤ s → s < m → -(m : Int) ≤ nx s ∧ nx s < m) : ∀ i, i < (facesT nx m).length → ((facesT nx m).getD i []).length ≤ 2 * m := facesK_lens hr _ (Nat.le_refl _)
def mpT (L : List Int) : Int → Option Bool := fun j => if j ∈ L then some true else none
theorem mpT_in {L : List Int} {x : Int} (h : x ∈ L) : (mpT L x).getD false = true := by rw [mpT, if_pos h]; rfl
theorem mpT_out {L : List Int} {x : Int} (h : ¬ x ∈ L) : (mpT L x).getD false = false := by rw [mpT, if_neg h]; rfl
def rowT (m : Nat) (L : List Int) : List Bool := (List.range (2 * m)).map fun i : Nat => decide ((i : Int) - m ∈ L)
theorem rowT_len {m : Nat} {L : List Int} : (rowT m L).length = 2 * m := by simp [rowT]
theorem rowT_get {m : Nat} {L : List Int} {i : Nat} (h : i < 2 * m) : (rowT m L).getD i false = decide ((i : Int) - m ∈ L) := by
  rw [rowT, List.getD_eq_getElem?_getD, List.getElem?_map, List.getElem?_range h]; rfl
theorem rowT_set {m : Nat} {L : List Int} {x : Int} (h0 : -(m : Int) ≤ x) (h1 : x < m) : (rowT m L).set (x + m).toNat true = rowT m (L ++ [x]) := by
  refine List.ext_getElem (by simp [rowT]) fun i h2 h3 => ?_
  rw [List.length_set, rowT_len] at h2
  rw [List.getElem_set]
  simp only [rowT, List.getElem_map, List.getElem_range, List.mem_append, List.mem_singleton]
  split
  · rename_i e
    rw [Bool.eq_iff_iff]; simp only [decide_eq_true_eq, true_iff]; right; omega
  · rename_i e
    rw [decide_eq_decide]
    constructor
    · exact .inl
    · rintro (h | h)
      · exact h
      · omega
theorem rowT_nil {m : Nat} : rowT m [] = List.replicate (2 * m) false := by
  refine List.ext_getElem (by simp [rowT]) fun i h2 h3 => ?_
  simp [rowT]
end Go.Scr
namespace Go.Proofs.Ytdfajcfkdfjoeaa
open Go Go.Vc Go.Scr
set_option linter.unusedVariables false
set_option linter.unusedSimpArgs false
theorem mp_add {L : List Int} {x : Int} (h : ¬ x ∈ L) : Ob.mp .i64 .bool (mput (mpT L) x true) (if (mpT L x).isSome = true then L.length else L.length + 1) = Ob.mp .i64 .bool (mpT (L ++ [x])) (L ++ [x]).length := by
  have h1 : mput (mpT L) x true = mpT (L ++ [x]) := by
    funext j
    unfold mput mpT
    by_cases e : j = x
    · subst e; simp
    · simp [e]
  have h2 : (mpT L x).isSome = false := by rw [mpT, if_neg h]; rfl
  have key : ∀ {m m' : Int → Option Bool} {c c' : Nat}, m = m' → c = c' → Ob.mp .i64 .bool m c = Ob.mp .i64 .bool m' c' := by rintro m m' c c' rfl rfl; rfl
  refine key h1 ?_
  rw [h2, List.length_append]; rfl
theorem mp_eq {L M : List Int} (h : L = M) : Ob.mp .i64 .bool (mpT L) L.length = Ob.mp .i64 .bool (mpT M) M.length := by rw [h]
theorem mp_nil {L : List Int} (h : L = []) : Ob.mp .i64 .bool (fun _ => none) 0 = Ob.mp .i64 .bool (mpT L) L.length := by
  subst h
  have : mpT [] = fun _ => none := by funext j; simp [mpT]
  rw [this]; rfl
theorem next_rg {w s : List Int} {n : Nat} (h : Word w n) (hs : signsB s n = true) : ∀ st, -((2 * n : Nat) : Int) ≤ st → st < (2 * n : Nat) → -((2 * n : Nat) : Int) ≤ nextT w s st ∧ nextT w s st < (2 * n : Nat) := fun st h0 h1 => by
  simp only [signsB, Bool.and_eq_true, decide_eq_true_eq] at hs
  obtain ⟨a, x, p, q, hA⟩ := at_of h hs.1 hs.2 h0 h1
  exact hA.rg
set_option maxHeartbeats 4000000 in
theorem faces_at {w s : List Int} {n : Nat} (h : Word w n) (hn : n ≤ 10) (hs : signsB s n = true) : FnAt Try.prog false 48 [curveT n w, .arr (.int .i64) s] (.own 0) [(0, .row 22 (.sl (.int .i64)) true (facesT (nextT w s) (2 * n)))] := by
  have hwl : @List.length (Ty.int .i64).T w = 2 * n := h.len
  have hp := h.pos
  have hr := next_rg h hs
  obtain ⟨nx, hnx⟩ : ∃ nx, nx = nextT w s := ⟨_, rfl⟩
  rw [← hnx] at hr ⊢
  obtain ⟨K, hK⟩ : ∃ K : Nat → List (List Int), K = facesK nx (2 * n) := ⟨_, rfl⟩
  have hK0 : K 0 = [] := by rw [hK]; rfl
  have hKT : K (2 * (2 * n)) = facesT nx (2 * n) := by rw [hK]; rfl
  have hKl : ∀ k, (K k).length ≤ k := fun k => by rw [hK]; exact facesK_len k
  have hKl2 : ∀ k, @List.length (Ty.sl (.int .i64)).T (K k) ≤ k := hKl
  have hok : ∀ k, k ≤ 2 * (2 * n) → (K k).flatten.Nodup ∧ ∀ x ∈ (K k).flatten, -((2 * n : Nat) : Int) ≤ x ∧ x < (2 * n : Nat) := by rw [hK]; exact facesK_ok hr
  have hskip : ∀ k : Nat, (k : Int) - (2 * n : Nat) ∈ (K k).flatten → K (k + 1) = K k := by rw [hK]; exact fun k => facesK_skip
  have hpush : ∀ k : Nat, ¬ (k : Int) - (2 * n : Nat) ∈ (K k).flatten → K (k + 1) = K k ++ [walk nx (K k).flatten (2 * (2 * n) + 1) ((k : Int) - (2 * n : Nat)) []] := by rw [hK]; exact fun k => facesK_push
  refine FnAt.of_body tys_ok Try.func48 (by rfl) rfl Try.ntmps48 (by rw [Try.results48]) (by simp) ?_
  
  repeat' (first
 | refine W.seq ?_
 | refine W.block ?_
 | (refine W.region tys_ok [] ?_; conv => whnf)
 | (refine W.drawAll tys_ok [] mixed rfl ?_; conv => whnf)
 | (refine W.ret ?_; conv => whnf)
 | (refine W.skip ?_; conv => whnf)
 | (refine W.exit ?_; conv => whnf)
 | (refine W.cond rfl (fun hb => ?_) (fun hb => ?_) <;> (try simp only [Int.reduceToNat, Int.reduceTDiv, Int.reduceTMod, minL, maxL, pickB, zHB] at hb) <;> (try (first | (cases hb; done) | exact absurd hb (by decide) | (exfalso; omega))))
 | ((with_reducible refine And.intro ?_ ?_); (focus ((repeat' (first | (with_reducible rfl) | (with_reducible refine And.intro ?_ ?_) | omega | rfl | exact Or.inl rfl | exact Or.inr rfl | exact of_decide_eq_true rfl | exact Path.imp_of (of_decide_eq_true rfl) | (focus ((try simp only [Int.reduceToNat, Int.reduceTDiv, Int.reduceTMod, minL, maxL, pickB, zHB, InK, Path.imp, List.length_replicate, List.length_set, List.length_append, List.length_cons, List.length_nil] at *); omega)) | (refine app_le rfl ?_; omega))); done)); (conv => whnf))
 | ((with_reducible refine And.intro (Side.out ?_) ?_); rotate_left; (conv => whnf))
 | ((first | refine retF1 ?_ | refine retF2 ?_) <;> (conv => whnf) <;> repeat' (first
 | exact trivial
 | (with_reducible rfl)
 | ((with_reducible refine And.intro ?_ ?_) <;> conv => whnf)
 | omega
 | rfl
 | (refine congrArg (SV.arr _) ?_)
 | (refine congrArg (Value.int _) ?_)
 | (refine congrArg Value.bool ?_)))); all_goals (try unfold Side)
  all_goals try (repeat' (first | (with_reducible rfl) | (with_reducible refine And.intro ?_ ?_) | omega | rfl | exact Or.inl rfl | exact Or.inr rfl | exact of_decide_eq_true rfl | exact Path.imp_of (of_decide_eq_true rfl) | (focus ((try simp only [Int.reduceToNat, Int.reduceTDiv, Int.reduceTMod, minL, maxL, pickB, zHB, InK, Path.imp, List.length_replicate, List.length_set, List.length_append, List.length_cons, List.length_nil] at *); omega)) | (refine app_le rfl ?_; omega)))
  refine W.loop (fun k : Nat => ⟨[(0, .st false (curveT n w)), (1, .st false (.arr (.int .i64) (s : List Int))), (5, .own 900005), (6, .own 900006), (7, .lit (.int .i64 ((2 * n : Nat)))), (8, .lit (.int .i64 ((k : Int) - (2 * n : Nat))))], [(900005, .row 22 (.sl (.int .i64)) true (K k : List (List Int))), (900006, .mp .i64 .bool (mpT (K k).flatten) (K k).flatten.length)]⟩) (fun k => k ≤ 2 * (2 * n)) (fun k => 2 * (2 * n) - k) (0) ?_ ?_
  · refine ⟨Nat.zero_le _, ?_⟩
    refine subF.ok ?_ <;> (conv => whnf) <;> repeat' (first
 | exact trivial
 | (with_reducible rfl)
 | ((with_reducible refine And.intro ?_ ?_) <;> conv => whnf)
 | omega
 | rfl
 | (refine congrArg (SV.arr _) ?_)
 | (refine congrArg (Value.int _) ?_)
 | (refine congrArg Value.bool ?_))
    · exact hK0
    · exact mp_nil (by rw [hK0]; rfl)
  · intro k hk
    have hlk := hKl2 k
    by_cases hil : k < 2 * (2 * n)
    · by_cases hm : (k : Int) - (2 * n : Nat) ∈ (K k).flatten
      · have hv := mpT_in hm
        repeat' (first
 | refine W.seq ?_
 | refine W.block ?_
 | (refine W.region tys_ok [] ?_; conv => whnf)
 | (refine W.drawAll tys_ok [] mixed rfl ?_; conv => whnf)
 | (refine W.ret ?_; conv => whnf)
 | (refine W.skip ?_; conv => whnf)
 | (refine W.exit ?_; conv => whnf)
 | (refine W.cond rfl (fun hb => ?_) (fun hb => ?_) <;> (try simp only [Int.reduceToNat, Int.reduceTDiv, Int.reduceTMod, minL, maxL, pickB, zHB] at hb) <;> (try (first | (cases hb; done) | exact absurd hb (by decide) | (exfalso; omega) | (exact absurd (hb.symm.trans hv) (by decide)))))
 | ((with_reducible refine And.intro ?_ ?_); (focus ((repeat' (first | (with_reducible rfl) | (with_reducible refine And.intro ?_ ?_) | omega | rfl | exact Or.inl rfl | exact Or.inr rfl | exact of_decide_eq_true rfl | exact Path.imp_of (of_decide_eq_true rfl) | (focus ((try simp only [Int.reduceToNat, Int.reduceTDiv, Int.reduceTMod, minL, maxL, pickB, zHB, InK, Path.imp, List.length_replicate, List.length_set, List.length_append, List.length_cons, List.length_nil] at *); omega)) | (refine app_le rfl ?_; omega))); done)); (conv => whnf))
 | ((with_reducible refine And.intro (Side.out ?_) ?_); rotate_left; (conv => whnf))
 | ((first | refine retF1 ?_ | refine retF2 ?_) <;> (conv => whnf) <;> repeat' (first
 | exact trivial
 | (with_reducible rfl)
 | ((with_reducible refine And.intro ?_ ?_) <;> conv => whnf)
 | omega
 | rfl
 | (refine congrArg (SV.arr _) ?_)
 | (refine congrArg (Value.int _) ?_)
 | (refine congrArg Value.bool ?_)))); all_goals (try unfold Side)
        all_goals try (repeat' (first | (with_reducible rfl) | (with_reducible refine And.intro ?_ ?_) | omega | rfl | exact Or.inl rfl | exact Or.inr rfl | exact of_decide_eq_true rfl | exact Path.imp_of (of_decide_eq_true rfl) | (focus ((try simp only [Int.reduceToNat, Int.reduceTDiv, Int.reduceTMod, minL, maxL, pickB, zHB, InK, Path.imp, List.length_replicate, List.length_set, List.length_append, List.length_cons, List.length_nil] at *); omega)) | (refine app_le rfl ?_; omega)))
        refine ⟨k + 1, ⟨by omega, by omega⟩, ?_⟩
        rw [hskip k hm]
        refine subF.ok ?_ <;> (conv => whnf) <;> repeat' (first
 | exact trivial
 | (with_reducible rfl)
 | ((with_reducible refine And.intro ?_ ?_) <;> conv => whnf)
 | omega
 | rfl
 | (refine congrArg (SV.arr _) ?_)
 | (refine congrArg (Value.int _) ?_)
 | (refine congrArg Value.bool ?_))
      · have hv := mpT_out hm
        obtain ⟨nd, rg⟩ := hok k (by omega)
        obtain ⟨F, hF⟩ : ∃ F, F = walk nx (K k).flatten (2 * (2 * n) + 1) ((k : Int) - (2 * n : Nat)) [] := ⟨_, rfl⟩
        have hpk := hpush k hm
        rw [← hF] at hpk
        repeat' (first
 | refine W.seq ?_
 | refine W.block ?_
 | (refine W.region tys_ok [] ?_; conv => whnf)
 | (refine W.drawAll tys_ok [] mixed rfl ?_; conv => whnf)
 | (refine W.ret ?_; conv => whnf)
 | (refine W.skip ?_; conv => whnf)
 | (refine W.exit ?_; conv => whnf)
 | (refine W.cond rfl (fun hb => ?_) (fun hb => ?_) <;> (try simp only [Int.reduceToNat, Int.reduceTDiv, Int.reduceTMod, minL, maxL, pickB, zHB] at hb) <;> (try (first | (cases hb; done) | exact absurd hb (by decide) | (exfalso; omega) | (exact absurd (hb.symm.trans hv) (by decide)))))
 | ((with_reducible refine And.intro ?_ ?_); (focus ((repeat' (first | (with_reducible rfl) | (with_reducible refine And.intro ?_ ?_) | omega | rfl | exact Or.inl rfl | exact Or.inr rfl | exact of_decide_eq_true rfl | exact Path.imp_of (of_decide_eq_true rfl) | (focus ((try simp only [Int.reduceToNat, Int.reduceTDiv, Int.reduceTMod, minL, maxL, pickB, zHB, InK, Path.imp, List.length_replicate, List.length_set, List.length_append, List.length_cons, List.length_nil] at *); omega)) | (refine app_le rfl ?_; omega))); done)); (conv => whnf))
 | ((with_reducible refine And.intro (Side.out ?_) ?_); rotate_left; (conv => whnf))
 | ((first | refine retF1 ?_ | refine retF2 ?_) <;> (conv => whnf) <;> repeat' (first
 | exact trivial
 | (with_reducible rfl)
 | ((with_reducible refine And.intro ?_ ?_) <;> conv => whnf)
 | omega
 | rfl
 | (refine congrArg (SV.arr _) ?_)
 | (refine congrArg (Value.int _) ?_)
 | (refine congrArg Value.bool ?_)))); all_goals (try unfold Side)
        all_goals try (repeat' (first | (with_reducible rfl) | (with_reducible refine And.intro ?_ ?_) | omega | rfl | exact Or.inl rfl | exact Or.inr rfl | exact of_decide_eq_true rfl | exact Path.imp_of (of_decide_eq_true rfl) | (focus ((try simp only [Int.reduceToNat, Int.reduceTDiv, Int.reduceTMod, minL, maxL, pickB, zHB, InK, Path.imp, List.length_replicate, List.length_set, List.length_append, List.length_cons, List.length_nil] at *); omega)) | (refine app_le rfl ?_; omega)))
        refine W.loop (fun z : List Int × Int => ⟨[(0, .st false (curveT n w)), (1, .st false (.arr (.int .i64) (s : List Int))), (5, .own 900005), (6, .own 900006), (7, .lit (.int .i64 ((2 * n : Nat)))), (8, .lit (.int .i64 ((k : Int) - (2 * n : Nat)))), (9, .own 900009), (10, .lit (.int .i64 (z.2)))], [(900005, .row 22 (.sl (.int .i64)) true (K k : List (List Int))), (900006, .mp .i64 .bool (mpT ((K k).flatten ++ z.1)) ((K k).flatten ++ z.1).length), (900009, .row 3 (.int .i64) true (z.1 : List Int))]⟩) (fun z => Wk nx (2 * n) (K k).flatten ((k : Int) - (2 * n : Nat)) z.2 z.1 ∧ walk nx (K k).flatten (2 * (2 * n) + 1 - z.1.length) z.2 z.1 = F) (fun z => 2 * (2 * n) - ((K k).flatten.length + z.1.length)) (([], (k : Int) - (2 * n : Nat))) ?_ ?_
        · refine ⟨⟨Wk.init nd rg (by omega) (by omega), hF.symm⟩, ?_⟩
          refine subF.ok ?_ <;> (conv => whnf) <;> repeat' (first
 | exact trivial
 | (with_reducible rfl)
 | ((with_reducible refine And.intro ?_ ?_) <;> conv => whnf)
 | omega
 | rfl
 | (refine congrArg (SV.arr _) ?_)
 | (refine congrArg (Value.int _) ?_)
 | (refine congrArg Value.bool ?_))
          · exact mp_eq (by simp)
        · rintro ⟨face, st⟩ ⟨hw, hf⟩
          dsimp only at hw hf ⊢
          have hlen := hw.len
          have hfl : @List.length (Ty.int .i64).T face ≤ 2 * (2 * n) := by show face.length ≤ _; omega
          have hst := hw.st
          have hrs := hr st hst.1 hst.2
          by_cases hms : st ∈ (K k).flatten ∨ st ∈ face
          · have hv2 := mpT_in (List.mem_append.2 hms)
            rw [walk_end hfl hms] at hf
            subst hf
            repeat' (first
 | refine W.seq ?_
 | refine W.block ?_
 | (refine W.resub (x := Code.region 14 _ _) (Γ' := ⟨[(0, .st false (curveT n w)), (1, .st false (.arr (.int .i64) (s : List Int))), (5, .own 900005), (6, .own 900006), (7, .lit (.int .i64 ((2 * n : Nat)))), (8, .lit (.int .i64 ((k : Int) - (2 * n : Nat)))), (9, .st true (.arr (.int .i64) (face : List Int)))], [(900005, .row 22 (.sl (.int .i64)) true (K k : List (List Int))), (900006, .mp .i64 .bool (mpT ((K k).flatten ++ face)) ((K k).flatten ++ face).length)]⟩) ?_ (W.region tys_ok [] ?_); rotate_left; (conv => whnf))
 | (refine W.region tys_ok [] ?_; conv => whnf)
 | (refine W.drawAll tys_ok [] mixed rfl ?_; conv => whnf)
 | (refine W.ret ?_; conv => whnf)
 | (refine W.skip ?_; conv => whnf)
 | (refine W.exit ?_; conv => whnf)
 | (refine W.cond rfl (fun hb => ?_) (fun hb => ?_) <;> (try simp only [Int.reduceToNat, Int.reduceTDiv, Int.reduceTMod, minL, maxL, pickB, zHB] at hb) <;> (try (first | (cases hb; done) | exact absurd hb (by decide) | (exfalso; omega) | (exact absurd (hb.symm.trans (congrArg (fun b : Bool => !b) hv2)) (by decide)))))
 | ((with_reducible refine And.intro ?_ ?_); (focus ((repeat' (first | (with_reducible rfl) | (with_reducible refine And.intro ?_ ?_) | omega | rfl | exact Or.inl rfl | exact Or.inr rfl | exact of_decide_eq_true rfl | exact Path.imp_of (of_decide_eq_true rfl) | (focus ((try simp only [Int.reduceToNat, Int.reduceTDiv, Int.reduceTMod, minL, maxL, pickB, zHB, InK, Path.imp, List.length_replicate, List.length_set, List.length_append, List.length_cons, List.length_nil] at *); omega)) | (refine app_le rfl ?_; omega))); done)); (conv => whnf))
 | ((with_reducible refine And.intro (Side.out ?_) ?_); rotate_left; (conv => whnf))
 | ((first | refine retF1 ?_ | refine retF2 ?_) <;> (conv => whnf) <;> repeat' (first
 | exact trivial
 | (with_reducible rfl)
 | ((with_reducible refine And.intro ?_ ?_) <;> conv => whnf)
 | omega
 | rfl
 | (refine congrArg (SV.arr _) ?_)
 | (refine congrArg (Value.int _) ?_)
 | (refine congrArg Value.bool ?_)))); all_goals (try unfold Side)
            all_goals try (repeat' (first | (with_reducible rfl) | (with_reducible refine And.intro ?_ ?_) | omega | rfl | exact Or.inl rfl | exact Or.inr rfl | exact of_decide_eq_true rfl | exact Path.imp_of (of_decide_eq_true rfl) | (focus ((try simp only [Int.reduceToNat, Int.reduceTDiv, Int.reduceTMod, minL, maxL, pickB, zHB, InK, Path.imp, List.length_replicate, List.length_set, List.length_append, List.length_cons, List.length_nil] at *); omega)) | (refine app_le rfl ?_; omega)))
            · refine ⟨k + 1, ⟨by omega, by omega⟩, ?_⟩
              rw [hpk]
              refine subF.ok ?_ <;> (conv => whnf) <;> repeat' (first
 | exact trivial
 | (with_reducible rfl)
 | ((with_reducible refine And.intro ?_ ?_) <;> conv => whnf)
 | omega
 | rfl
 | (refine congrArg (SV.arr _) ?_)
 | (refine congrArg (Value.int _) ?_)
 | (refine congrArg Value.bool ?_))
              all_goals exact mp_eq (by simp)
            · refine subF.ok ?_ <;> (conv => whnf) <;> repeat' (first
 | exact trivial
 | (with_reducible rfl)
 | ((with_reducible refine And.intro ?_ ?_) <;> conv => whnf)
 | omega
 | rfl
 | (refine congrArg (SV.arr _) ?_)
 | (refine congrArg (Value.int _) ?_)
 | (refine congrArg Value.bool ?_))
          · have hv2 := mpT_out (fun h => hms (List.mem_append.1 h))
            have hadd := mp_add (fun h => hms (List.mem_append.1 h))
            rw [walk_more hfl hms] at hf
            have hnext := next_at h hn hs hst.1 hst.2
            rw [← hnx] at hnext
            repeat' (first
 | refine W.seq ?_
 | refine W.block ?_
 | (refine W.region tys_ok [] ?_; conv => whnf)
 | (refine W.drawAll tys_ok [] mixed rfl ?_; conv => whnf)
 | (refine W.ret ?_; conv => whnf)
 | (refine W.skip ?_; conv => whnf)
 | (refine W.exit ?_; conv => whnf)
 | (refine call_at (al := false) (hnext) rfl rfl rfl rfl ?_; conv => whnf)
 | (refine W.cond rfl (fun hb => ?_) (fun hb => ?_) <;> (try simp only [Int.reduceToNat, Int.reduceTDiv, Int.reduceTMod, minL, maxL, pickB, zHB] at hb) <;> (try (first | (cases hb; done) | exact absurd hb (by decide) | (exfalso; omega) | (exact absurd (hb.symm.trans (congrArg (fun b : Bool => !b) hv2)) (by decide)))))
 | ((with_reducible refine And.intro ?_ ?_); (focus ((repeat' (first | (with_reducible rfl) | (with_reducible refine And.intro ?_ ?_) | omega | rfl | exact Or.inl rfl | exact Or.inr rfl | exact of_decide_eq_true rfl | exact Path.imp_of (of_decide_eq_true rfl) | (focus ((try simp only [Int.reduceToNat, Int.reduceTDiv, Int.reduceTMod, minL, maxL, pickB, zHB, InK, Path.imp, List.length_replicate, List.length_set, List.length_append, List.length_cons, List.length_nil] at *); omega)) | (refine app_le rfl ?_; omega))); done)); (conv => whnf))
 | ((with_reducible refine And.intro (Side.out ?_) ?_); rotate_left; (conv => whnf))
 | ((first | refine retF1 ?_ | refine retF2 ?_) <;> (conv => whnf) <;> repeat' (first
 | exact trivial
 | (with_reducible rfl)
 | ((with_reducible refine And.intro ?_ ?_) <;> conv => whnf)
 | omega
 | rfl
 | (refine congrArg (SV.arr _) ?_)
 | (refine congrArg (Value.int _) ?_)
 | (refine congrArg Value.bool ?_)))); all_goals (try unfold Side)
            all_goals try (repeat' (first | (with_reducible rfl) | (with_reducible refine And.intro ?_ ?_) | omega | rfl | exact Or.inl rfl | exact Or.inr rfl | exact of_decide_eq_true rfl | exact Path.imp_of (of_decide_eq_true rfl) | (focus ((try simp only [Int.reduceToNat, Int.reduceTDiv, Int.reduceTMod, minL, maxL, pickB, zHB, InK, Path.imp, List.length_replicate, List.length_set, List.length_append, List.length_cons, List.length_nil] at *); omega)) | (refine app_le rfl ?_; omega)))
            refine ⟨(face ++ [st], nx st), ⟨⟨hw.step hr hms, hf⟩, by
              have := (hw.step hr hms).len
              simp only [List.length_append, List.length_singleton] at this ⊢
              omega⟩, ?_⟩
            refine subF.ok ?_ <;> (conv => whnf) <;> repeat' (first
 | exact trivial
 | (with_reducible rfl)
 | ((with_reducible refine And.intro ?_ ?_) <;> conv => whnf)
 | omega
 | rfl
 | (refine congrArg (SV.arr _) ?_)
 | (refine congrArg (Value.int _) ?_)
 | (refine congrArg Value.bool ?_))
            all_goals exact hadd.trans (mp_eq (List.append_assoc _ _ _))
    · have hie : 2 * (2 * n) = k := by omega
      subst hie
      rw [hKT]
      repeat' (first
 | refine W.seq ?_
 | refine W.block ?_
 | (refine W.region tys_ok [] ?_; conv => whnf)
 | (refine W.drawAll tys_ok [] mixed rfl ?_; conv => whnf)
 | (refine W.ret ?_; conv => whnf)
 | (refine W.skip ?_; conv => whnf)
 | (refine W.exit ?_; conv => whnf)
 | (refine W.cond rfl (fun hb => ?_) (fun hb => ?_) <;> (try simp only [Int.reduceToNat, Int.reduceTDiv, Int.reduceTMod, minL, maxL, pickB, zHB] at hb) <;> (try (first | (cases hb; done) | exact absurd hb (by decide) | (exfalso; omega))))
 | ((with_reducible refine And.intro ?_ ?_); (focus ((repeat' (first | (with_reducible rfl) | (with_reducible refine And.intro ?_ ?_) | omega | rfl | exact Or.inl rfl | exact Or.inr rfl | exact of_decide_eq_true rfl | exact Path.imp_of (of_decide_eq_true rfl) | (focus ((try simp only [Int.reduceToNat, Int.reduceTDiv, Int.reduceTMod, minL, maxL, pickB, zHB, InK, Path.imp, List.length_replicate, List.length_set, List.length_append, List.length_cons, List.length_nil] at *); omega)) | (refine app_le rfl ?_; omega))); done)); (conv => whnf))
 | ((with_reducible refine And.intro (Side.out ?_) ?_); rotate_left; (conv => whnf))
 | ((first | refine retF1 ?_ | refine retF2 ?_) <;> (conv => whnf) <;> repeat' (first
 | exact trivial
 | (with_reducible rfl)
 | ((with_reducible refine And.intro ?_ ?_) <;> conv => whnf)
 | omega
 | rfl
 | (refine congrArg (SV.arr _) ?_)
 | (refine congrArg (Value.int _) ?_)
 | (refine congrArg Value.bool ?_)))); all_goals (try unfold Side)
      all_goals try (repeat' (first | (with_reducible rfl) | (with_reducible refine And.intro ?_ ?_) | omega | rfl | exact Or.inl rfl | exact Or.inr rfl | exact of_decide_eq_true rfl | exact Path.imp_of (of_decide_eq_true rfl) | (focus ((try simp only [Int.reduceToNat, Int.reduceTDiv, Int.reduceTMod, minL, maxL, pickB, zHB, InK, Path.imp, List.length_replicate, List.length_set, List.length_append, List.length_cons, List.length_nil] at *); omega)) | (refine app_le rfl ?_; omega)))
end Go.Proofs.Ytdfajcfkdfjoeaa
namespace Go.Scr
set_option linter.unusedVariables false
set_option linter.unusedSimpArgs false
def bitT (k j : Nat) : Nat := k / 2 ^ j % 2
theorem bitT_le {k j : Nat} : bitT k j ≤ 1 := by unfold bitT; omega
theorem bit_and {k j : Nat} : (k / 2 ^ j) &&& 1 = bitT k j := by rw [Nat.and_one_is_mod]; rfl
theorem bit_test {k j : Nat} : bitT k j = (k.testBit j).toNat := by
  rw [Nat.testBit_eq_decide_div_mod_eq]
  have := bitT_le (k := k) (j := j)
  unfold bitT at *
  by_cases h : k / 2 ^ j % 2 = 1
  · rw [decide_eq_true h, h]; rfl
  · rw [decide_eq_false h]; show _ = 0; omega
theorem bit_not {n k j : Nat} (hk : k < 2 ^ n) (hj : j < n) : bitT (2 ^ n - 1 - k) j = 1 - bitT k j := by
  rw [bit_test, bit_test, show 2 ^ n - 1 - k = 2 ^ n - (k + 1) by omega, Nat.testBit_two_pow_sub_succ hk, decide_eq_true hj]
  cases k.testBit j <;> rfl
def sgAt (n k i : Nat) : Int := 1 - 2 * (bitT k (n - 1 - i) : Int)
def sgT (n k : Nat) : List Int := (List.range n).map fun i => sgAt n k i
theorem sgT_len {n k : Nat} : (sgT n k).length = n := by simp [sgT]
theorem sgT_get {n k i : Nat} (h : i < n) : (sgT n k).getD i 0 = sgAt n k i := by
  rw [sgT, List.getD_eq_getElem?_getD, List.getElem?_map, List.getElem?_range h]; rfl
theorem sgAt_two {n k i : Nat} : sgAt n k i = 1 ∨ sgAt n k i = -1 := by
  have := bitT_le (k := k) (j := n - 1 - i)
  unfold sgAt; omega
theorem sgT_all {n k : Nat} : (sgT n k).all (fun x => decide (x = 1) || decide (x = -1)) = true := by
  refine List.all_eq_true.2 fun x hx => ?_
  obtain ⟨i, _, rfl⟩ := List.mem_map.1 hx
  rcases sgAt_two (n := n) (k := k) (i := i) with h | h <;> rw [h] <;> rfl
theorem take_getD' : ∀ {xs : List Int} {j : Nat}, j < xs.length → xs.take (j + 1) = xs.take j ++ [xs.getD j 0]
  | x :: r, 0, _ => by simp
  | x :: r, j + 1, h => by
    have := take_getD' (xs := r) (j := j) (by simpa using h)
    simp only [List.take_succ_cons, List.getD_cons_succ, this, List.cons_append]
theorem sgT_take {n k i : Nat} (h : i < n) : (sgT n k).take (i + 1) = (sgT n k).take i ++ [sgAt n k i] := by
  rw [take_getD' (by rw [sgT_len]; exact h), sgT_get h]
theorem sg_prog {n k i : Nat} (hk : k < 2 ^ n) (hi : i < n) : ((((2 ^ n - 1 - k) / 2 ^ (n - 1 - i)) &&& 1 : Nat) : Int) * 2 - 1 = sgAt n k i := by
  rw [bit_and, bit_not hk (by omega), sgAt]
  have := bitT_le (k := k) (j := n - 1 - i)
  omega
theorem sg_ref {n k i : Nat} : 1 - 2 * (((k / 2 ^ (n - 1 - i)) &&& 1 : Nat) : Int) = sgAt n k i := by rw [bit_and, sgAt]
def genusT (n : Nat) (w s : List Int) : Int := ((n : Int) + 2 - (facesT (nextT w s) (2 * n)).length).tdiv 2
def leastK (n : Nat) (w : List Int) : Nat → Int × List Int
  | 0 => (0, [])
  | k + 1 => if (leastK n w k).2 = [] ∨ genusT n w (sgT n k) < (leastK n w k).1 then (genusT n w (sgT n k), sgT n k) else leastK n w k
def leastT (n : Nat) (w : List Int) : Int × List Int := leastK n w (2 ^ n)
theorem leastK_yes {n : Nat} {w : List Int} {k : Nat} (h : (leastK n w k).2 = [] ∨ genusT n w (sgT n k) < (leastK n w k).1) : leastK n w (k + 1) = (genusT n w (sgT n k), sgT n k) := by rw [leastK, if_pos h]
theorem leastK_no {n : Nat} {w : List Int} {k : Nat} (h : ¬ ((leastK n w k).2 = [] ∨ genusT n w (sgT n k) < (leastK n w k).1)) : leastK n w (k + 1) = leastK n w k := by rw [leastK, if_neg h]
def allT (n : Nat) (k : Nat) : List (List Int) := (List.range k).map fun i => sgT n i
theorem allT_len {n k : Nat} : (allT n k).length = k := by simp [allT]
theorem allT_get {n k i : Nat} (h : i < k) : (allT n k).getD i [] = sgT n i := by
  rw [allT, List.getD_eq_getElem?_getD, List.getElem?_map, List.getElem?_range h]; rfl
theorem allT_succ {n k : Nat} : allT n (k + 1) = allT n k ++ [sgT n k] := by
  rw [allT, allT, List.range_succ, List.map_append]; rfl
end Go.Scr
namespace Go.Proofs.Ytdfajcfkdfjoeaa
open Go Go.Vc Go.Scr
set_option linter.unusedVariables false
set_option linter.unusedSimpArgs false
theorem nref_at {w s : List Int} {n : Nat} (h : Word w n) (hn : n ≤ 10) (hs : signsB s n = true) {st : Int} (h0 : -((2 * n : Nat) : Int) ≤ st) (h1 : st < (2 * n : Nat)) : FnAt Try.prog false 51 [.arr (.int .i64) w, .arr (.int .i64) s, .lit (.int .i64 st)] (.lit (.int .i64 (nextT w s st))) [] := by
  simp only [signsB, Bool.and_eq_true, decide_eq_true_eq] at hs
  obtain ⟨a, x, p, q, hA⟩ := at_of h hs.1 hs.2 h0 h1
  by_cases hc : 0 ≤ st
  · exact nref_f h hn hs.2 h0 h1 hA hc
  · exact nref_b h hn hs.2 h0 h1 hA (by omega)
set_option maxHeartbeats 4000000 in
theorem faces_ref {w s : List Int} {n : Nat} (h : Word w n) (hn : n ≤ 10) (hs : signsB s n = true) : FnAt Try.prog false 26 [.arr (.int .i64) w, .arr (.int .i64) s] (.own 0) [(0, .row 22 (.sl (.int .i64)) true (facesT (nextT w s) (2 * n)))] := by
  have hwl : @List.length (Ty.int .i64).T w = 2 * n := h.len
  have hp := h.pos
  have hr := next_rg h hs
  obtain ⟨nx, hnx⟩ : ∃ nx, nx = nextT w s := ⟨_, rfl⟩
  rw [← hnx] at hr ⊢
  obtain ⟨K, hK⟩ : ∃ K : Nat → List (List Int), K = facesK nx (2 * n) := ⟨_, rfl⟩
  have hK0 : K 0 = [] := by rw [hK]; rfl
  have hKT : K (2 * (2 * n)) = facesT nx (2 * n) := by rw [hK]; rfl
  have hKl : ∀ k, (K k).length ≤ k := fun k => by rw [hK]; exact facesK_len k
  have hKl2 : ∀ k, @List.length (Ty.sl (.int .i64)).T (K k) ≤ k := hKl
  have hok : ∀ k, k ≤ 2 * (2 * n) → (K k).flatten.Nodup ∧ ∀ x ∈ (K k).flatten, -((2 * n : Nat) : Int) ≤ x ∧ x < (2 * n : Nat) := by rw [hK]; exact facesK_ok hr
  have hskip : ∀ k : Nat, (k : Int) - (2 * n : Nat) ∈ (K k).flatten → K (k + 1) = K k := by rw [hK]; exact fun k => facesK_skip
  have hpush : ∀ k : Nat, ¬ (k : Int) - (2 * n : Nat) ∈ (K k).flatten → K (k + 1) = K k ++ [walk nx (K k).flatten (2 * (2 * n) + 1) ((k : Int) - (2 * n : Nat)) []] := by rw [hK]; exact fun k => facesK_push
  have hrl : ∀ L, @List.length Ty.bool.T (rowT (2 * n) L) = 2 * (2 * n) := fun L => rowT_len
  have hrg : ∀ (L : List Int) (x : Int), -((2 * n : Nat) : Int) ≤ x → x < (2 * n : Nat) → @List.getD Ty.bool.T (rowT (2 * n) L) (x + @List.length (Ty.int .i64).T w).toNat Ty.bool.dflt = decide (x ∈ L) := fun L x h0 h1 => by
    rw [hwl]
    refine (rowT_get (i := (x + (2 * n : Nat)).toNat) (by omega)).trans ?_
    rw [show (((x + (2 * n : Nat)).toNat : Nat) : Int) - (2 * n : Nat) = x by omega]
  refine FnAt.of_body tys_ok Try.func26 (by rfl) rfl Try.ntmps26 (by rw [Try.results26]) (by simp) ?_
  
  repeat' (first
 | refine W.seq ?_
 | refine W.block ?_
 | (refine W.drawPhTo (id := 1) tys_ok [] mixed [0, 0, 2, 4, 8, 1, 63] [([1], 5, 63), ([6], 0, 127)] ⟨[(0, .st false (.arr (.int .i64) (w : List Int))), (1, .st false (.arr (.int .i64) (s : List Int))), (5, .own 900005), (6, .own 900006)], [(900005, .row 22 (.sl (.int .i64)) true ([] : List (List Int))), (900006, .row 4 .bool true (rowT (2 * n) [] : List Bool))]⟩ (by decide +kernel) ?_ ?_ <;> (conv => whnf))
 | (refine W.region tys_ok [] ?_; conv => whnf)
 | (refine W.drawAll tys_ok [] mixed rfl ?_; conv => whnf)
 | (refine W.ret ?_; conv => whnf)
 | (refine W.skip ?_; conv => whnf)
 | (refine W.exit ?_; conv => whnf)
 | (refine Both.mk ?_ ?_ <;> (conv => whnf))
 | (refine W.cond rfl (fun hb => ?_) (fun hb => ?_) <;> (try simp only [Int.reduceToNat, Int.reduceTDiv, Int.reduceTMod, minL, maxL, pickB, zHB] at hb) <;> (try (first | (cases hb; done) | exact absurd hb (by decide) | (exfalso; omega))))
 | ((with_reducible refine And.intro ?_ ?_); (focus ((repeat' (first | (with_reducible rfl) | (with_reducible refine And.intro ?_ ?_) | omega | rfl | exact Or.inl rfl | exact Or.inr rfl | exact of_decide_eq_true rfl | exact Path.imp_of (of_decide_eq_true rfl) | (focus ((try simp only [Int.reduceToNat, Int.reduceTDiv, Int.reduceTMod, minL, maxL, pickB, zHB, InK, Path.imp, List.length_replicate, List.length_set, List.length_append, List.length_cons, List.length_nil] at *); omega)) | (refine app_le rfl ?_; omega))); done)); (conv => whnf))
 | ((with_reducible refine And.intro (Side.out ?_) ?_); rotate_left; (conv => whnf))
 | ((first | refine retF1 ?_ | refine retF2 ?_ | refine subF.leaf ?_ | refine subF.side ?_) <;> (conv => whnf) <;> repeat' (first
 | exact trivial
 | (with_reducible rfl)
 | ((with_reducible refine And.intro ?_ ?_) <;> conv => whnf)
 | omega
 | rfl
 | (refine congrArg (SV.arr _) ?_)
 | (refine congrArg (Value.int _) ?_)
 | (refine congrArg Value.bool ?_)))); all_goals (try unfold Side)
  all_goals try (repeat' (first | (with_reducible rfl) | (with_reducible refine And.intro ?_ ?_) | omega | rfl | exact Or.inl rfl | exact Or.inr rfl | exact of_decide_eq_true rfl | exact Path.imp_of (of_decide_eq_true rfl) | (focus ((try simp only [Int.reduceToNat, Int.reduceTDiv, Int.reduceTMod, minL, maxL, pickB, zHB, InK, Path.imp, List.length_replicate, List.length_set, List.length_append, List.length_cons, List.length_nil] at *); omega)) | (refine app_le rfl ?_; omega)))
  all_goals try (rw [hwl]; exact rowT_nil.symm)
  refine W.loop (fun k : Nat => ⟨[(0, .st false (.arr (.int .i64) (w : List Int))), (1, .st false (.arr (.int .i64) (s : List Int))), (5, .own 900005), (6, .own 900006), (7, .lit (.int .i64 ((k : Int) - (2 * n : Nat))))], [(900005, .row 22 (.sl (.int .i64)) true (K k : List (List Int))), (900006, .row 4 .bool true (rowT (2 * n) (K k).flatten : List Bool))]⟩) (fun k => k ≤ 2 * (2 * n)) (fun k => 2 * (2 * n) - k) (0) ?_ ?_
  · refine ⟨Nat.zero_le _, ?_⟩
    refine subF.ok ?_ <;> (conv => whnf) <;> repeat' (first
 | exact trivial
 | (with_reducible rfl)
 | ((with_reducible refine And.intro ?_ ?_) <;> conv => whnf)
 | omega
 | rfl
 | (refine congrArg (SV.arr _) ?_)
 | (refine congrArg (Value.int _) ?_)
 | (refine congrArg Value.bool ?_))
    all_goals first | exact hK0.symm | exact hK0 | (rw [hK0]; rfl)
  · intro k hk
    have hlk := hKl2 k
    have hrl1 := hrl (K k).flatten
    by_cases hil : k < 2 * (2 * n)
    · have hv := hrg (K k).flatten ((k : Int) - (2 * n : Nat)) (by omega) (by omega)
      by_cases hm : (k : Int) - (2 * n : Nat) ∈ (K k).flatten
      · rw [decide_eq_true hm] at hv
        repeat' (first
 | refine W.seq ?_
 | refine W.block ?_
 | (refine W.region tys_ok [] ?_; conv => whnf)
 | (refine W.drawAll tys_ok [] mixed rfl ?_; conv => whnf)
 | (refine W.ret ?_; conv => whnf)
 | (refine W.skip ?_; conv => whnf)
 | (refine W.exit ?_; conv => whnf)
 | (refine W.cond rfl (fun hb => ?_) (fun hb => ?_) <;> (try simp only [Int.reduceToNat, Int.reduceTDiv, Int.reduceTMod, minL, maxL, pickB, zHB] at hb) <;> (try (first | (cases hb; done) | exact absurd hb (by decide) | (exfalso; omega) | (exact absurd (hb.symm.trans hv) (by decide)))))
 | ((with_reducible refine And.intro ?_ ?_); (focus ((repeat' (first | (with_reducible rfl) | (with_reducible refine And.intro ?_ ?_) | omega | rfl | exact Or.inl rfl | exact Or.inr rfl | exact of_decide_eq_true rfl | exact Path.imp_of (of_decide_eq_true rfl) | (focus ((try simp only [Int.reduceToNat, Int.reduceTDiv, Int.reduceTMod, minL, maxL, pickB, zHB, InK, Path.imp, List.length_replicate, List.length_set, List.length_append, List.length_cons, List.length_nil] at *); omega)) | (refine app_le rfl ?_; omega))); done)); (conv => whnf))
 | ((with_reducible refine And.intro (Side.out ?_) ?_); rotate_left; (conv => whnf))
 | ((first | refine retF1 ?_ | refine retF2 ?_) <;> (conv => whnf) <;> repeat' (first
 | exact trivial
 | (with_reducible rfl)
 | ((with_reducible refine And.intro ?_ ?_) <;> conv => whnf)
 | omega
 | rfl
 | (refine congrArg (SV.arr _) ?_)
 | (refine congrArg (Value.int _) ?_)
 | (refine congrArg Value.bool ?_)))); all_goals (try unfold Side)
        all_goals try (repeat' (first | (with_reducible rfl) | (with_reducible refine And.intro ?_ ?_) | omega | rfl | exact Or.inl rfl | exact Or.inr rfl | exact of_decide_eq_true rfl | exact Path.imp_of (of_decide_eq_true rfl) | (focus ((try simp only [Int.reduceToNat, Int.reduceTDiv, Int.reduceTMod, minL, maxL, pickB, zHB, InK, Path.imp, List.length_replicate, List.length_set, List.length_append, List.length_cons, List.length_nil] at *); omega)) | (refine app_le rfl ?_; omega)))
        refine ⟨k + 1, ⟨by omega, by omega⟩, ?_⟩
        rw [hskip k hm]
        refine subF.ok ?_ <;> (conv => whnf) <;> repeat' (first
 | exact trivial
 | (with_reducible rfl)
 | ((with_reducible refine And.intro ?_ ?_) <;> conv => whnf)
 | omega
 | rfl
 | (refine congrArg (SV.arr _) ?_)
 | (refine congrArg (Value.int _) ?_)
 | (refine congrArg Value.bool ?_))
      · rw [decide_eq_false hm] at hv
        obtain ⟨nd, rg⟩ := hok k (by omega)
        obtain ⟨F, hF⟩ : ∃ F, F = walk nx (K k).flatten (2 * (2 * n) + 1) ((k : Int) - (2 * n : Nat)) [] := ⟨_, rfl⟩
        have hpk := hpush k hm
        rw [← hF] at hpk
        repeat' (first
 | refine W.seq ?_
 | refine W.block ?_
 | (refine W.region tys_ok [] ?_; conv => whnf)
 | (refine W.drawAll tys_ok [] mixed rfl ?_; conv => whnf)
 | (refine W.ret ?_; conv => whnf)
 | (refine W.skip ?_; conv => whnf)
 | (refine W.exit ?_; conv => whnf)
 | (refine W.cond rfl (fun hb => ?_) (fun hb => ?_) <;> (try simp only [Int.reduceToNat, Int.reduceTDiv, Int.reduceTMod, minL, maxL, pickB, zHB] at hb) <;> (try (first | (cases hb; done) | exact absurd hb (by decide) | (exfalso; omega) | (exact absurd (hb.symm.trans hv) (by decide)))))
 | ((with_reducible refine And.intro ?_ ?_); (focus ((repeat' (first | (with_reducible rfl) | (with_reducible refine And.intro ?_ ?_) | omega | rfl | exact Or.inl rfl | exact Or.inr rfl | exact of_decide_eq_true rfl | exact Path.imp_of (of_decide_eq_true rfl) | (focus ((try simp only [Int.reduceToNat, Int.reduceTDiv, Int.reduceTMod, minL, maxL, pickB, zHB, InK, Path.imp, List.length_replicate, List.length_set, List.length_append, List.length_cons, List.length_nil] at *); omega)) | (refine app_le rfl ?_; omega))); done)); (conv => whnf))
 | ((with_reducible refine And.intro (Side.out ?_) ?_); rotate_left; (conv => whnf))
 | ((first | refine retF1 ?_ | refine retF2 ?_) <;> (conv => whnf) <;> repeat' (first
 | exact trivial
 | (with_reducible rfl)
 | ((with_reducible refine And.intro ?_ ?_) <;> conv => whnf)
 | omega
 | rfl
 | (refine congrArg (SV.arr _) ?_)
 | (refine congrArg (Value.int _) ?_)
 | (refine congrArg Value.bool ?_)))); all_goals (try unfold Side)
        all_goals try (repeat' (first | (with_reducible rfl) | (with_reducible refine And.intro ?_ ?_) | omega | rfl | exact Or.inl rfl | exact Or.inr rfl | exact of_decide_eq_true rfl | exact Path.imp_of (of_decide_eq_true rfl) | (focus ((try simp only [Int.reduceToNat, Int.reduceTDiv, Int.reduceTMod, minL, maxL, pickB, zHB, InK, Path.imp, List.length_replicate, List.length_set, List.length_append, List.length_cons, List.length_nil] at *); omega)) | (refine app_le rfl ?_; omega)))
        refine W.loop (fun z : List Int × Int => ⟨[(0, .st false (.arr (.int .i64) (w : List Int))), (1, .st false (.arr (.int .i64) (s : List Int))), (5, .own 900005), (6, .own 900006), (7, .lit (.int .i64 ((k : Int) - (2 * n : Nat)))), (8, .own 900008), (9, .lit (.int .i64 (z.2)))], [(900005, .row 22 (.sl (.int .i64)) true (K k : List (List Int))), (900006, .row 4 .bool true (rowT (2 * n) ((K k).flatten ++ z.1) : List Bool)), (900008, .row 3 (.int .i64) true (z.1 : List Int))]⟩) (fun z => Wk nx (2 * n) (K k).flatten ((k : Int) - (2 * n : Nat)) z.2 z.1 ∧ walk nx (K k).flatten (2 * (2 * n) + 1 - z.1.length) z.2 z.1 = F) (fun z => 2 * (2 * n) - ((K k).flatten.length + z.1.length)) (([], (k : Int) - (2 * n : Nat))) ?_ ?_
        · refine ⟨⟨Wk.init nd rg (by omega) (by omega), hF.symm⟩, ?_⟩
          refine subF.ok ?_ <;> (conv => whnf) <;> repeat' (first
 | exact trivial
 | (with_reducible rfl)
 | ((with_reducible refine And.intro ?_ ?_) <;> conv => whnf)
 | omega
 | rfl
 | (refine congrArg (SV.arr _) ?_)
 | (refine congrArg (Value.int _) ?_)
 | (refine congrArg Value.bool ?_))
          all_goals exact congrArg (rowT (2 * n)) (List.append_nil _).symm
        · rintro ⟨face, st⟩ ⟨hw, hf⟩
          dsimp only at hw hf ⊢
          have hlen := hw.len
          have hfl : @List.length (Ty.int .i64).T face ≤ 2 * (2 * n) := by show face.length ≤ _; omega
          have hst := hw.st
          have hrs := hr st hst.1 hst.2
          have hrl2 := hrl ((K k).flatten ++ face)
          have hv2 := hrg ((K k).flatten ++ face) st hst.1 hst.2
          by_cases hms : st ∈ (K k).flatten ∨ st ∈ face
          · rw [decide_eq_true (List.mem_append.2 hms)] at hv2
            rw [walk_end hfl hms] at hf
            subst hf
            repeat' (first
 | refine W.seq ?_
 | refine W.block ?_
 | (refine W.resub (x := Code.region 10 _ _) (Γ' := ⟨[(0, .st false (.arr (.int .i64) (w : List Int))), (1, .st false (.arr (.int .i64) (s : List Int))), (5, .own 900005), (6, .own 900006), (7, .lit (.int .i64 ((k : Int) - (2 * n : Nat)))), (8, .st true (.arr (.int .i64) (face : List Int)))], [(900005, .row 22 (.sl (.int .i64)) true (K k : List (List Int))), (900006, .row 4 .bool true (rowT (2 * n) ((K k).flatten ++ face) : List Bool))]⟩) ?_ (W.region tys_ok [] ?_); rotate_left; (conv => whnf))
 | (refine W.region tys_ok [] ?_; conv => whnf)
 | (refine W.drawAll tys_ok [] mixed rfl ?_; conv => whnf)
 | (refine W.ret ?_; conv => whnf)
 | (refine W.skip ?_; conv => whnf)
 | (refine W.exit ?_; conv => whnf)
 | (refine W.cond rfl (fun hb => ?_) (fun hb => ?_) <;> (try simp only [Int.reduceToNat, Int.reduceTDiv, Int.reduceTMod, minL, maxL, pickB, zHB] at hb) <;> (try (first | (cases hb; done) | exact absurd hb (by decide) | (exfalso; omega) | (exact absurd (hb.symm.trans hv2) (by decide)))))
 | ((with_reducible refine And.intro ?_ ?_); (focus ((repeat' (first | (with_reducible rfl) | (with_reducible refine And.intro ?_ ?_) | omega | rfl | exact Or.inl rfl | exact Or.inr rfl | exact of_decide_eq_true rfl | exact Path.imp_of (of_decide_eq_true rfl) | (focus ((try simp only [Int.reduceToNat, Int.reduceTDiv, Int.reduceTMod, minL, maxL, pickB, zHB, InK, Path.imp, List.length_replicate, List.length_set, List.length_append, List.length_cons, List.length_nil] at *); omega)) | (refine app_le rfl ?_; omega))); done)); (conv => whnf))
 | ((with_reducible refine And.intro (Side.out ?_) ?_); rotate_left; (conv => whnf))
 | ((first | refine retF1 ?_ | refine retF2 ?_) <;> (conv => whnf) <;> repeat' (first
 | exact trivial
 | (with_reducible rfl)
 | ((with_reducible refine And.intro ?_ ?_) <;> conv => whnf)
 | omega
 | rfl
 | (refine congrArg (SV.arr _) ?_)
 | (refine congrArg (Value.int _) ?_)
 | (refine congrArg Value.bool ?_)))); all_goals (try unfold Side)
            all_goals try (repeat' (first | (with_reducible rfl) | (with_reducible refine And.intro ?_ ?_) | omega | rfl | exact Or.inl rfl | exact Or.inr rfl | exact of_decide_eq_true rfl | exact Path.imp_of (of_decide_eq_true rfl) | (focus ((try simp only [Int.reduceToNat, Int.reduceTDiv, Int.reduceTMod, minL, maxL, pickB, zHB, InK, Path.imp, List.length_replicate, List.length_set, List.length_append, List.length_cons, List.length_nil] at *); omega)) | (refine app_le rfl ?_; omega)))
            · refine ⟨k + 1, ⟨by omega, by omega⟩, ?_⟩
              rw [hpk]
              refine subF.ok ?_ <;> (conv => whnf) <;> repeat' (first
 | exact trivial
 | (with_reducible rfl)
 | ((with_reducible refine And.intro ?_ ?_) <;> conv => whnf)
 | omega
 | rfl
 | (refine congrArg (SV.arr _) ?_)
 | (refine congrArg (Value.int _) ?_)
 | (refine congrArg Value.bool ?_))
              all_goals exact congrArg (rowT (2 * n)) (by simp)
            · refine subF.ok ?_ <;> (conv => whnf) <;> repeat' (first
 | exact trivial
 | (with_reducible rfl)
 | ((with_reducible refine And.intro ?_ ?_) <;> conv => whnf)
 | omega
 | rfl
 | (refine congrArg (SV.arr _) ?_)
 | (refine congrArg (Value.int _) ?_)
 | (refine congrArg Value.bool ?_))
          · rw [decide_eq_false (fun h => hms (List.mem_append.1 h))] at hv2
            have hset := rowT_set (m := 2 * n) (L := (K k).flatten ++ face) (x := st) hst.1 hst.2
            rw [walk_more hfl hms] at hf
            have hnext := nref_at h hn hs hst.1 hst.2
            rw [← hnx] at hnext
            repeat' (first
 | refine W.seq ?_
 | refine W.block ?_
 | (refine W.region tys_ok [] ?_; conv => whnf)
 | (refine W.drawAll tys_ok [] mixed rfl ?_; conv => whnf)
 | (refine W.ret ?_; conv => whnf)
 | (refine W.skip ?_; conv => whnf)
 | (refine W.exit ?_; conv => whnf)
 | (refine call_at (al := false) (hnext) rfl rfl rfl rfl ?_; conv => whnf)
 | (refine W.cond rfl (fun hb => ?_) (fun hb => ?_) <;> (try simp only [Int.reduceToNat, Int.reduceTDiv, Int.reduceTMod, minL, maxL, pickB, zHB] at hb) <;> (try (first | (cases hb; done) | exact absurd hb (by decide) | (exfalso; omega) | (exact absurd (hb.symm.trans hv2) (by decide)))))
 | ((with_reducible refine And.intro ?_ ?_); (focus ((repeat' (first | (with_reducible rfl) | (with_reducible refine And.intro ?_ ?_) | omega | rfl | exact Or.inl rfl | exact Or.inr rfl | exact of_decide_eq_true rfl | exact Path.imp_of (of_decide_eq_true rfl) | (focus ((try simp only [Int.reduceToNat, Int.reduceTDiv, Int.reduceTMod, minL, maxL, pickB, zHB, InK, Path.imp, List.length_replicate, List.length_set, List.length_append, List.length_cons, List.length_nil] at *); omega)) | (refine app_le rfl ?_; omega))); done)); (conv => whnf))
 | ((with_reducible refine And.intro (Side.out ?_) ?_); rotate_left; (conv => whnf))
 | ((first | refine retF1 ?_ | refine retF2 ?_) <;> (conv => whnf) <;> repeat' (first
 | exact trivial
 | (with_reducible rfl)
 | ((with_reducible refine And.intro ?_ ?_) <;> conv => whnf)
 | omega
 | rfl
 | (refine congrArg (SV.arr _) ?_)
 | (refine congrArg (Value.int _) ?_)
 | (refine congrArg Value.bool ?_)))); all_goals (try unfold Side)
            all_goals try (repeat' (first | (with_reducible rfl) | (with_reducible refine And.intro ?_ ?_) | omega | rfl | exact Or.inl rfl | exact Or.inr rfl | exact of_decide_eq_true rfl | exact Path.imp_of (of_decide_eq_true rfl) | (focus ((try simp only [Int.reduceToNat, Int.reduceTDiv, Int.reduceTMod, minL, maxL, pickB, zHB, InK, Path.imp, List.length_replicate, List.length_set, List.length_append, List.length_cons, List.length_nil] at *); omega)) | (refine app_le rfl ?_; omega)))
            refine ⟨(face ++ [st], nx st), ⟨⟨hw.step hr hms, hf⟩, by
              have := (hw.step hr hms).len
              simp only [List.length_append, List.length_singleton] at this ⊢
              omega⟩, ?_⟩
            refine subF.ok ?_ <;> (conv => whnf) <;> repeat' (first
 | exact trivial
 | (with_reducible rfl)
 | ((with_reducible refine And.intro ?_ ?_) <;> conv => whnf)
 | omega
 | rfl
 | (refine congrArg (SV.arr _) ?_)
 | (refine congrArg (Value.int _) ?_)
 | (refine congrArg Value.bool ?_))
            all_goals (rw [hwl]; exact hset.trans (congrArg (rowT (2 * n)) (List.append_assoc _ _ _)))
    · have hie : 2 * (2 * n) = k := by omega
      subst hie
      rw [hKT]
      repeat' (first
 | refine W.seq ?_
 | refine W.block ?_
 | (refine W.region tys_ok [] ?_; conv => whnf)
 | (refine W.drawAll tys_ok [] mixed rfl ?_; conv => whnf)
 | (refine W.ret ?_; conv => whnf)
 | (refine W.skip ?_; conv => whnf)
 | (refine W.exit ?_; conv => whnf)
 | (refine W.cond rfl (fun hb => ?_) (fun hb => ?_) <;> (try simp only [Int.reduceToNat, Int.reduceTDiv, Int.reduceTMod, minL, maxL, pickB, zHB] at hb) <;> (try (first | (cases hb; done) | exact absurd hb (by decide) | (exfalso; omega))))
 | ((with_reducible refine And.intro ?_ ?_); (focus ((repeat' (first | (with_reducible rfl) | (with_reducible refine And.intro ?_ ?_) | omega | rfl | exact Or.inl rfl | exact Or.inr rfl | exact of_decide_eq_true rfl | exact Path.imp_of (of_decide_eq_true rfl) | (focus ((try simp only [Int.reduceToNat, Int.reduceTDiv, Int.reduceTMod, minL, maxL, pickB, zHB, InK, Path.imp, List.length_replicate, List.length_set, List.length_append, List.length_cons, List.length_nil] at *); omega)) | (refine app_le rfl ?_; omega))); done)); (conv => whnf))
 | ((with_reducible refine And.intro (Side.out ?_) ?_); rotate_left; (conv => whnf))
 | ((first | refine retF1 ?_ | refine retF2 ?_) <;> (conv => whnf) <;> repeat' (first
 | exact trivial
 | (with_reducible rfl)
 | ((with_reducible refine And.intro ?_ ?_) <;> conv => whnf)
 | omega
 | rfl
 | (refine congrArg (SV.arr _) ?_)
 | (refine congrArg (Value.int _) ?_)
 | (refine congrArg Value.bool ?_)))); all_goals (try unfold Side)
      all_goals try (repeat' (first | (with_reducible rfl) | (with_reducible refine And.intro ?_ ?_) | omega | rfl | exact Or.inl rfl | exact Or.inr rfl | exact of_decide_eq_true rfl | exact Path.imp_of (of_decide_eq_true rfl) | (focus ((try simp only [Int.reduceToNat, Int.reduceTDiv, Int.reduceTMod, minL, maxL, pickB, zHB, InK, Path.imp, List.length_replicate, List.length_set, List.length_append, List.length_cons, List.length_nil] at *); omega)) | (refine app_le rfl ?_; omega)))
theorem facesT_len {nx : Int → Int} {m : Nat} : (facesT nx m).length ≤ 2 * m := facesK_len _
theorem genus_rg {n : Nat} {w s : List Int} (hn : n ≤ 10) : -100 ≤ ((n : Int) + 2 - (facesT (nextT w s) (2 * n)).length) ∧ -100 ≤ genusT n w s ∧ genusT n w s ≤ 100 := by
  have h := facesT_len (nx := nextT w s) (m := 2 * n)
  unfold genusT
  by_cases h0 : 0 ≤ (n : Int) + 2 - (facesT (nextT w s) (2 * n)).length
  · rw [Int.tdiv_eq_ediv_of_nonneg h0]; omega
  · have : ((n : Int) + 2 - (facesT (nextT w s) (2 * n)).length).tdiv 2 = -((-((n : Int) + 2 - (facesT (nextT w s) (2 * n)).length)).tdiv 2) := by rw [Int.neg_tdiv, Int.neg_neg]
    rw [this, Int.tdiv_eq_ediv_of_nonneg (by omega)]; omega
theorem genus_at {w s : List Int} {n : Nat} (h : Word w n) (hn : n ≤ 10) (hs : signsB s n = true) : FnAt Try.prog false 49 [curveT n w, .arr (.int .i64) s] (.lit (.int .i64 (genusT n w s))) [] := by
  have hf := faces_at h hn hs
  have hfl := facesT_len (nx := nextT w s) (m := 2 * n)
  have hg := genus_rg (w := w) (s := s) hn
  unfold genusT at hg ⊢
  obtain ⟨F, hF⟩ : ∃ F, F = facesT (nextT w s) (2 * n) := ⟨_, rfl⟩
  rw [← hF] at hf hfl hg ⊢
  have hfl' : @List.length (Ty.sl (.int .i64)).T F ≤ 2 * (2 * n) := hfl
  refine FnAt.of_body tys_ok Try.func49 (by rfl) rfl Try.ntmps49 (by rw [Try.results49]) (by simp) ?_
  
  repeat' (first
 | refine W.seq ?_
 | refine W.block ?_
 | (refine W.drawPh (id := 1) tys_ok [] mixed [0, 1, 2, 4, 8, 0, 0, 96, 128, 272, 512, 2047] [([0, 1, 2, 3, 4, 5, 6], 1, 255), ([], 1, 511), ([9, 10, 11], 0, 4095)] (by decide +kernel) ?_; conv => whnf)
 | (refine W.region tys_ok [] ?_; conv => whnf)
 | (refine W.drawAll tys_ok [] mixed rfl ?_; conv => whnf)
 | (refine W.ret ?_; conv => whnf)
 | (refine W.skip ?_; conv => whnf)
 | (refine W.exit ?_; conv => whnf)
 | (refine call_at (al := false) (hf) rfl rfl rfl rfl ?_; conv => whnf)
 | (refine Both.mk ?_ ?_ <;> (conv => whnf))
 | (refine W.cond rfl (fun hb => ?_) (fun hb => ?_) <;> (try simp only [Int.reduceToNat, Int.reduceTDiv, Int.reduceTMod, minL, maxL, pickB, zHB] at hb) <;> (try (first | (cases hb; done) | exact absurd hb (by decide) | (exfalso; omega))))
 | ((with_reducible refine And.intro ?_ ?_); (focus ((repeat' (first | (with_reducible rfl) | (with_reducible refine And.intro ?_ ?_) | omega | rfl | exact Or.inl rfl | exact Or.inr rfl | exact of_decide_eq_true rfl | exact Path.imp_of (of_decide_eq_true rfl) | (focus ((try simp only [Int.reduceToNat, Int.reduceTDiv, Int.reduceTMod, minL, maxL, pickB, zHB, InK, Path.imp, List.length_replicate, List.length_set, List.length_append, List.length_cons, List.length_nil] at *); omega)) | (refine app_le rfl ?_; omega))); done)); (conv => whnf))
 | ((with_reducible refine And.intro (Side.out ?_) ?_); rotate_left; (conv => whnf))
 | ((first | refine retF1 ?_ | refine retF2 ?_ | refine subF.leaf ?_ | refine subF.side ?_) <;> (conv => whnf) <;> repeat' (first
 | exact trivial
 | (with_reducible rfl)
 | ((with_reducible refine And.intro ?_ ?_) <;> conv => whnf)
 | omega
 | rfl
 | (refine congrArg (SV.arr _) ?_)
 | (refine congrArg (Value.int _) ?_)
 | (refine congrArg Value.bool ?_)))); all_goals (try unfold Side)
  all_goals try (repeat' (first | (with_reducible rfl) | (with_reducible refine And.intro ?_ ?_) | omega | rfl | exact Or.inl rfl | exact Or.inr rfl | exact of_decide_eq_true rfl | exact Path.imp_of (of_decide_eq_true rfl) | (focus ((try simp only [Int.reduceToNat, Int.reduceTDiv, Int.reduceTMod, minL, maxL, pickB, zHB, InK, Path.imp, List.length_replicate, List.length_set, List.length_append, List.length_cons, List.length_nil] at *); omega)) | (refine app_le rfl ?_; omega)))
theorem genus_ref {w s : List Int} {n : Nat} (h : Word w n) (hn : n ≤ 10) (hs : signsB s n = true) : FnAt Try.prog false 27 [.arr (.int .i64) w, .arr (.int .i64) s] (.lit (.int .i64 (genusT n w s))) [] := by
  have hwl : @List.length (Ty.int .i64).T w = 2 * n := h.len
  have hd : Int.tdiv (@List.length (Ty.int .i64).T w) 2 = n := by rw [hwl, Int.tdiv_eq_ediv_of_nonneg (by omega)]; omega
  have hf := faces_ref h hn hs
  have hfl := facesT_len (nx := nextT w s) (m := 2 * n)
  have hg := genus_rg (w := w) (s := s) hn
  unfold genusT at hg ⊢
  obtain ⟨F, hF⟩ : ∃ F, F = facesT (nextT w s) (2 * n) := ⟨_, rfl⟩
  rw [← hF] at hf hfl hg ⊢
  have hfl' : @List.length (Ty.sl (.int .i64)).T F ≤ 2 * (2 * n) := hfl
  have e : (Int.tdiv (@List.length (Ty.int .i64).T w) 2 + 2 - (@List.length (Ty.sl (.int .i64)).T F : Int)).tdiv 2 = ((n : Int) + 2 - F.length).tdiv 2 := by rw [hd]; rfl
  refine FnAt.of_body tys_ok Try.func27 (by rfl) rfl Try.ntmps27 (by rw [Try.results27]) (by simp) ?_
  
  repeat' (first
 | refine W.seq ?_
 | refine W.block ?_
 | (refine W.drawPh (id := 1) tys_ok [] mixed [0, 1, 2, 4, 0, 0, 48, 64, 136, 256, 1023] [([0, 4, 5], 5, 255), ([8, 9, 10], 0, 2047)] (by decide +kernel) ?_; conv => whnf)
 | (refine W.region tys_ok [] ?_; conv => whnf)
 | (refine W.drawAll tys_ok [] mixed rfl ?_; conv => whnf)
 | (refine W.ret ?_; conv => whnf)
 | (refine W.skip ?_; conv => whnf)
 | (refine W.exit ?_; conv => whnf)
 | (refine call_at (al := false) (hf) rfl rfl rfl rfl ?_; conv => whnf)
 | (refine Both.mk ?_ ?_ <;> (conv => whnf))
 | (refine W.cond rfl (fun hb => ?_) (fun hb => ?_) <;> (try simp only [Int.reduceToNat, Int.reduceTDiv, Int.reduceTMod, minL, maxL, pickB, zHB] at hb) <;> (try (first | (cases hb; done) | exact absurd hb (by decide) | (exfalso; omega))))
 | ((with_reducible refine And.intro ?_ ?_); (focus ((repeat' (first | (with_reducible rfl) | (with_reducible refine And.intro ?_ ?_) | omega | rfl | exact Or.inl rfl | exact Or.inr rfl | exact of_decide_eq_true rfl | exact Path.imp_of (of_decide_eq_true rfl) | (focus ((try simp only [Int.reduceToNat, Int.reduceTDiv, Int.reduceTMod, minL, maxL, pickB, zHB, InK, Path.imp, List.length_replicate, List.length_set, List.length_append, List.length_cons, List.length_nil] at *); omega)) | (refine app_le rfl ?_; omega))); done)); (conv => whnf))
 | ((with_reducible refine And.intro (Side.out ?_) ?_); rotate_left; (conv => whnf))
 | ((first | refine retF1 ?_ | refine retF2 ?_ | refine subF.leaf ?_ | refine subF.side ?_) <;> (conv => whnf) <;> repeat' (first
 | exact trivial
 | (with_reducible rfl)
 | ((with_reducible refine And.intro ?_ ?_) <;> conv => whnf)
 | omega
 | rfl
 | (refine congrArg (SV.arr _) ?_)
 | (refine congrArg (Value.int _) ?_)
 | (refine congrArg Value.bool ?_)))); all_goals (try unfold Side)
  all_goals try (repeat' (first | (with_reducible rfl) | (with_reducible refine And.intro ?_ ?_) | omega | rfl | exact Or.inl rfl | exact Or.inr rfl | exact of_decide_eq_true rfl | exact Path.imp_of (of_decide_eq_true rfl) | (focus ((try simp only [Int.reduceToNat, Int.reduceTDiv, Int.reduceTMod, minL, maxL, pickB, zHB, InK, Path.imp, List.length_replicate, List.length_set, List.length_append, List.length_cons, List.length_nil] at *); omega)) | (refine app_le rfl ?_; omega)))
  all_goals first
    | exact e
    | (refine Path.imp_of ⟨by decide, ?_⟩; show InK .i64 _; rw [e]; simp only [InK]; omega)
theorem Faces_ok {w s : List Int} {n : Nat} (h : Word w n) (hn : n ≤ 10) (hs : signsB s n = true) : FnAt Try.prog false 23 [.arr (.int .i64) w, .arr (.int .i64) s] (.tup [.own 0, .lit (.int .i64 0)]) [(0, .row 22 (.sl (.int .i64)) true (facesT (nextT w s) (2 * n)))] := by
  refine FnAt.of_body tys_ok Try.func23 (by rfl) rfl Try.ntmps23 (by rw [Try.results23]) (by simp) ?_
  
  repeat' (first
 | refine W.seq ?_
 | refine W.block ?_
 | (refine W.region tys_ok [] ?_; conv => whnf)
 | (refine W.drawAll tys_ok [] mixed rfl ?_; conv => whnf)
 | (refine W.ret ?_; conv => whnf)
 | (refine W.skip ?_; conv => whnf)
 | (refine W.exit ?_; conv => whnf)
 | (refine call_at (al := true) (signed_ok h hn hs) rfl rfl rfl rfl ?_; conv => whnf)
 | (refine call_at (al := false) (faces_at h hn hs) rfl rfl rfl rfl ?_; conv => whnf)
 | (refine W.cond rfl (fun hb => ?_) (fun hb => ?_) <;> (try simp only [Int.reduceToNat, Int.reduceTDiv, Int.reduceTMod, minL, maxL, pickB, zHB] at hb) <;> (try (first | (cases hb; done) | exact absurd hb (by decide) | (exfalso; omega))))
 | ((with_reducible refine And.intro ?_ ?_); (focus ((repeat' (first | (with_reducible rfl) | (with_reducible refine And.intro ?_ ?_) | omega | rfl | exact Or.inl rfl | exact Or.inr rfl | exact of_decide_eq_true rfl | exact Path.imp_of (of_decide_eq_true rfl) | (focus ((try simp only [Int.reduceToNat, Int.reduceTDiv, Int.reduceTMod, minL, maxL, pickB, zHB, InK, Path.imp, List.length_replicate, List.length_set, List.length_append, List.length_cons, List.length_nil] at *); omega)) | (refine app_le rfl ?_; omega))); done)); (conv => whnf))
 | ((with_reducible refine And.intro (Side.out ?_) ?_); rotate_left; (conv => whnf))
 | ((first | refine retF1 ?_ | refine retF2 ?_) <;> (conv => whnf) <;> repeat' (first
 | exact trivial
 | (with_reducible rfl)
 | ((with_reducible refine And.intro ?_ ?_) <;> conv => whnf)
 | omega
 | rfl
 | (refine congrArg (SV.arr _) ?_)
 | (refine congrArg (Value.int _) ?_)
 | (refine congrArg Value.bool ?_)))); all_goals (try unfold Side)
  all_goals try (repeat' (first | (with_reducible rfl) | (with_reducible refine And.intro ?_ ?_) | omega | rfl | exact Or.inl rfl | exact Or.inr rfl | exact of_decide_eq_true rfl | exact Path.imp_of (of_decide_eq_true rfl) | (focus ((try simp only [Int.reduceToNat, Int.reduceTDiv, Int.reduceTMod, minL, maxL, pickB, zHB, InK, Path.imp, List.length_replicate, List.length_set, List.length_append, List.length_cons, List.length_nil] at *); omega)) | (refine app_le rfl ?_; omega)))
theorem Genus_ok {w s : List Int} {n : Nat} (h : Word w n) (hn : n ≤ 10) (hs : signsB s n = true) : FnAt Try.prog false 24 [.arr (.int .i64) w, .arr (.int .i64) s] (.tup [.lit (.int .i64 (genusT n w s)), .lit (.int .i64 0)]) [] := by
  refine FnAt.of_body tys_ok Try.func24 (by rfl) rfl Try.ntmps24 (by rw [Try.results24]) (by simp) ?_
  
  repeat' (first
 | refine W.seq ?_
 | refine W.block ?_
 | (refine W.region tys_ok [] ?_; conv => whnf)
 | (refine W.drawAll tys_ok [] mixed rfl ?_; conv => whnf)
 | (refine W.ret ?_; conv => whnf)
 | (refine W.skip ?_; conv => whnf)
 | (refine W.exit ?_; conv => whnf)
 | (refine call_at (al := true) (signed_ok h hn hs) rfl rfl rfl rfl ?_; conv => whnf)
 | (refine call_at (al := false) (genus_at h hn hs) rfl rfl rfl rfl ?_; conv => whnf)
 | (refine W.cond rfl (fun hb => ?_) (fun hb => ?_) <;> (try simp only [Int.reduceToNat, Int.reduceTDiv, Int.reduceTMod, minL, maxL, pickB, zHB] at hb) <;> (try (first | (cases hb; done) | exact absurd hb (by decide) | (exfalso; omega))))
 | ((with_reducible refine And.intro ?_ ?_); (focus ((repeat' (first | (with_reducible rfl) | (with_reducible refine And.intro ?_ ?_) | omega | rfl | exact Or.inl rfl | exact Or.inr rfl | exact of_decide_eq_true rfl | exact Path.imp_of (of_decide_eq_true rfl) | (focus ((try simp only [Int.reduceToNat, Int.reduceTDiv, Int.reduceTMod, minL, maxL, pickB, zHB, InK, Path.imp, List.length_replicate, List.length_set, List.length_append, List.length_cons, List.length_nil] at *); omega)) | (refine app_le rfl ?_; omega))); done)); (conv => whnf))
 | ((with_reducible refine And.intro (Side.out ?_) ?_); rotate_left; (conv => whnf))
 | ((first | refine retF1 ?_ | refine retF2 ?_) <;> (conv => whnf) <;> repeat' (first
 | exact trivial
 | (with_reducible rfl)
 | ((with_reducible refine And.intro ?_ ?_) <;> conv => whnf)
 | omega
 | rfl
 | (refine congrArg (SV.arr _) ?_)
 | (refine congrArg (Value.int _) ?_)
 | (refine congrArg Value.bool ?_)))); all_goals (try unfold Side)
  all_goals try (repeat' (first | (with_reducible rfl) | (with_reducible refine And.intro ?_ ?_) | omega | rfl | exact Or.inl rfl | exact Or.inr rfl | exact of_decide_eq_true rfl | exact Path.imp_of (of_decide_eq_true rfl) | (focus ((try simp only [Int.reduceToNat, Int.reduceTDiv, Int.reduceTMod, minL, maxL, pickB, zHB, InK, Path.imp, List.length_replicate, List.length_set, List.length_append, List.length_cons, List.length_nil] at *); omega)) | (refine app_le rfl ?_; omega)))
def whyT (w s : List Int) : Int := if ¬ checkT w = 0 then checkT w else if signsB s (w.length / 2) = true then 0 else 2
theorem whyT_ok {w s : List Int} (h : whyT w s = 0) : ∃ n, Word w n ∧ n ≤ 10 ∧ signsB s n = true := by
  unfold whyT at h
  split at h
  · rename_i h1; exact absurd h h1
  · rename_i h1
    obtain ⟨n, hw, hn⟩ := checkT_ok (Classical.not_not.1 h1)
    have := hw.len
    rw [show w.length / 2 = n by omega] at h
    split at h
    · rename_i h2; exact ⟨n, hw, hn, h2⟩
    · cases h
theorem signed_no {w s : List Int} (h : ¬ whyT w s = 0) (hl : w.length ≤ 1000) (hs : s.length ≤ 1000) : FnAt Try.prog true 47 [.arr (.int .i64) w, .arr (.int .i64) s] (.tup [.lit (.pointer none), .lit (.int .i64 (whyT w s))]) [] := by
  by_cases hc : checkT w = 0
  · obtain ⟨n, hw, hn⟩ := checkT_ok hc
    have hwl := hw.len
    have e : whyT w s = if signsB s n = true then 0 else 2 := by rw [whyT, if_neg (fun h => h hc), show w.length / 2 = n by omega]
    cases hb : signsB s n with
    | true => rw [hb, if_pos rfl] at e; exact absurd e h
    | false =>
      rw [hb, if_neg (by decide)] at e
      rw [e]
      exact signed_form hw hn hb hs
  · have e : whyT w s = checkT w := by rw [whyT, if_pos hc]
    rw [e]
    exact signed_bad hc hl
theorem Faces_no {w s : List Int} (h : ¬ whyT w s = 0) (hl : w.length ≤ 1000) (hs : s.length ≤ 1000) : FnAt Try.prog false 23 [.arr (.int .i64) w, .arr (.int .i64) s] (.tup [.own 0, .lit (.int .i64 (whyT w s))]) [(0, .row 22 (.sl (.int .i64)) true [])] := by
  refine FnAt.of_body tys_ok Try.func23 (by rfl) rfl Try.ntmps23 (by rw [Try.results23]) (by simp) ?_
  
  repeat' (first
 | refine W.seq ?_
 | refine W.block ?_
 | (refine W.region tys_ok [] ?_; conv => whnf)
 | (refine W.drawAll tys_ok [] mixed rfl ?_; conv => whnf)
 | (refine W.ret ?_; conv => whnf)
 | (refine W.skip ?_; conv => whnf)
 | (refine W.exit ?_; conv => whnf)
 | (refine call_at (al := true) (signed_no h hl hs) rfl rfl rfl rfl ?_; conv => whnf)
 | (refine W.cond rfl (fun hb => ?_) (fun hb => ?_) <;> (try simp only [Int.reduceToNat, Int.reduceTDiv, Int.reduceTMod, minL, maxL, pickB, zHB] at hb) <;> (try (first | (cases hb; done) | exact absurd hb (by decide) | (exfalso; omega))))
 | ((with_reducible refine And.intro ?_ ?_); (focus ((repeat' (first | (with_reducible rfl) | (with_reducible refine And.intro ?_ ?_) | omega | rfl | exact Or.inl rfl | exact Or.inr rfl | exact of_decide_eq_true rfl | exact Path.imp_of (of_decide_eq_true rfl) | (focus ((try simp only [Int.reduceToNat, Int.reduceTDiv, Int.reduceTMod, minL, maxL, pickB, zHB, InK, Path.imp, List.length_replicate, List.length_set, List.length_append, List.length_cons, List.length_nil] at *); omega)) | (refine app_le rfl ?_; omega))); done)); (conv => whnf))
 | ((with_reducible refine And.intro (Side.out ?_) ?_); rotate_left; (conv => whnf))
 | ((first | refine retF1 ?_ | refine retF2 ?_) <;> (conv => whnf) <;> repeat' (first
 | exact trivial
 | (with_reducible rfl)
 | ((with_reducible refine And.intro ?_ ?_) <;> conv => whnf)
 | omega
 | rfl
 | (refine congrArg (SV.arr _) ?_)
 | (refine congrArg (Value.int _) ?_)
 | (refine congrArg Value.bool ?_)))); all_goals (try unfold Side)
  all_goals try (repeat' (first | (with_reducible rfl) | (with_reducible refine And.intro ?_ ?_) | omega | rfl | exact Or.inl rfl | exact Or.inr rfl | exact of_decide_eq_true rfl | exact Path.imp_of (of_decide_eq_true rfl) | (focus ((try simp only [Int.reduceToNat, Int.reduceTDiv, Int.reduceTMod, minL, maxL, pickB, zHB, InK, Path.imp, List.length_replicate, List.length_set, List.length_append, List.length_cons, List.length_nil] at *); omega)) | (refine app_le rfl ?_; omega)))
theorem Genus_no {w s : List Int} (h : ¬ whyT w s = 0) (hl : w.length ≤ 1000) (hs : s.length ≤ 1000) : FnAt Try.prog false 24 [.arr (.int .i64) w, .arr (.int .i64) s] (.tup [.lit (.int .i64 0), .lit (.int .i64 (whyT w s))]) [] := by
  refine FnAt.of_body tys_ok Try.func24 (by rfl) rfl Try.ntmps24 (by rw [Try.results24]) (by simp) ?_
  
  repeat' (first
 | refine W.seq ?_
 | refine W.block ?_
 | (refine W.region tys_ok [] ?_; conv => whnf)
 | (refine W.drawAll tys_ok [] mixed rfl ?_; conv => whnf)
 | (refine W.ret ?_; conv => whnf)
 | (refine W.skip ?_; conv => whnf)
 | (refine W.exit ?_; conv => whnf)
 | (refine call_at (al := true) (signed_no h hl hs) rfl rfl rfl rfl ?_; conv => whnf)
 | (refine W.cond rfl (fun hb => ?_) (fun hb => ?_) <;> (try simp only [Int.reduceToNat, Int.reduceTDiv, Int.reduceTMod, minL, maxL, pickB, zHB] at hb) <;> (try (first | (cases hb; done) | exact absurd hb (by decide) | (exfalso; omega))))
 | ((with_reducible refine And.intro ?_ ?_); (focus ((repeat' (first | (with_reducible rfl) | (with_reducible refine And.intro ?_ ?_) | omega | rfl | exact Or.inl rfl | exact Or.inr rfl | exact of_decide_eq_true rfl | exact Path.imp_of (of_decide_eq_true rfl) | (focus ((try simp only [Int.reduceToNat, Int.reduceTDiv, Int.reduceTMod, minL, maxL, pickB, zHB, InK, Path.imp, List.length_replicate, List.length_set, List.length_append, List.length_cons, List.length_nil] at *); omega)) | (refine app_le rfl ?_; omega))); done)); (conv => whnf))
 | ((with_reducible refine And.intro (Side.out ?_) ?_); rotate_left; (conv => whnf))
 | ((first | refine retF1 ?_ | refine retF2 ?_) <;> (conv => whnf) <;> repeat' (first
 | exact trivial
 | (with_reducible rfl)
 | ((with_reducible refine And.intro ?_ ?_) <;> conv => whnf)
 | omega
 | rfl
 | (refine congrArg (SV.arr _) ?_)
 | (refine congrArg (Value.int _) ?_)
 | (refine congrArg Value.bool ?_)))); all_goals (try unfold Side)
  all_goals try (repeat' (first | (with_reducible rfl) | (with_reducible refine And.intro ?_ ?_) | omega | rfl | exact Or.inl rfl | exact Or.inr rfl | exact of_decide_eq_true rfl | exact Path.imp_of (of_decide_eq_true rfl) | (focus ((try simp only [Int.reduceToNat, Int.reduceTDiv, Int.reduceTMod, minL, maxL, pickB, zHB, InK, Path.imp, List.length_replicate, List.length_set, List.length_append, List.length_cons, List.length_nil] at *); omega)) | (refine app_le rfl ?_; omega)))
theorem why_at (w s : List Int) (hl : w.length ≤ 1000) (hs : s.length ≤ 1000) : FnAt Try.prog false 25 [.arr (.int .i64) w, .arr (.int .i64) s] (.lit (.int .i64 (whyT w s))) [] := by
  have hd : Int.tdiv (@List.length (Ty.int .i64).T w) 2 = (w.length / 2 : Nat) := by
    show Int.tdiv (w.length : Int) 2 = _
    rw [Int.tdiv_eq_ediv_of_nonneg (by omega)]; omega
  have hsg := signs_ref s (w.length / 2) hs
  rw [← hd] at hsg
  have hck := check_at w hl
  have e1 : ¬ checkT w = 0 → whyT w s = checkT w := fun h => by rw [whyT, if_pos h]
  have e2 : checkT w = 0 → signsB s (w.length / 2) = true → whyT w s = 0 := fun h h2 => by rw [whyT, if_neg (fun h' => h' h), if_pos h2]
  have e3 : checkT w = 0 → signsB s (w.length / 2) = false → whyT w s = 2 := fun h h2 => by rw [whyT, if_neg (fun h' => h' h), if_neg (by rw [h2]; decide)]
  refine FnAt.of_body tys_ok Try.func25 (by rfl) rfl Try.ntmps25 (by rw [Try.results25]) (by simp) ?_
  
  repeat' (first
 | refine W.seq ?_
 | refine W.block ?_
 | (refine W.region tys_ok [] ?_; conv => whnf)
 | (refine W.drawAll tys_ok [] mixed rfl ?_; conv => whnf)
 | (refine W.ret ?_; conv => whnf)
 | (refine W.skip ?_; conv => whnf)
 | (refine W.exit ?_; conv => whnf)
 | (refine call_at (al := false) (check_at w hl) rfl rfl rfl rfl ?_; conv => whnf)
 | (refine call_at (al := false) (hsg) rfl rfl rfl rfl ?_; conv => whnf)
 | (refine W.cond rfl (fun hb => ?_) (fun hb => ?_) <;> (try simp only [Int.reduceToNat, Int.reduceTDiv, Int.reduceTMod, minL, maxL, pickB, zHB] at hb) <;> (try (first | (cases hb; done) | exact absurd hb (by decide) | (exfalso; omega))))
 | ((with_reducible refine And.intro ?_ ?_); (focus ((repeat' (first | (with_reducible rfl) | (with_reducible refine And.intro ?_ ?_) | omega | rfl | exact Or.inl rfl | exact Or.inr rfl | exact of_decide_eq_true rfl | exact Path.imp_of (of_decide_eq_true rfl) | (focus ((try simp only [Int.reduceToNat, Int.reduceTDiv, Int.reduceTMod, minL, maxL, pickB, zHB, InK, Path.imp, List.length_replicate, List.length_set, List.length_append, List.length_cons, List.length_nil] at *); omega)) | (refine app_le rfl ?_; omega))); done)); (conv => whnf))
 | ((with_reducible refine And.intro (Side.out ?_) ?_); rotate_left; (conv => whnf))
 | ((first | refine retF1 ?_ | refine retF2 ?_) <;> (conv => whnf) <;> repeat' (first
 | exact trivial
 | (with_reducible rfl)
 | ((with_reducible refine And.intro ?_ ?_) <;> conv => whnf)
 | omega
 | rfl
 | (refine congrArg (SV.arr _) ?_)
 | (refine congrArg (Value.int _) ?_)
 | (refine congrArg Value.bool ?_)))); all_goals (try unfold Side)
  all_goals try (repeat' (first | (with_reducible rfl) | (with_reducible refine And.intro ?_ ?_) | omega | rfl | exact Or.inl rfl | exact Or.inr rfl | exact of_decide_eq_true rfl | exact Path.imp_of (of_decide_eq_true rfl) | (focus ((try simp only [Int.reduceToNat, Int.reduceTDiv, Int.reduceTMod, minL, maxL, pickB, zHB, InK, Path.imp, List.length_replicate, List.length_set, List.length_append, List.length_cons, List.length_nil] at *); omega)) | (refine app_le rfl ?_; omega)))
  · exact (e3 (by assumption) hb).symm
  · exact (e2 (by assumption) hb).symm
end Go.Proofs.Ytdfajcfkdfjoeaa
namespace Go.Proofs.Ytdfajcfkdfjoeaa
open Go Go.Vc Go.Scr
set_option linter.unusedVariables false
set_option linter.unusedSimpArgs false
theorem sgT_signs {n k : Nat} : signsB (sgT n k) n = true := by
  rw [signsB, sgT_len, show sgnB (sgT n k) = true from sgT_all]; simp
theorem leastK_rg {n : Nat} {w : List Int} (hn : n ≤ 10) : ∀ k, -100 ≤ (leastK n w k).1 ∧ (leastK n w k).1 ≤ 100
  | 0 => by simp [leastK]
  | k + 1 => by
    rw [leastK]
    split
    · exact (genus_rg hn).2
    · exact leastK_rg hn k
theorem pow_le {n : Nat} (hn : n ≤ 10) : 1 ≤ 2 ^ n ∧ 2 ^ n ≤ 1024 := ⟨Nat.one_le_two_pow, Nat.pow_le_pow_right (by omega) hn⟩
theorem toNat_sub' {n i : Nat} (h : i < n) : ((n : Int) - 1 - i).toNat = n - 1 - i := by omega
theorem sgp {n k i N : Nat} (hN : N = 2 ^ n) (hk : k < N) (hi : i < n) (hn : n ≤ 10) : ∃ e : Int, ((((N : Int) - 1 - k) / 2 ^ ((n : Int) - 1 - i).toNat).toNat &&& Int.toNat 1 : Nat) = e ∧ 0 ≤ e ∧ e ≤ 1 ∧ e * 2 - 1 = sgAt n k i ∧
    (0 ≤ (n : Int) - 1 - i ∧ ((n : Int) - 1 - i).toNat ≤ IntKind.i64.bits) ∧ (0 ≤ ((N : Int) - 1 - k) / 2 ^ ((n : Int) - 1 - i).toNat ∧ (0 : Int) ≤ 1 ∧ InK .i64 (((N : Int) - 1 - k) / 2 ^ ((n : Int) - 1 - i).toNat) ∧ InK .i64 1) := by
  have hb := pow_le hn
  have h1 : ((n : Int) - 1 - i).toNat = n - 1 - i := by omega
  have h2 : ((N : Int) - 1 - k) / 2 ^ (n - 1 - i) = (((N - 1 - k) / 2 ^ (n - 1 - i) : Nat) : Int) := by
    rw [show (N : Int) - 1 - k = ((N - 1 - k : Nat) : Int) by omega]; norm_cast
  have h3 : (N - 1 - k) / 2 ^ (n - 1 - i) ≤ 1024 := Nat.le_trans (Nat.div_le_self _ _) (by omega)
  subst hN
  have h4 := sg_prog hk hi
  rw [h1, h2, Int.toNat_natCast]
  have h5 : ((2 ^ n - 1 - k) / 2 ^ (n - 1 - i)) &&& Int.toNat 1 ≤ 1 := by
    show _ &&& 1 ≤ 1
    rw [Nat.and_one_is_mod]; omega
  obtain ⟨Q, hQ⟩ : ∃ Q : Nat, Q = (2 ^ n - 1 - k) / 2 ^ (n - 1 - i) := ⟨_, rfl⟩
  rw [← hQ] at h3 h4 h5 ⊢
  refine ⟨_, rfl, by omega, by exact_mod_cast h5, h4, ⟨by omega, by show _ ≤ 64; omega⟩, by omega, by omega, ?_, by simp [InK]⟩
  simp only [InK]; omega
set_option maxHeartbeats 4000000 in
theorem least_at {w : List Int} {n : Nat} (h : Word w n) (hn : n ≤ 10) : FnAt Try.prog false 45 [curveT n w] (.tup [.lit (.int .i64 (leastT n w).1), .st true (.arr (.int .i64) (leastT n w).2)]) [] := by
  have hp := h.pos
  obtain ⟨N, hN⟩ : ∃ N : Nat, N = 2 ^ n := ⟨_, rfl⟩
  have hNb := pow_le hn
  rw [← hN] at hNb
  have hNi : (1 : Int) * 2 ^ (n : Int).toNat = (N : Int) := by rw [hN, Int.toNat_natCast, Int.one_mul]; norm_cast
  have hg := fun k => genus_at h hn (sgT_signs (n := n) (k := k))
  have hrg := fun k => genus_rg (w := w) (s := sgT n k) hn
  obtain ⟨L, hL⟩ : ∃ L : Nat → Int × List Int, L = leastK n w := ⟨_, rfl⟩
  have hLT : L N = leastT n w := by rw [hL, hN]; rfl
  have hL0 : L 0 = (0, []) := by rw [hL]; rfl
  have hLy : ∀ k, (L k).2 = [] ∨ genusT n w (sgT n k) < (L k).1 → L (k + 1) = (genusT n w (sgT n k), sgT n k) := by rw [hL]; exact fun k => leastK_yes
  have hLn : ∀ k, ¬ ((L k).2 = [] ∨ genusT n w (sgT n k) < (L k).1) → L (k + 1) = L k := by rw [hL]; exact fun k => leastK_no
  rw [← hLT]
  clear hL hLT
  have hsh : 0 ≤ (n : Int) ∧ (n : Int).toNat ≤ IntKind.i64.bits ∧ InK .i64 (1 * 2 ^ (n : Int).toNat) := ⟨by omega, by show _ ≤ 64; omega, by rw [hNi]; simp only [InK]; omega⟩
  refine FnAt.of_body tys_ok Try.func45 (by rfl) rfl Try.ntmps45 (by rw [Try.results45]) (by simp) ?_
  
  repeat' (first
 | refine W.seq ?_
 | refine W.block ?_
 | (refine W.region tys_ok [] ?_; conv => whnf)
 | (refine W.drawAll tys_ok [] mixed rfl ?_; conv => whnf)
 | (refine W.ret ?_; conv => whnf)
 | (refine W.skip ?_; conv => whnf)
 | (refine W.exit ?_; conv => whnf)
 | (refine W.cond rfl (fun hb => ?_) (fun hb => ?_) <;> (try simp only [Int.reduceToNat, Int.reduceTDiv, Int.reduceTMod, minL, maxL, pickB, zHB] at hb) <;> (try (first | (cases hb; done) | exact absurd hb (by decide) | (exfalso; omega))))
 | ((with_reducible refine And.intro ?_ ?_); (focus ((repeat' (first | (with_reducible rfl) | (with_reducible refine And.intro ?_ ?_) | omega | rfl | exact Or.inl rfl | exact Or.inr rfl | exact of_decide_eq_true rfl | exact Path.imp_of (of_decide_eq_true rfl) | (focus ((try simp only [Int.reduceToNat, Int.reduceTDiv, Int.reduceTMod, minL, maxL, pickB, zHB, InK, Path.imp, List.length_replicate, List.length_set, List.length_append, List.length_cons, List.length_nil] at *); omega)) | (refine app_le rfl ?_; omega))); done)); (conv => whnf))
 | ((with_reducible refine And.intro (Side.out ?_) ?_); rotate_left; (conv => whnf))
 | ((first | refine retF1 ?_ | refine retF2 ?_) <;> (conv => whnf) <;> repeat' (first
 | exact trivial
 | (with_reducible rfl)
 | ((with_reducible refine And.intro ?_ ?_) <;> conv => whnf)
 | omega
 | rfl
 | (refine congrArg (SV.arr _) ?_)
 | (refine congrArg (Value.int _) ?_)
 | (refine congrArg Value.bool ?_)))); all_goals (try unfold Side)
  all_goals try exact Path.imp_of hsh
  all_goals try (repeat' (first | (with_reducible rfl) | (with_reducible refine And.intro ?_ ?_) | omega | rfl | exact Or.inl rfl | exact Or.inr rfl | exact of_decide_eq_true rfl | exact Path.imp_of (of_decide_eq_true rfl) | (focus ((try simp only [Int.reduceToNat, Int.reduceTDiv, Int.reduceTMod, minL, maxL, pickB, zHB, InK, Path.imp, List.length_replicate, List.length_set, List.length_append, List.length_cons, List.length_nil] at *); omega)) | (refine app_le rfl ?_; omega)))
  refine W.loop (fun k : Nat => ⟨[(0, .st false (curveT n w)), (4, .st true (.narr (.int .i64) ((L k).2 : List Int))), (5, .lit (.int .i64 ((L k).1))), (6, .lit (.int .i64 ((N : Int) - 1 - k)))], []⟩) (fun k => k ≤ N) (fun k => N - k) (0) ?_ ?_
  · refine ⟨Nat.zero_le _, ?_⟩
    refine subF.ok ?_ <;> (conv => whnf) <;> repeat' (first
 | exact trivial
 | (with_reducible rfl)
 | ((with_reducible refine And.intro ?_ ?_) <;> conv => whnf)
 | omega
 | rfl
 | (refine congrArg (SV.arr _) ?_)
 | (refine congrArg (Value.int _) ?_)
 | (refine congrArg Value.bool ?_))
    all_goals first | exact congrArg Prod.snd hL0 | exact (congrArg Prod.fst hL0).symm | (rw [hNi]; omega)
  · intro k hk
    by_cases hil : k < N
    · repeat' (first
 | refine W.seq ?_
 | refine W.block ?_
 | (refine W.region tys_ok [] ?_; conv => whnf)
 | (refine W.drawAll tys_ok [] mixed rfl ?_; conv => whnf)
 | (refine W.ret ?_; conv => whnf)
 | (refine W.skip ?_; conv => whnf)
 | (refine W.exit ?_; conv => whnf)
 | (refine W.cond rfl (fun hb => ?_) (fun hb => ?_) <;> (try simp only [Int.reduceToNat, Int.reduceTDiv, Int.reduceTMod, minL, maxL, pickB, zHB] at hb) <;> (try (first | (cases hb; done) | exact absurd hb (by decide) | (exfalso; omega))))
 | ((with_reducible refine And.intro ?_ ?_); (focus ((repeat' (first | (with_reducible rfl) | (with_reducible refine And.intro ?_ ?_) | omega | rfl | exact Or.inl rfl | exact Or.inr rfl | exact of_decide_eq_true rfl | exact Path.imp_of (of_decide_eq_true rfl) | (focus ((try simp only [Int.reduceToNat, Int.reduceTDiv, Int.reduceTMod, minL, maxL, pickB, zHB, InK, Path.imp, List.length_replicate, List.length_set, List.length_append, List.length_cons, List.length_nil] at *); omega)) | (refine app_le rfl ?_; omega))); done)); (conv => whnf))
 | ((with_reducible refine And.intro (Side.out ?_) ?_); rotate_left; (conv => whnf))
 | ((first | refine retF1 ?_ | refine retF2 ?_) <;> (conv => whnf) <;> repeat' (first
 | exact trivial
 | (with_reducible rfl)
 | ((with_reducible refine And.intro ?_ ?_) <;> conv => whnf)
 | omega
 | rfl
 | (refine congrArg (SV.arr _) ?_)
 | (refine congrArg (Value.int _) ?_)
 | (refine congrArg Value.bool ?_)))); all_goals (try unfold Side)
      all_goals try (repeat' (first | (with_reducible rfl) | (with_reducible refine And.intro ?_ ?_) | omega | rfl | exact Or.inl rfl | exact Or.inr rfl | exact of_decide_eq_true rfl | exact Path.imp_of (of_decide_eq_true rfl) | (focus ((try simp only [Int.reduceToNat, Int.reduceTDiv, Int.reduceTMod, minL, maxL, pickB, zHB, InK, Path.imp, List.length_replicate, List.length_set, List.length_append, List.length_cons, List.length_nil] at *); omega)) | (refine app_le rfl ?_; omega)))
      refine W.loop (fun i : Nat => ⟨[(0, .st false (curveT n w)), (4, .st true (.narr (.int .i64) ((L k).2 : List Int))), (5, .lit (.int .i64 ((L k).1))), (6, .lit (.int .i64 ((N : Int) - 1 - k))), (7, .own 900007), (23, .lit (.int .i64 (n))), (24, .lit (.int .i64 (i)))], [(900007, .row 3 (.int .i64) true ((sgT n k).take i : List Int))]⟩) (fun i => i ≤ n) (fun i => n - i) (0) ?_ ?_
      · refine ⟨Nat.zero_le _, ?_⟩
        refine subF.ok ?_ <;> (conv => whnf) <;> repeat' (first
 | exact trivial
 | (with_reducible rfl)
 | ((with_reducible refine And.intro ?_ ?_) <;> conv => whnf)
 | omega
 | rfl
 | (refine congrArg (SV.arr _) ?_)
 | (refine congrArg (Value.int _) ?_)
 | (refine congrArg Value.bool ?_))
      · intro i hi
        have hsl : @List.length (Ty.int .i64).T ((sgT n k).take i) ≤ i := by
          show ((sgT n k).take i).length ≤ i
          rw [List.length_take]; omega
        by_cases hin : i < n
        · obtain ⟨e, f0, f1, f2, f3, f4, f5⟩ := sgp hN hil hin hn
          have htk' : (sgT n k).take i ++ [(((((N : Int) - 1 - k) / 2 ^ ((n : Int) - 1 - i).toNat).toNat &&& Int.toNat 1 : Nat) : Int) * 2 - 1] = (sgT n k).take (i + 1) := by rw [sgT_take hin, f0, f3]
          repeat' (first
 | refine W.seq ?_
 | refine W.block ?_
 | (refine W.region tys_ok [] ?_; conv => whnf)
 | (refine W.drawAll tys_ok [] mixed rfl ?_; conv => whnf)
 | (refine W.ret ?_; conv => whnf)
 | (refine W.skip ?_; conv => whnf)
 | (refine W.exit ?_; conv => whnf)
 | (refine W.cond rfl (fun hb => ?_) (fun hb => ?_) <;> (try simp only [Int.reduceToNat, Int.reduceTDiv, Int.reduceTMod, minL, maxL, pickB, zHB] at hb) <;> (try (first | (cases hb; done) | exact absurd hb (by decide) | (exfalso; omega))))
 | ((with_reducible refine And.intro ?_ ?_); (focus ((repeat' (first | (with_reducible rfl) | (with_reducible refine And.intro ?_ ?_) | omega | rfl | exact Or.inl rfl | exact Or.inr rfl | exact of_decide_eq_true rfl | exact Path.imp_of (of_decide_eq_true rfl) | (focus ((try simp only [Int.reduceToNat, Int.reduceTDiv, Int.reduceTMod, minL, maxL, pickB, zHB, InK, Path.imp, List.length_replicate, List.length_set, List.length_append, List.length_cons, List.length_nil] at *); omega)) | (refine app_le rfl ?_; omega))); done)); (conv => whnf))
 | ((with_reducible refine And.intro (Side.out ?_) ?_); rotate_left; (conv => whnf))
 | ((first | refine retF1 ?_ | refine retF2 ?_) <;> (conv => whnf) <;> repeat' (first
 | exact trivial
 | (with_reducible rfl)
 | ((with_reducible refine And.intro ?_ ?_) <;> conv => whnf)
 | omega
 | rfl
 | (refine congrArg (SV.arr _) ?_)
 | (refine congrArg (Value.int _) ?_)
 | (refine congrArg Value.bool ?_)))); all_goals (try unfold Side)
          all_goals try exact Path.imp_of f4
          all_goals try exact Path.imp_of f5
          all_goals try exact app_le rfl (Nat.le_trans (Nat.succ_le_succ hsl) (by omega))
          all_goals try (rw [f0])
          all_goals try (repeat' (first | (with_reducible rfl) | (with_reducible refine And.intro ?_ ?_) | omega | rfl | exact Or.inl rfl | exact Or.inr rfl | exact of_decide_eq_true rfl | exact Path.imp_of (of_decide_eq_true rfl) | (focus ((try simp only [Int.reduceToNat, Int.reduceTDiv, Int.reduceTMod, minL, maxL, pickB, zHB, InK, Path.imp, List.length_replicate, List.length_set, List.length_append, List.length_cons, List.length_nil] at *); omega)) | (refine app_le rfl ?_; omega)))
          refine ⟨i + 1, ⟨by omega, by omega⟩, ?_⟩
          refine subF.ok ?_ <;> (conv => whnf) <;> repeat' (first
 | exact trivial
 | (with_reducible rfl)
 | ((with_reducible refine And.intro ?_ ?_) <;> conv => whnf)
 | omega
 | rfl
 | (refine congrArg (SV.arr _) ?_)
 | (refine congrArg (Value.int _) ?_)
 | (refine congrArg Value.bool ?_))
          all_goals first | exact htk' | (refine Eq.trans ?_ htk'; rw [f0]; rfl)
        · have hie : n = i := by omega
          subst hie
          have hta : (sgT n k).take n = sgT n k := List.take_of_length_le (Nat.le_of_eq sgT_len)
          have hgk := hg k
          have hne : ∀ x : List Int, x = sgT n k → x ≠ [] := fun x e h0 => by
            have := sgT_len (n := n) (k := k)
            rw [← e, h0] at this; simp at this; omega
          repeat' (first
 | refine W.seq ?_
 | refine W.block ?_
 | (refine W.resub (x := Code.region 12 _ _) (Γ' := ⟨[(0, .st false (curveT n w)), (4, .st true (.narr (.int .i64) ((L k).2 : List Int))), (5, .lit (.int .i64 ((L k).1))), (6, .lit (.int .i64 ((N : Int) - 1 - k))), (7, .st true (.arr (.int .i64) (sgT n k : List Int)))], []⟩) ?_ (W.region tys_ok [] ?_); rotate_left; (conv => whnf))
 | (refine W.region tys_ok [] ?_; conv => whnf)
 | (refine W.drawAll tys_ok [] mixed rfl ?_; conv => whnf)
 | (refine W.ret ?_; conv => whnf)
 | (refine W.skip ?_; conv => whnf)
 | (refine W.exit ?_; conv => whnf)
 | (refine call_at (al := false) (hgk) rfl rfl rfl rfl ?_; conv => whnf)
 | (refine W.cond rfl (fun hb => ?_) (fun hb => ?_) <;> (try simp only [Int.reduceToNat, Int.reduceTDiv, Int.reduceTMod, minL, maxL, pickB, zHB] at hb) <;> (try (first | (cases hb; done) | exact absurd hb (by decide) | (exfalso; omega))))
 | ((with_reducible refine And.intro ?_ ?_); (focus ((repeat' (first | (with_reducible rfl) | (with_reducible refine And.intro ?_ ?_) | omega | rfl | exact Or.inl rfl | exact Or.inr rfl | exact of_decide_eq_true rfl | exact Path.imp_of (of_decide_eq_true rfl) | (focus ((try simp only [Int.reduceToNat, Int.reduceTDiv, Int.reduceTMod, minL, maxL, pickB, zHB, InK, Path.imp, List.length_replicate, List.length_set, List.length_append, List.length_cons, List.length_nil] at *); omega)) | (refine app_le rfl ?_; omega))); done)); (conv => whnf))
 | ((with_reducible refine And.intro (Side.out ?_) ?_); rotate_left; (conv => whnf))
 | ((first | refine retF1 ?_ | refine retF2 ?_) <;> (conv => whnf) <;> repeat' (first
 | exact trivial
 | (with_reducible rfl)
 | ((with_reducible refine And.intro ?_ ?_) <;> conv => whnf)
 | omega
 | rfl
 | (refine congrArg (SV.arr _) ?_)
 | (refine congrArg (Value.int _) ?_)
 | (refine congrArg Value.bool ?_)))); all_goals (try unfold Side)
          all_goals try (repeat' (first | (with_reducible rfl) | (with_reducible refine And.intro ?_ ?_) | omega | rfl | exact Or.inl rfl | exact Or.inr rfl | exact of_decide_eq_true rfl | exact Path.imp_of (of_decide_eq_true rfl) | (focus ((try simp only [Int.reduceToNat, Int.reduceTDiv, Int.reduceTMod, minL, maxL, pickB, zHB, InK, Path.imp, List.length_replicate, List.length_set, List.length_append, List.length_cons, List.length_nil] at *); omega)) | (refine app_le rfl ?_; omega)))
          · refine ⟨k + 1, ⟨by omega, by omega⟩, ?_⟩
            rw [hLy k (hb.imp (fun h => List.isEmpty_iff.1 h) id)]
            refine subF.ok ?_ <;> (conv => whnf) <;> repeat' (first
 | exact trivial
 | (with_reducible rfl)
 | ((with_reducible refine And.intro ?_ ?_) <;> conv => whnf)
 | omega
 | rfl
 | (refine congrArg (SV.arr _) ?_)
 | (refine congrArg (Value.int _) ?_)
 | (refine congrArg Value.bool ?_))
            all_goals exact hne _ rfl
          · refine ⟨k + 1, ⟨by omega, by omega⟩, ?_⟩
            rw [hLn k (fun h => h.elim (fun h => by rw [h] at hb; exact absurd hb.1 (by decide)) hb.2)]
            refine subF.ok ?_ <;> (conv => whnf) <;> repeat' (first
 | exact trivial
 | (with_reducible rfl)
 | ((with_reducible refine And.intro ?_ ?_) <;> conv => whnf)
 | omega
 | rfl
 | (refine congrArg (SV.arr _) ?_)
 | (refine congrArg (Value.int _) ?_)
 | (refine congrArg Value.bool ?_))
          · refine subF.ok ?_ <;> (conv => whnf) <;> repeat' (first
 | exact trivial
 | (with_reducible rfl)
 | ((with_reducible refine And.intro ?_ ?_) <;> conv => whnf)
 | omega
 | rfl
 | (refine congrArg (SV.arr _) ?_)
 | (refine congrArg (Value.int _) ?_)
 | (refine congrArg Value.bool ?_))
            all_goals exact hta
    · have hie : N = k := by omega
      subst hie
      repeat' (first
 | refine W.seq ?_
 | refine W.block ?_
 | (refine W.region tys_ok [] ?_; conv => whnf)
 | (refine W.drawAll tys_ok [] mixed rfl ?_; conv => whnf)
 | (refine W.ret ?_; conv => whnf)
 | (refine W.skip ?_; conv => whnf)
 | (refine W.exit ?_; conv => whnf)
 | (refine W.cond rfl (fun hb => ?_) (fun hb => ?_) <;> (try simp only [Int.reduceToNat, Int.reduceTDiv, Int.reduceTMod, minL, maxL, pickB, zHB] at hb) <;> (try (first | (cases hb; done) | exact absurd hb (by decide) | (exfalso; omega))))
 | ((with_reducible refine And.intro ?_ ?_); (focus ((repeat' (first | (with_reducible rfl) | (with_reducible refine And.intro ?_ ?_) | omega | rfl | exact Or.inl rfl | exact Or.inr rfl | exact of_decide_eq_true rfl | exact Path.imp_of (of_decide_eq_true rfl) | (focus ((try simp only [Int.reduceToNat, Int.reduceTDiv, Int.reduceTMod, minL, maxL, pickB, zHB, InK, Path.imp, List.length_replicate, List.length_set, List.length_append, List.length_cons, List.length_nil] at *); omega)) | (refine app_le rfl ?_; omega))); done)); (conv => whnf))
 | ((with_reducible refine And.intro (Side.out ?_) ?_); rotate_left; (conv => whnf))
 | ((first | refine retF1 ?_ | refine retF2 ?_) <;> (conv => whnf) <;> repeat' (first
 | exact trivial
 | (with_reducible rfl)
 | ((with_reducible refine And.intro ?_ ?_) <;> conv => whnf)
 | omega
 | rfl
 | (refine congrArg (SV.arr _) ?_)
 | (refine congrArg (Value.int _) ?_)
 | (refine congrArg Value.bool ?_)))); all_goals (try unfold Side)
      all_goals try (repeat' (first | (with_reducible rfl) | (with_reducible refine And.intro ?_ ?_) | omega | rfl | exact Or.inl rfl | exact Or.inr rfl | exact of_decide_eq_true rfl | exact Path.imp_of (of_decide_eq_true rfl) | (focus ((try simp only [Int.reduceToNat, Int.reduceTDiv, Int.reduceTMod, minL, maxL, pickB, zHB, InK, Path.imp, List.length_replicate, List.length_set, List.length_append, List.length_cons, List.length_nil] at *); omega)) | (refine app_le rfl ?_; omega)))
end Go.Proofs.Ytdfajcfkdfjoeaa
namespace Go.Proofs.Ytdfajcfkdfjoeaa
open Go Go.Vc Go.Scr
set_option linter.unusedVariables false
set_option linter.unusedSimpArgs false
theorem Least_ok {w : List Int} {n : Nat} (h : Word w n) (hn : n ≤ 10) : FnAt Try.prog false 21 [.arr (.int .i64) w] (.tup [.lit (.int .i64 (leastT n w).1), .st true (.arr (.int .i64) (leastT n w).2), .lit (.int .i64 0)]) [] := by
  refine FnAt.of_body tys_ok Try.func21 (by rfl) rfl Try.ntmps21 (by rw [Try.results21]) (by simp) ?_
  
  repeat' (first
 | refine W.seq ?_
 | refine W.block ?_
 | (refine W.region tys_ok [] ?_; conv => whnf)
 | (refine W.drawAll tys_ok [] mixed rfl ?_; conv => whnf)
 | (refine W.ret ?_; conv => whnf)
 | (refine W.skip ?_; conv => whnf)
 | (refine W.exit ?_; conv => whnf)
 | (refine call_at (al := true) (read_ok h hn) rfl rfl rfl rfl ?_; conv => whnf)
 | (refine call_at (al := false) (least_at h hn) rfl rfl rfl rfl ?_; conv => whnf)
 | (refine W.cond rfl (fun hb => ?_) (fun hb => ?_) <;> (try simp only [Int.reduceToNat, Int.reduceTDiv, Int.reduceTMod, minL, maxL, pickB, zHB] at hb) <;> (try (first | (cases hb; done) | exact absurd hb (by decide) | (exfalso; omega))))
 | ((with_reducible refine And.intro ?_ ?_); (focus ((repeat' (first | (with_reducible rfl) | (with_reducible refine And.intro ?_ ?_) | omega | rfl | exact Or.inl rfl | exact Or.inr rfl | exact of_decide_eq_true rfl | exact Path.imp_of (of_decide_eq_true rfl) | (focus ((try simp only [Int.reduceToNat, Int.reduceTDiv, Int.reduceTMod, minL, maxL, pickB, zHB, InK, Path.imp, List.length_replicate, List.length_set, List.length_append, List.length_cons, List.length_nil] at *); omega)) | (refine app_le rfl ?_; omega))); done)); (conv => whnf))
 | ((with_reducible refine And.intro (Side.out ?_) ?_); rotate_left; (conv => whnf))
 | ((first | refine retF1 ?_ | refine retF2 ?_) <;> (conv => whnf) <;> repeat' (first
 | exact trivial
 | (with_reducible rfl)
 | ((with_reducible refine And.intro ?_ ?_) <;> conv => whnf)
 | omega
 | rfl
 | (refine congrArg (SV.arr _) ?_)
 | (refine congrArg (Value.int _) ?_)
 | (refine congrArg Value.bool ?_)))); all_goals (try unfold Side)
  all_goals try (repeat' (first | (with_reducible rfl) | (with_reducible refine And.intro ?_ ?_) | omega | rfl | exact Or.inl rfl | exact Or.inr rfl | exact of_decide_eq_true rfl | exact Path.imp_of (of_decide_eq_true rfl) | (focus ((try simp only [Int.reduceToNat, Int.reduceTDiv, Int.reduceTMod, minL, maxL, pickB, zHB, InK, Path.imp, List.length_replicate, List.length_set, List.length_append, List.length_cons, List.length_nil] at *); omega)) | (refine app_le rfl ?_; omega)))
theorem Least_no {w : List Int} (h : ¬ checkT w = 0) (hl : w.length ≤ 1000) : FnAt Try.prog false 21 [.arr (.int .i64) w] (.tup [.lit (.int .i64 0), .own 0, .lit (.int .i64 (checkT w))]) [(0, .row 3 (.int .i64) true [])] := by
  refine FnAt.of_body tys_ok Try.func21 (by rfl) rfl Try.ntmps21 (by rw [Try.results21]) (by simp) ?_
  
  repeat' (first
 | refine W.seq ?_
 | refine W.block ?_
 | (refine W.region tys_ok [] ?_; conv => whnf)
 | (refine W.drawAll tys_ok [] mixed rfl ?_; conv => whnf)
 | (refine W.ret ?_; conv => whnf)
 | (refine W.skip ?_; conv => whnf)
 | (refine W.exit ?_; conv => whnf)
 | (refine call_at (al := true) (read_bad h hl) rfl rfl rfl rfl ?_; conv => whnf)
 | (refine W.cond rfl (fun hb => ?_) (fun hb => ?_) <;> (try simp only [Int.reduceToNat, Int.reduceTDiv, Int.reduceTMod, minL, maxL, pickB, zHB] at hb) <;> (try (first | (cases hb; done) | exact absurd hb (by decide) | (exfalso; omega))))
 | ((with_reducible refine And.intro ?_ ?_); (focus ((repeat' (first | (with_reducible rfl) | (with_reducible refine And.intro ?_ ?_) | omega | rfl | exact Or.inl rfl | exact Or.inr rfl | exact of_decide_eq_true rfl | exact Path.imp_of (of_decide_eq_true rfl) | (focus ((try simp only [Int.reduceToNat, Int.reduceTDiv, Int.reduceTMod, minL, maxL, pickB, zHB, InK, Path.imp, List.length_replicate, List.length_set, List.length_append, List.length_cons, List.length_nil] at *); omega)) | (refine app_le rfl ?_; omega))); done)); (conv => whnf))
 | ((with_reducible refine And.intro (Side.out ?_) ?_); rotate_left; (conv => whnf))
 | ((first | refine retF1 ?_ | refine retF2 ?_) <;> (conv => whnf) <;> repeat' (first
 | exact trivial
 | (with_reducible rfl)
 | ((with_reducible refine And.intro ?_ ?_) <;> conv => whnf)
 | omega
 | rfl
 | (refine congrArg (SV.arr _) ?_)
 | (refine congrArg (Value.int _) ?_)
 | (refine congrArg Value.bool ?_)))); all_goals (try unfold Side)
  all_goals try (repeat' (first | (with_reducible rfl) | (with_reducible refine And.intro ?_ ?_) | omega | rfl | exact Or.inl rfl | exact Or.inr rfl | exact of_decide_eq_true rfl | exact Path.imp_of (of_decide_eq_true rfl) | (focus ((try simp only [Int.reduceToNat, Int.reduceTDiv, Int.reduceTMod, minL, maxL, pickB, zHB, InK, Path.imp, List.length_replicate, List.length_set, List.length_append, List.length_cons, List.length_nil] at *); omega)) | (refine app_le rfl ?_; omega)))
theorem Plane_ok {w : List Int} {n : Nat} (h : Word w n) (hn : n ≤ 10) (hg : (leastT n w).1 = 0) : FnAt Try.prog false 16 [.arr (.int .i64) w] (.tup [.st true (.arr (.int .i64) (leastT n w).2), .lit (.int .i64 0)]) [] := by
  refine FnAt.of_body tys_ok Try.func16 (by rfl) rfl Try.ntmps16 (by rw [Try.results16]) (by simp) ?_
  
  repeat' (first
 | refine W.seq ?_
 | refine W.block ?_
 | (refine W.region tys_ok [] ?_; conv => whnf)
 | (refine W.drawAll tys_ok [] mixed rfl ?_; conv => whnf)
 | (refine W.ret ?_; conv => whnf)
 | (refine W.skip ?_; conv => whnf)
 | (refine W.exit ?_; conv => whnf)
 | (refine call_at (al := true) (read_ok h hn) rfl rfl rfl rfl ?_; conv => whnf)
 | (refine call_at (al := false) (least_at h hn) rfl rfl rfl rfl ?_; conv => whnf)
 | (refine W.cond rfl (fun hb => ?_) (fun hb => ?_) <;> (try simp only [Int.reduceToNat, Int.reduceTDiv, Int.reduceTMod, minL, maxL, pickB, zHB] at hb) <;> (try (first | (cases hb; done) | exact absurd hb (by decide) | (exfalso; omega))))
 | ((with_reducible refine And.intro ?_ ?_); (focus ((repeat' (first | (with_reducible rfl) | (with_reducible refine And.intro ?_ ?_) | omega | rfl | exact Or.inl rfl | exact Or.inr rfl | exact of_decide_eq_true rfl | exact Path.imp_of (of_decide_eq_true rfl) | (focus ((try simp only [Int.reduceToNat, Int.reduceTDiv, Int.reduceTMod, minL, maxL, pickB, zHB, InK, Path.imp, List.length_replicate, List.length_set, List.length_append, List.length_cons, List.length_nil] at *); omega)) | (refine app_le rfl ?_; omega))); done)); (conv => whnf))
 | ((with_reducible refine And.intro (Side.out ?_) ?_); rotate_left; (conv => whnf))
 | ((first | refine retF1 ?_ | refine retF2 ?_) <;> (conv => whnf) <;> repeat' (first
 | exact trivial
 | (with_reducible rfl)
 | ((with_reducible refine And.intro ?_ ?_) <;> conv => whnf)
 | omega
 | rfl
 | (refine congrArg (SV.arr _) ?_)
 | (refine congrArg (Value.int _) ?_)
 | (refine congrArg Value.bool ?_)))); all_goals (try unfold Side)
  all_goals try (repeat' (first | (with_reducible rfl) | (with_reducible refine And.intro ?_ ?_) | omega | rfl | exact Or.inl rfl | exact Or.inr rfl | exact of_decide_eq_true rfl | exact Path.imp_of (of_decide_eq_true rfl) | (focus ((try simp only [Int.reduceToNat, Int.reduceTDiv, Int.reduceTMod, minL, maxL, pickB, zHB, InK, Path.imp, List.length_replicate, List.length_set, List.length_append, List.length_cons, List.length_nil] at *); omega)) | (refine app_le rfl ?_; omega)))
theorem Plane_none {w : List Int} {n : Nat} (h : Word w n) (hn : n ≤ 10) (hg : ¬ (leastT n w).1 = 0) : FnAt Try.prog false 16 [.arr (.int .i64) w] (.tup [.own 0, .lit (.int .i64 5)]) [(0, .row 3 (.int .i64) true [])] := by
  refine FnAt.of_body tys_ok Try.func16 (by rfl) rfl Try.ntmps16 (by rw [Try.results16]) (by simp) ?_
  
  repeat' (first
 | refine W.seq ?_
 | refine W.block ?_
 | (refine W.region tys_ok [] ?_; conv => whnf)
 | (refine W.drawAll tys_ok [] mixed rfl ?_; conv => whnf)
 | (refine W.ret ?_; conv => whnf)
 | (refine W.skip ?_; conv => whnf)
 | (refine W.exit ?_; conv => whnf)
 | (refine call_at (al := true) (read_ok h hn) rfl rfl rfl rfl ?_; conv => whnf)
 | (refine call_at (al := false) (least_at h hn) rfl rfl rfl rfl ?_; conv => whnf)
 | (refine W.cond rfl (fun hb => ?_) (fun hb => ?_) <;> (try simp only [Int.reduceToNat, Int.reduceTDiv, Int.reduceTMod, minL, maxL, pickB, zHB] at hb) <;> (try (first | (cases hb; done) | exact absurd hb (by decide) | (exfalso; omega))))
 | ((with_reducible refine And.intro ?_ ?_); (focus ((repeat' (first | (with_reducible rfl) | (with_reducible refine And.intro ?_ ?_) | omega | rfl | exact Or.inl rfl | exact Or.inr rfl | exact of_decide_eq_true rfl | exact Path.imp_of (of_decide_eq_true rfl) | (focus ((try simp only [Int.reduceToNat, Int.reduceTDiv, Int.reduceTMod, minL, maxL, pickB, zHB, InK, Path.imp, List.length_replicate, List.length_set, List.length_append, List.length_cons, List.length_nil] at *); omega)) | (refine app_le rfl ?_; omega))); done)); (conv => whnf))
 | ((with_reducible refine And.intro (Side.out ?_) ?_); rotate_left; (conv => whnf))
 | ((first | refine retF1 ?_ | refine retF2 ?_) <;> (conv => whnf) <;> repeat' (first
 | exact trivial
 | (with_reducible rfl)
 | ((with_reducible refine And.intro ?_ ?_) <;> conv => whnf)
 | omega
 | rfl
 | (refine congrArg (SV.arr _) ?_)
 | (refine congrArg (Value.int _) ?_)
 | (refine congrArg Value.bool ?_)))); all_goals (try unfold Side)
  all_goals try (repeat' (first | (with_reducible rfl) | (with_reducible refine And.intro ?_ ?_) | omega | rfl | exact Or.inl rfl | exact Or.inr rfl | exact of_decide_eq_true rfl | exact Path.imp_of (of_decide_eq_true rfl) | (focus ((try simp only [Int.reduceToNat, Int.reduceTDiv, Int.reduceTMod, minL, maxL, pickB, zHB, InK, Path.imp, List.length_replicate, List.length_set, List.length_append, List.length_cons, List.length_nil] at *); omega)) | (refine app_le rfl ?_; omega)))
theorem Plane_no {w : List Int} (h : ¬ checkT w = 0) (hl : w.length ≤ 1000) : FnAt Try.prog false 16 [.arr (.int .i64) w] (.tup [.own 0, .lit (.int .i64 (checkT w))]) [(0, .row 3 (.int .i64) true [])] := by
  refine FnAt.of_body tys_ok Try.func16 (by rfl) rfl Try.ntmps16 (by rw [Try.results16]) (by simp) ?_
  
  repeat' (first
 | refine W.seq ?_
 | refine W.block ?_
 | (refine W.region tys_ok [] ?_; conv => whnf)
 | (refine W.drawAll tys_ok [] mixed rfl ?_; conv => whnf)
 | (refine W.ret ?_; conv => whnf)
 | (refine W.skip ?_; conv => whnf)
 | (refine W.exit ?_; conv => whnf)
 | (refine call_at (al := true) (read_bad h hl) rfl rfl rfl rfl ?_; conv => whnf)
 | (refine W.cond rfl (fun hb => ?_) (fun hb => ?_) <;> (try simp only [Int.reduceToNat, Int.reduceTDiv, Int.reduceTMod, minL, maxL, pickB, zHB] at hb) <;> (try (first | (cases hb; done) | exact absurd hb (by decide) | (exfalso; omega))))
 | ((with_reducible refine And.intro ?_ ?_); (focus ((repeat' (first | (with_reducible rfl) | (with_reducible refine And.intro ?_ ?_) | omega | rfl | exact Or.inl rfl | exact Or.inr rfl | exact of_decide_eq_true rfl | exact Path.imp_of (of_decide_eq_true rfl) | (focus ((try simp only [Int.reduceToNat, Int.reduceTDiv, Int.reduceTMod, minL, maxL, pickB, zHB, InK, Path.imp, List.length_replicate, List.length_set, List.length_append, List.length_cons, List.length_nil] at *); omega)) | (refine app_le rfl ?_; omega))); done)); (conv => whnf))
 | ((with_reducible refine And.intro (Side.out ?_) ?_); rotate_left; (conv => whnf))
 | ((first | refine retF1 ?_ | refine retF2 ?_) <;> (conv => whnf) <;> repeat' (first
 | exact trivial
 | (with_reducible rfl)
 | ((with_reducible refine And.intro ?_ ?_) <;> conv => whnf)
 | omega
 | rfl
 | (refine congrArg (SV.arr _) ?_)
 | (refine congrArg (Value.int _) ?_)
 | (refine congrArg Value.bool ?_)))); all_goals (try unfold Side)
  all_goals try (repeat' (first | (with_reducible rfl) | (with_reducible refine And.intro ?_ ?_) | omega | rfl | exact Or.inl rfl | exact Or.inr rfl | exact of_decide_eq_true rfl | exact Path.imp_of (of_decide_eq_true rfl) | (focus ((try simp only [Int.reduceToNat, Int.reduceTDiv, Int.reduceTMod, minL, maxL, pickB, zHB, InK, Path.imp, List.length_replicate, List.length_set, List.length_append, List.length_cons, List.length_nil] at *); omega)) | (refine app_le rfl ?_; omega)))
theorem word3 : Word [0, 1, 2, 0, 1, 2] 3 := word_of rfl (by decide) (by decide)
theorem word2 : Word [0, 1, 0, 1] 2 := word_of rfl (by decide) (by decide)
theorem word1 : Word [0, 0] 1 := word_of rfl (by decide) (by decide)
theorem least3 : leastT 3 [0, 1, 2, 0, 1, 2] = (0, [1, -1, 1]) := by decide +kernel
theorem least2 : (leastT 2 [0, 1, 0, 1]).1 = 1 := by decide +kernel
theorem faces1 : (facesT (nextT [0, 0] [1]) 2).length = 3 := by decide +kernel
theorem lives_1 : FnAt Try.prog false 16 [.arr (.int .i64) ([0, 1, 2, 0, 1, 2] : List Int)] (.tup [.st true (.arr (.int .i64) ([1, -1, 1] : List Int)), .lit (.int .i64 0)]) [] := by
  have := Plane_ok word3 (by decide) (by rw [least3])
  rw [least3] at this
  exact this
theorem lives_2 : FnAt Try.prog false 16 [.arr (.int .i64) ([0, 1, 0, 1] : List Int)] (.tup [.own 0, .lit (.int .i64 5)]) [(0, .row 3 (.int .i64) true [])] :=
  Plane_none word2 (by decide) (by rw [least2]; decide)
theorem lives_3 : FnAt Try.prog false 23 [.arr (.int .i64) ([0, 0] : List Int), .arr (.int .i64) ([1] : List Int)] (.tup [.own 0, .lit (.int .i64 0)]) [(0, .row 22 (.sl (.int .i64)) true (facesT (nextT [0, 0] [1]) 2))] :=
  Faces_ok word1 (by decide) (by decide)
theorem lives_4 : ∃ s, FnAt Try.prog false 21 [.arr (.int .i64) ([0, 1, 0, 1] : List Int)] (.tup [.lit (.int .i64 1), .st true (.arr (.int .i64) s), .lit (.int .i64 0)]) [] := by
  have := Least_ok word2 (by decide)
  rw [least2] at this
  exact ⟨_, this⟩
theorem lives_at : FnAt Try.prog false 20 [] (.lit (.bool true)) [] := by
  obtain ⟨s, h4⟩ := lives_4
  have h3 := lives_3
  have hf := faces1
  obtain ⟨F, hF⟩ : ∃ F, F = facesT (nextT [0, 0] [1]) 2 := ⟨_, rfl⟩
  rw [← hF] at h3 hf
  have hf' : @List.length (Ty.sl (.int .i64)).T F = 3 := hf
  refine FnAt.of_body tys_ok Try.func20 (by rfl) rfl Try.ntmps20 (by rw [Try.results20]) (by simp) ?_
  
  repeat' (first
 | refine W.seq ?_
 | refine W.block ?_
 | (refine W.region tys_ok [] ?_; conv => whnf)
 | (refine W.drawAll tys_ok [] mixed rfl ?_; conv => whnf)
 | (refine W.ret ?_; conv => whnf)
 | (refine W.skip ?_; conv => whnf)
 | (refine W.exit ?_; conv => whnf)
 | (refine call_at (al := false) (lives_1) rfl rfl rfl rfl ?_; conv => whnf)
 | (refine call_at (al := false) (lives_2) rfl rfl rfl rfl ?_; conv => whnf)
 | (refine call_at (al := false) (h3) rfl rfl rfl rfl ?_; conv => whnf)
 | (refine call_at (al := false) (h4) rfl rfl rfl rfl ?_; conv => whnf)
 | (refine W.cond rfl (fun hb => ?_) (fun hb => ?_) <;> (try simp only [Int.reduceToNat, Int.reduceTDiv, Int.reduceTMod, minL, maxL, pickB, zHB] at hb) <;> (try (first | (cases hb; done) | exact absurd hb (by decide) | (exfalso; omega))))
 | ((with_reducible refine And.intro ?_ ?_); (focus ((repeat' (first | (with_reducible rfl) | (with_reducible refine And.intro ?_ ?_) | omega | rfl | exact Or.inl rfl | exact Or.inr rfl | exact of_decide_eq_true rfl | exact Path.imp_of (of_decide_eq_true rfl) | (focus ((try simp only [Int.reduceToNat, Int.reduceTDiv, Int.reduceTMod, minL, maxL, pickB, zHB, InK, Path.imp, List.length_replicate, List.length_set, List.length_append, List.length_cons, List.length_nil] at *); omega)) | (refine app_le rfl ?_; omega))); done)); (conv => whnf))
 | ((with_reducible refine And.intro (Side.out ?_) ?_); rotate_left; (conv => whnf))
 | ((first | refine retF1 ?_ | refine retF2 ?_) <;> (conv => whnf) <;> repeat' (first
 | exact trivial
 | (with_reducible rfl)
 | ((with_reducible refine And.intro ?_ ?_) <;> conv => whnf)
 | omega
 | rfl
 | (refine congrArg (SV.arr _) ?_)
 | (refine congrArg (Value.int _) ?_)
 | (refine congrArg Value.bool ?_)))); all_goals (try unfold Side)
  all_goals try (repeat' (first | (with_reducible rfl) | (with_reducible refine And.intro ?_ ?_) | omega | rfl | exact Or.inl rfl | exact Or.inr rfl | exact of_decide_eq_true rfl | exact Path.imp_of (of_decide_eq_true rfl) | (focus ((try simp only [Int.reduceToNat, Int.reduceTDiv, Int.reduceTMod, minL, maxL, pickB, zHB, InK, Path.imp, List.length_replicate, List.length_set, List.length_append, List.length_cons, List.length_nil] at *); omega)) | (refine app_le rfl ?_; omega)))
end Go.Proofs.Ytdfajcfkdfjoeaa
namespace Go.Proofs.Ytdfajcfkdfjoeaa
open Go Go.Vc Go.Scr
set_option linter.unusedVariables false
set_option linter.unusedSimpArgs false
@[reducible] def PairTy : Ty := .cons (.int .i64) (.cons (.int .i64) .nil)
def pr (a b : Nat) : PairTy.T := ((a : Int), (b : Int), ())
def rowP (w : List Int) (a : Nat) : Nat → List (Int × Int × Unit)
  | 0 => []
  | b + 1 => if a < b ∧ interT w a b = true then rowP w a b ++ [((a : Int), (b : Int), ())] else rowP w a b
def pairsK (w : List Int) (n : Nat) : Nat → List (Int × Int × Unit)
  | 0 => []
  | a + 1 => pairsK w n a ++ rowP w a n
theorem rowP_yes {w : List Int} {a b : Nat} (h : a < b) (h2 : interT w a b = true) : rowP w a (b + 1) = rowP w a b ++ [((a : Int), (b : Int), ())] := by rw [rowP, if_pos ⟨h, h2⟩]
theorem rowP_no {w : List Int} {a b : Nat} (h2 : interT w a b = false) : rowP w a (b + 1) = rowP w a b := by rw [rowP, if_neg (fun h => by rw [h2] at h; cases h.2)]
theorem rowP_low {w : List Int} {a : Nat} : ∀ {b : Nat}, b ≤ a + 1 → rowP w a b = []
  | 0, _ => rfl
  | b + 1, h => by rw [rowP, if_neg (fun h' => by omega), rowP_low (by omega)]
theorem rowP_len {w : List Int} {a : Nat} : ∀ {b : Nat}, (rowP w a b).length ≤ b
  | 0 => by simp [rowP]
  | b + 1 => by
    have := rowP_len (w := w) (a := a) (b := b)
    rw [rowP]; split
    · simp; omega
    · omega
theorem pairsK_len {w : List Int} {n : Nat} : ∀ {a : Nat}, (pairsK w n a).length ≤ n * a
  | 0 => by simp [pairsK]
  | a + 1 => by
    have h1 := pairsK_len (w := w) (n := n) (a := a)
    have h2 := rowP_len (w := w) (a := a) (b := n)
    rw [pairsK, List.length_append, Nat.mul_succ]; omega
set_option maxHeartbeats 2000000 in
theorem inters_ref {w : List Int} {n : Nat} (h : Word w n) (hn : n ≤ 10) : FnAt Try.prog false 31 [.arr (.int .i64) w] (.own 0) [(0, .row 54 PairTy true (pairsK w n n))] := by
  have hwl : @List.length (Ty.int .i64).T w = 2 * n := h.len
  have hd : Int.tdiv (@List.length (Ty.int .i64).T w) 2 = n := by rw [hwl, Int.tdiv_eq_ediv_of_nonneg (by omega)]; omega
  obtain ⟨K, hK⟩ : ∃ K : Nat → List PairTy.T, K = pairsK w n := ⟨_, rfl⟩
  have hK0 : K 0 = [] := by rw [hK]; rfl
  obtain ⟨R, hR⟩ : ∃ R : Nat → Nat → List PairTy.T, R = rowP w := ⟨_, rfl⟩
  have hKs : ∀ a, K (a + 1) = K a ++ R a n := fun a => by rw [hK, hR]; rfl
  have hKl : ∀ a, a ≤ n → (K a).length ≤ 100 := fun a ha => by
    rw [hK]
    have := pairsK_len (w := w) (n := n) (a := a)
    have := Nat.mul_le_mul hn (Nat.le_trans ha hn)
    have := Nat.mul_le_mul_left n ha
    have := Nat.mul_le_mul_left n hn
    exact Nat.le_trans (pairsK_len (w := w) (n := n) (a := a)) (by omega)
  have hRl : ∀ a b, (R a b).length ≤ b := fun a b => by rw [hR]; exact rowP_len
  have hRy : ∀ a b : Nat, a < b → interT w a b = true → R a (b + 1) = R a b ++ [pr a b] := fun a b h1 h2 => by rw [hR]; exact rowP_yes h1 h2
  have hRn : ∀ a b : Nat, interT w a b = false → R a (b + 1) = R a b := fun a b h2 => by rw [hR]; exact rowP_no h2
  have hR0 : ∀ a, R a (a + 1) = [] := fun a => by rw [hR]; exact rowP_low (Nat.le_refl _)
  have hKn : pairsK w n n = K n := by rw [hK]
  rw [hKn]
  clear hK hR hKn
  refine FnAt.of_body tys_ok Try.func31 (by rfl) rfl Try.ntmps31 (by rw [Try.results31]) (by simp) ?_
  
  repeat' (first
 | refine W.seq ?_
 | refine W.block ?_
 | (refine W.region tys_ok [] ?_; conv => whnf)
 | (refine W.drawAll tys_ok [] mixed rfl ?_; conv => whnf)
 | (refine W.ret ?_; conv => whnf)
 | (refine W.skip ?_; conv => whnf)
 | (refine W.exit ?_; conv => whnf)
 | (refine W.cond rfl (fun hb => ?_) (fun hb => ?_) <;> (try simp only [Int.reduceToNat, Int.reduceTDiv, Int.reduceTMod, minL, maxL, pickB, zHB] at hb) <;> (try (first | (cases hb; done) | exact absurd hb (by decide) | (exfalso; omega))))
 | ((with_reducible refine And.intro ?_ ?_); (focus ((repeat' (first | (with_reducible rfl) | (with_reducible refine And.intro ?_ ?_) | omega | rfl | exact Or.inl rfl | exact Or.inr rfl | exact of_decide_eq_true rfl | exact Path.imp_of (of_decide_eq_true rfl) | (focus ((try simp only [Int.reduceToNat, Int.reduceTDiv, Int.reduceTMod, minL, maxL, pickB, zHB, InK, Path.imp, List.length_replicate, List.length_set, List.length_append, List.length_cons, List.length_nil] at *); omega)) | (refine app_le rfl ?_; omega))); done)); (conv => whnf))
 | ((with_reducible refine And.intro (Side.out ?_) ?_); rotate_left; (conv => whnf))
 | ((first | refine retF1 ?_ | refine retF2 ?_) <;> (conv => whnf) <;> repeat' (first
 | exact trivial
 | (with_reducible rfl)
 | ((with_reducible refine And.intro ?_ ?_) <;> conv => whnf)
 | omega
 | rfl
 | (refine congrArg (SV.arr _) ?_)
 | (refine congrArg (Value.int _) ?_)
 | (refine congrArg Value.bool ?_)))); all_goals (try unfold Side)
  all_goals try (repeat' (first | (with_reducible rfl) | (with_reducible refine And.intro ?_ ?_) | omega | rfl | exact Or.inl rfl | exact Or.inr rfl | exact of_decide_eq_true rfl | exact Path.imp_of (of_decide_eq_true rfl) | (focus ((try simp only [Int.reduceToNat, Int.reduceTDiv, Int.reduceTMod, minL, maxL, pickB, zHB, InK, Path.imp, List.length_replicate, List.length_set, List.length_append, List.length_cons, List.length_nil] at *); omega)) | (refine app_le rfl ?_; omega)))
  refine W.loop (fun a : Nat => ⟨[(0, .st false (.arr (.int .i64) (w : List Int))), (3, .own 900003), (4, .lit (.int .i64 (a)))], [(900003, .row 54 PairTy true (K a))]⟩) (fun a => a ≤ n) (fun a => n - a) (0) ?_ ?_
  · refine ⟨Nat.zero_le _, ?_⟩
    refine subF.ok ?_ <;> (conv => whnf) <;> repeat' (first
 | exact trivial
 | (with_reducible rfl)
 | ((with_reducible refine And.intro ?_ ?_) <;> conv => whnf)
 | omega
 | rfl
 | (refine congrArg (SV.arr _) ?_)
 | (refine congrArg (Value.int _) ?_)
 | (refine congrArg Value.bool ?_))
    all_goals exact hK0.symm
  · intro a ha
    have hla := hKl a ha
    by_cases hil : a < n
    · repeat' (first
 | refine W.seq ?_
 | refine W.block ?_
 | (refine W.region tys_ok [] ?_; conv => whnf)
 | (refine W.drawAll tys_ok [] mixed rfl ?_; conv => whnf)
 | (refine W.ret ?_; conv => whnf)
 | (refine W.skip ?_; conv => whnf)
 | (refine W.exit ?_; conv => whnf)
 | (refine W.cond rfl (fun hb => ?_) (fun hb => ?_) <;> (try simp only [Int.reduceToNat, Int.reduceTDiv, Int.reduceTMod, minL, maxL, pickB, zHB] at hb) <;> (try (first | (cases hb; done) | exact absurd hb (by decide) | (exfalso; omega))))
 | ((with_reducible refine And.intro ?_ ?_); (focus ((repeat' (first | (with_reducible rfl) | (with_reducible refine And.intro ?_ ?_) | omega | rfl | exact Or.inl rfl | exact Or.inr rfl | exact of_decide_eq_true rfl | exact Path.imp_of (of_decide_eq_true rfl) | (focus ((try simp only [Int.reduceToNat, Int.reduceTDiv, Int.reduceTMod, minL, maxL, pickB, zHB, InK, Path.imp, List.length_replicate, List.length_set, List.length_append, List.length_cons, List.length_nil] at *); omega)) | (refine app_le rfl ?_; omega))); done)); (conv => whnf))
 | ((with_reducible refine And.intro (Side.out ?_) ?_); rotate_left; (conv => whnf))
 | ((first | refine retF1 ?_ | refine retF2 ?_) <;> (conv => whnf) <;> repeat' (first
 | exact trivial
 | (with_reducible rfl)
 | ((with_reducible refine And.intro ?_ ?_) <;> conv => whnf)
 | omega
 | rfl
 | (refine congrArg (SV.arr _) ?_)
 | (refine congrArg (Value.int _) ?_)
 | (refine congrArg Value.bool ?_)))); all_goals (try unfold Side)
      all_goals try (repeat' (first | (with_reducible rfl) | (with_reducible refine And.intro ?_ ?_) | omega | rfl | exact Or.inl rfl | exact Or.inr rfl | exact of_decide_eq_true rfl | exact Path.imp_of (of_decide_eq_true rfl) | (focus ((try simp only [Int.reduceToNat, Int.reduceTDiv, Int.reduceTMod, minL, maxL, pickB, zHB, InK, Path.imp, List.length_replicate, List.length_set, List.length_append, List.length_cons, List.length_nil] at *); omega)) | (refine app_le rfl ?_; omega)))
      refine W.loop (fun b : Nat => ⟨[(0, .st false (.arr (.int .i64) (w : List Int))), (3, .own 900003), (4, .lit (.int .i64 (a))), (5, .lit (.int .i64 (b)))], [(900003, .row 54 PairTy true (K a ++ R a b))]⟩) (fun b => a < b ∧ b ≤ n) (fun b => n - b) (a + 1) ?_ ?_
      · refine ⟨⟨by omega, by omega⟩, ?_⟩
        refine subF.ok ?_ <;> (conv => whnf) <;> repeat' (first
 | exact trivial
 | (with_reducible rfl)
 | ((with_reducible refine And.intro ?_ ?_) <;> conv => whnf)
 | omega
 | rfl
 | (refine congrArg (SV.arr _) ?_)
 | (refine congrArg (Value.int _) ?_)
 | (refine congrArg Value.bool ?_))
        all_goals (rw [hR0 a]; exact (List.append_nil _).symm)
      · rintro b ⟨hb0, hb1⟩
        have hlb := hRl a b
        have hlab : (K a ++ R a b).length ≤ 200 := by rw [List.length_append]; omega
        by_cases hbl : b < n
        · have hin := inter_ref h (by omega) hil hbl
          cases hv : interT w a b with
          | true =>
            rw [hv] at hin
            have hy := hRy a b hb0 hv
            repeat' (first
 | refine W.seq ?_
 | refine W.block ?_
 | (refine W.region tys_ok [] ?_; conv => whnf)
 | (refine W.drawAll tys_ok [] mixed rfl ?_; conv => whnf)
 | (refine W.ret ?_; conv => whnf)
 | (refine W.skip ?_; conv => whnf)
 | (refine W.exit ?_; conv => whnf)
 | (refine call_at (al := false) (hin) rfl rfl rfl rfl ?_; conv => whnf)
 | (refine W.cond rfl (fun hb => ?_) (fun hb => ?_) <;> (try simp only [Int.reduceToNat, Int.reduceTDiv, Int.reduceTMod, minL, maxL, pickB, zHB] at hb) <;> (try (first | (cases hb; done) | exact absurd hb (by decide) | (exfalso; omega))))
 | ((with_reducible refine And.intro ?_ ?_); (focus ((repeat' (first | (with_reducible rfl) | (with_reducible refine And.intro ?_ ?_) | omega | rfl | exact Or.inl rfl | exact Or.inr rfl | exact of_decide_eq_true rfl | exact Path.imp_of (of_decide_eq_true rfl) | (focus ((try simp only [Int.reduceToNat, Int.reduceTDiv, Int.reduceTMod, minL, maxL, pickB, zHB, InK, Path.imp, List.length_replicate, List.length_set, List.length_append, List.length_cons, List.length_nil] at *); omega)) | (refine app_le rfl ?_; omega))); done)); (conv => whnf))
 | ((with_reducible refine And.intro (Side.out ?_) ?_); rotate_left; (conv => whnf))
 | ((first | refine retF1 ?_ | refine retF2 ?_) <;> (conv => whnf) <;> repeat' (first
 | exact trivial
 | (with_reducible rfl)
 | ((with_reducible refine And.intro ?_ ?_) <;> conv => whnf)
 | omega
 | rfl
 | (refine congrArg (SV.arr _) ?_)
 | (refine congrArg (Value.int _) ?_)
 | (refine congrArg Value.bool ?_)))); all_goals (try unfold Side)
            all_goals try (repeat' (first | (with_reducible rfl) | (with_reducible refine And.intro ?_ ?_) | omega | rfl | exact Or.inl rfl | exact Or.inr rfl | exact of_decide_eq_true rfl | exact Path.imp_of (of_decide_eq_true rfl) | (focus ((try simp only [Int.reduceToNat, Int.reduceTDiv, Int.reduceTMod, minL, maxL, pickB, zHB, InK, Path.imp, List.length_replicate, List.length_set, List.length_append, List.length_cons, List.length_nil] at *); omega)) | (refine app_le rfl ?_; omega)))
            refine ⟨b + 1, ⟨⟨by omega, by omega⟩, by omega⟩, ?_⟩
            rw [hy]
            refine subF.ok ?_ <;> (conv => whnf) <;> repeat' (first
 | exact trivial
 | (with_reducible rfl)
 | ((with_reducible refine And.intro ?_ ?_) <;> conv => whnf)
 | omega
 | rfl
 | (refine congrArg (SV.arr _) ?_)
 | (refine congrArg (Value.int _) ?_)
 | (refine congrArg Value.bool ?_))
            all_goals exact List.append_assoc _ _ _
          | false =>
            rw [hv] at hin
            have hy := hRn a b hv
            repeat' (first
 | refine W.seq ?_
 | refine W.block ?_
 | (refine W.region tys_ok [] ?_; conv => whnf)
 | (refine W.drawAll tys_ok [] mixed rfl ?_; conv => whnf)
 | (refine W.ret ?_; conv => whnf)
 | (refine W.skip ?_; conv => whnf)
 | (refine W.exit ?_; conv => whnf)
 | (refine call_at (al := false) (hin) rfl rfl rfl rfl ?_; conv => whnf)
 | (refine W.cond rfl (fun hb => ?_) (fun hb => ?_) <;> (try simp only [Int.reduceToNat, Int.reduceTDiv, Int.reduceTMod, minL, maxL, pickB, zHB] at hb) <;> (try (first | (cases hb; done) | exact absurd hb (by decide) | (exfalso; omega))))
 | ((with_reducible refine And.intro ?_ ?_); (focus ((repeat' (first | (with_reducible rfl) | (with_reducible refine And.intro ?_ ?_) | omega | rfl | exact Or.inl rfl | exact Or.inr rfl | exact of_decide_eq_true rfl | exact Path.imp_of (of_decide_eq_true rfl) | (focus ((try simp only [Int.reduceToNat, Int.reduceTDiv, Int.reduceTMod, minL, maxL, pickB, zHB, InK, Path.imp, List.length_replicate, List.length_set, List.length_append, List.length_cons, List.length_nil] at *); omega)) | (refine app_le rfl ?_; omega))); done)); (conv => whnf))
 | ((with_reducible refine And.intro (Side.out ?_) ?_); rotate_left; (conv => whnf))
 | ((first | refine retF1 ?_ | refine retF2 ?_) <;> (conv => whnf) <;> repeat' (first
 | exact trivial
 | (with_reducible rfl)
 | ((with_reducible refine And.intro ?_ ?_) <;> conv => whnf)
 | omega
 | rfl
 | (refine congrArg (SV.arr _) ?_)
 | (refine congrArg (Value.int _) ?_)
 | (refine congrArg Value.bool ?_)))); all_goals (try unfold Side)
            all_goals try (repeat' (first | (with_reducible rfl) | (with_reducible refine And.intro ?_ ?_) | omega | rfl | exact Or.inl rfl | exact Or.inr rfl | exact of_decide_eq_true rfl | exact Path.imp_of (of_decide_eq_true rfl) | (focus ((try simp only [Int.reduceToNat, Int.reduceTDiv, Int.reduceTMod, minL, maxL, pickB, zHB, InK, Path.imp, List.length_replicate, List.length_set, List.length_append, List.length_cons, List.length_nil] at *); omega)) | (refine app_le rfl ?_; omega)))
            refine ⟨b + 1, ⟨⟨by omega, by omega⟩, by omega⟩, ?_⟩
            rw [hy]
            refine subF.ok ?_ <;> (conv => whnf) <;> repeat' (first
 | exact trivial
 | (with_reducible rfl)
 | ((with_reducible refine And.intro ?_ ?_) <;> conv => whnf)
 | omega
 | rfl
 | (refine congrArg (SV.arr _) ?_)
 | (refine congrArg (Value.int _) ?_)
 | (refine congrArg Value.bool ?_))
        · have hie : n = b := by omega
          subst hie
          repeat' (first
 | refine W.seq ?_
 | refine W.block ?_
 | (refine W.region tys_ok [] ?_; conv => whnf)
 | (refine W.drawAll tys_ok [] mixed rfl ?_; conv => whnf)
 | (refine W.ret ?_; conv => whnf)
 | (refine W.skip ?_; conv => whnf)
 | (refine W.exit ?_; conv => whnf)
 | (refine W.cond rfl (fun hb => ?_) (fun hb => ?_) <;> (try simp only [Int.reduceToNat, Int.reduceTDiv, Int.reduceTMod, minL, maxL, pickB, zHB] at hb) <;> (try (first | (cases hb; done) | exact absurd hb (by decide) | (exfalso; omega))))
 | ((with_reducible refine And.intro ?_ ?_); (focus ((repeat' (first | (with_reducible rfl) | (with_reducible refine And.intro ?_ ?_) | omega | rfl | exact Or.inl rfl | exact Or.inr rfl | exact of_decide_eq_true rfl | exact Path.imp_of (of_decide_eq_true rfl) | (focus ((try simp only [Int.reduceToNat, Int.reduceTDiv, Int.reduceTMod, minL, maxL, pickB, zHB, InK, Path.imp, List.length_replicate, List.length_set, List.length_append, List.length_cons, List.length_nil] at *); omega)) | (refine app_le rfl ?_; omega))); done)); (conv => whnf))
 | ((with_reducible refine And.intro (Side.out ?_) ?_); rotate_left; (conv => whnf))
 | ((first | refine retF1 ?_ | refine retF2 ?_) <;> (conv => whnf) <;> repeat' (first
 | exact trivial
 | (with_reducible rfl)
 | ((with_reducible refine And.intro ?_ ?_) <;> conv => whnf)
 | omega
 | rfl
 | (refine congrArg (SV.arr _) ?_)
 | (refine congrArg (Value.int _) ?_)
 | (refine congrArg Value.bool ?_)))); all_goals (try unfold Side)
          all_goals try (repeat' (first | (with_reducible rfl) | (with_reducible refine And.intro ?_ ?_) | omega | rfl | exact Or.inl rfl | exact Or.inr rfl | exact of_decide_eq_true rfl | exact Path.imp_of (of_decide_eq_true rfl) | (focus ((try simp only [Int.reduceToNat, Int.reduceTDiv, Int.reduceTMod, minL, maxL, pickB, zHB, InK, Path.imp, List.length_replicate, List.length_set, List.length_append, List.length_cons, List.length_nil] at *); omega)) | (refine app_le rfl ?_; omega)))
          refine ⟨a + 1, ⟨by omega, by omega⟩, ?_⟩
          rw [hKs a]
          refine subF.ok ?_ <;> (conv => whnf) <;> repeat' (first
 | exact trivial
 | (with_reducible rfl)
 | ((with_reducible refine And.intro ?_ ?_) <;> conv => whnf)
 | omega
 | rfl
 | (refine congrArg (SV.arr _) ?_)
 | (refine congrArg (Value.int _) ?_)
 | (refine congrArg Value.bool ?_))
    · have hie : n = a := by omega
      subst hie
      repeat' (first
 | refine W.seq ?_
 | refine W.block ?_
 | (refine W.region tys_ok [] ?_; conv => whnf)
 | (refine W.drawAll tys_ok [] mixed rfl ?_; conv => whnf)
 | (refine W.ret ?_; conv => whnf)
 | (refine W.skip ?_; conv => whnf)
 | (refine W.exit ?_; conv => whnf)
 | (refine W.cond rfl (fun hb => ?_) (fun hb => ?_) <;> (try simp only [Int.reduceToNat, Int.reduceTDiv, Int.reduceTMod, minL, maxL, pickB, zHB] at hb) <;> (try (first | (cases hb; done) | exact absurd hb (by decide) | (exfalso; omega))))
 | ((with_reducible refine And.intro ?_ ?_); (focus ((repeat' (first | (with_reducible rfl) | (with_reducible refine And.intro ?_ ?_) | omega | rfl | exact Or.inl rfl | exact Or.inr rfl | exact of_decide_eq_true rfl | exact Path.imp_of (of_decide_eq_true rfl) | (focus ((try simp only [Int.reduceToNat, Int.reduceTDiv, Int.reduceTMod, minL, maxL, pickB, zHB, InK, Path.imp, List.length_replicate, List.length_set, List.length_append, List.length_cons, List.length_nil] at *); omega)) | (refine app_le rfl ?_; omega))); done)); (conv => whnf))
 | ((with_reducible refine And.intro (Side.out ?_) ?_); rotate_left; (conv => whnf))
 | ((first | refine retF1 ?_ | refine retF2 ?_) <;> (conv => whnf) <;> repeat' (first
 | exact trivial
 | (with_reducible rfl)
 | ((with_reducible refine And.intro ?_ ?_) <;> conv => whnf)
 | omega
 | rfl
 | (refine congrArg (SV.arr _) ?_)
 | (refine congrArg (Value.int _) ?_)
 | (refine congrArg Value.bool ?_)))); all_goals (try unfold Side)
      all_goals try (repeat' (first | (with_reducible rfl) | (with_reducible refine And.intro ?_ ?_) | omega | rfl | exact Or.inl rfl | exact Or.inr rfl | exact of_decide_eq_true rfl | exact Path.imp_of (of_decide_eq_true rfl) | (focus ((try simp only [Int.reduceToNat, Int.reduceTDiv, Int.reduceTMod, minL, maxL, pickB, zHB, InK, Path.imp, List.length_replicate, List.length_set, List.length_append, List.length_cons, List.length_nil] at *); omega)) | (refine app_le rfl ?_; omega)))
end Go.Proofs.Ytdfajcfkdfjoeaa
namespace Go.Scr
set_option linter.unusedVariables false
set_option linter.unusedSimpArgs false
structure Pm (f : Nat → Nat) (N : Nat) : Prop where
  lt : ∀ x, x < N → f x < N
  inj : ∀ x y, x < N → y < N → f x = f y → x = y
def del (f : Nat → Nat) (N : Nat) : Nat → Nat := fun x => if f x = N then f N else f x
def cyc (f : Nat → Nat) : Nat → Nat
  | 0 => 0
  | N + 1 => cyc (del f N) N + if f N = N then 1 else 0
termination_by N => N
def sw (a b : Nat) (f : Nat → Nat) : Nat → Nat := fun x => if x = a then f b else if x = b then f a else f x
theorem del_congr {f g : Nat → Nat} {N : Nat} (h : ∀ x, x < N + 1 → f x = g x) : ∀ x, x < N → del f N x = del g N x := fun x hx => by
  unfold del; rw [h x (by omega), h N (by omega)]
theorem cyc_congr : ∀ {N : Nat} {f g : Nat → Nat}, (∀ x, x < N → f x = g x) → cyc f N = cyc g N
  | 0, f, g, h => by rw [cyc, cyc]
  | N + 1, f, g, h => by rw [cyc, cyc, cyc_congr (del_congr h), h N (by omega)]
theorem Pm.del {f : Nat → Nat} {N : Nat} (h : Pm f (N + 1)) : Pm (del f N) N := by
  refine ⟨fun x hx => ?_, fun x y hx hy e => ?_⟩
  · have h1 := h.lt x (by omega)
    have h2 := h.lt N (by omega)
    unfold Scr.del; split
    · rename_i h3
      have : f N ≠ N := fun e => by have := h.inj x N (by omega) (by omega) (by rw [h3, e]); omega
      omega
    · omega
  · unfold Scr.del at e
    split at e <;> rename_i h1 <;> split at e <;> rename_i h2
    · exact h.inj x y (by omega) (by omega) (by rw [h1, h2])
    · have := h.inj N y (by omega) (by omega) e; omega
    · have := h.inj x N (by omega) (by omega) e; omega
    · exact h.inj x y (by omega) (by omega) e
theorem Pm.onto : ∀ {N : Nat} {f : Nat → Nat}, Pm f N → ∀ y, y < N → ∃ x, x < N ∧ f x = y
  | 0, f, h, y, hy => by omega
  | N + 1, f, h, y, hy => by
    by_cases hN : f N = y
    · exact ⟨N, by omega, hN⟩
    · by_cases hy2 : y = N
      · subst hy2
        -- f y ≠ y, below y: the value f y is taken by no other; del f has f y in its range
        have h3 := h.lt y (by omega)
        obtain ⟨x, hx, h4⟩ := Pm.onto h.del (f y) (by omega)
        unfold Scr.del at h4
        split at h4
        · rename_i h5; exact ⟨x, by omega, h5⟩
        · have := h.inj x y (by omega) (by omega) h4; omega
      · obtain ⟨x, hx, h4⟩ := Pm.onto h.del y (by omega)
        unfold Scr.del at h4
        split at h4
        · exact absurd h4 hN
        · exact ⟨x, by omega, h4⟩
theorem Pm.sw {f : Nat → Nat} {N a b : Nat} (h : Pm f N) (ha : a < N) (hb : b < N) : Pm (sw a b f) N := by
  refine ⟨fun x hx => ?_, fun x y hx hy e => ?_⟩
  · unfold Scr.sw; split
    · exact h.lt b hb
    · split
      · exact h.lt a ha
      · exact h.lt x hx
  · unfold Scr.sw at e
    have k := fun u v hu hv => h.inj u v hu hv
    split at e <;> rename_i h1
    · split at e <;> rename_i h2
      · omega
      · split at e <;> rename_i h3
        · have := k b a hb ha e; omega
        · have := k b y hb hy e; omega
    · split at e <;> rename_i h2
      · split at e <;> rename_i h3
        · have := k a b ha hb e; omega
        · split at e <;> rename_i h4
          · omega
          · have := k a y ha hy e; omega
      · split at e <;> rename_i h3
        · have := k x b hx hb e; omega
        · split at e <;> rename_i h4
          · have := k x a hx ha e; omega
          · exact k x y hx hy e
theorem flip : ∀ {N : Nat} {f : Nat → Nat} {a b : Nat}, Pm f N → a < b → b < N → (cyc (sw a b f) N + cyc f N) % 2 = 1
  | 0, f, a, b, h, hab, hb => by omega
  | N + 1, f, a, b, h, hab, hb => by
    rw [cyc, cyc]
    by_cases hbN : b = N
    · subst hbN
      have e1 : sw a b f b = f a := by unfold sw; rw [if_neg (by omega), if_pos rfl]
      have ia := fun x (hx : x < b + 1) (e : f x = f a) => h.inj x a hx (by omega) e
      by_cases h1 : f b = b
      · have h2 : f a ≠ b := fun e => by have := h.inj a b (by omega) (by omega) (by rw [e, h1]); omega
        rw [if_pos h1, e1, if_neg h2]
        have : cyc (del (sw a b f) b) b = cyc (del f b) b := by
          refine cyc_congr fun x hx => ?_
          have hxb : f x ≠ b := fun e => by have := h.inj x b (by omega) (by omega) (by rw [e, h1]); omega
          unfold del; rw [e1, if_neg hxb]
          by_cases hxa : x = a
          · subst hxa; rw [show sw x b f x = f b from if_pos rfl, if_pos h1]
          · rw [show sw a b f x = f x by unfold sw; rw [if_neg hxa, if_neg (by omega)], if_neg hxb]
        omega
      · by_cases h2 : f a = b
        · rw [if_neg h1, e1, if_pos h2]
          have : cyc (del (sw a b f) b) b = cyc (del f b) b := by
            refine cyc_congr fun x hx => ?_
            unfold del; rw [e1]
            by_cases hxa : x = a
            · subst hxa; rw [show sw x b f x = f b from if_pos rfl, if_neg h1, if_pos h2]
            · have hxb : f x ≠ b := fun e => by have := ia x (by omega) (by rw [e, h2]); omega
              rw [show sw a b f x = f x by unfold sw; rw [if_neg hxa, if_neg (by omega)], if_neg hxb, if_neg hxb]
          omega
        · rw [if_neg h1, e1, if_neg h2]
          obtain ⟨r, hr, hrb⟩ := h.onto b (by omega)
          have hr2 : r < b := by
            by_cases e : r = b
            · subst e; exact absurd hrb h1
            · omega
          have hra : r ≠ a := fun e => by subst e; exact h2 hrb
          have : cyc (del (sw a b f) b) b = cyc (sw (min a r) (max a r) (del f b)) b := by
            refine cyc_congr fun x hx => ?_
            have s : sw (min a r) (max a r) (del f b) x = if x = a then del f b r else if x = r then del f b a else del f b x := by
              unfold sw
              by_cases har : a < r
              · rw [Nat.min_eq_left (by omega), Nat.max_eq_right (by omega)]
              · rw [Nat.min_eq_right (by omega), Nat.max_eq_left (by omega)]
                split
                · rw [if_neg (by omega)]
                · rfl
            rw [s]
            unfold del; rw [e1]
            by_cases hxa : x = a
            · subst hxa; rw [show sw x b f x = f b from if_pos rfl, if_neg h1, if_pos rfl, if_pos hrb]
            · have e2 : sw a b f x = f x := by unfold sw; rw [if_neg hxa, if_neg (by omega)]
              rw [e2, if_neg hxa]
              by_cases hxr : x = r
              · subst hxr; rw [if_pos hrb, if_pos rfl, if_neg h2]
              · have hxb : f x ≠ b := fun e => by have := h.inj x r (by omega) (by omega) (by rw [e, hrb]); omega
                rw [if_neg hxb, if_neg hxr, if_neg hxb]
          have := flip h.del (a := min a r) (b := max a r) (by omega) (by omega)
          omega
    · have e1 : sw a b f N = f N := by unfold sw; rw [if_neg (by omega), if_neg (by omega)]
      have : cyc (del (sw a b f) N) N = cyc (sw a b (del f N)) N := by
        refine cyc_congr fun x hx => ?_
        unfold del; rw [e1]; unfold sw
        split
        · rfl
        · split <;> rfl
      have := flip h.del hab (show b < N by omega)
      rw [e1]
      omega
theorem cyc_id : ∀ {N : Nat}, cyc (fun x => x) N = N
  | 0 => by rw [cyc]
  | N + 1 => by
    rw [cyc, if_pos rfl, cyc_congr (g := fun x => x) (fun x hx => by unfold del; exact if_neg (show ¬ x = N by omega)), cyc_id]
noncomputable def cnt (P : Nat → Prop) : Nat → Nat
  | 0 => 0
  | k + 1 => cnt P k + (open Classical in if P k then 1 else 0)
theorem cnt_congr {P Q : Nat → Prop} : ∀ {k : Nat}, (∀ j, j < k → (P j ↔ Q j)) → cnt P k = cnt Q k
  | 0, _ => rfl
  | k + 1, h => by
    rw [cnt, cnt, cnt_congr fun j hj => h j (by omega)]
    by_cases hp : P k
    · rw [if_pos hp, if_pos ((h k (by omega)).1 hp)]
    · rw [if_neg hp, if_neg (mt (h k (by omega)).2 hp)]
theorem cnt_yes {P : Nat → Prop} {k : Nat} (h : P k) : cnt P (k + 1) = cnt P k + 1 := by rw [cnt, if_pos h]
theorem cnt_no {P : Nat → Prop} {k : Nat} (h : ¬ P k) : cnt P (k + 1) = cnt P k := by rw [cnt, if_neg h]; rfl
def Lead (f : Nat → Nat) (N k : Nat) : Prop := ∃ C : Nat → Bool, (∀ x, x < N → C x = C (f x)) ∧ C k = true ∧ ∀ j, j < k → C j = false
theorem lead_del {f : Nat → Nat} {N k : Nat} (h : Pm f (N + 1)) (hk : k < N) : Lead f (N + 1) k ↔ Lead (del f N) N k := by
  constructor
  · rintro ⟨C, h1, h2, h3⟩
    refine ⟨C, fun x hx => ?_, h2, h3⟩
    unfold del; split
    · rename_i e
      rw [h1 x (by omega), e, h1 N (by omega)]
    · exact h1 x (by omega)
  · rintro ⟨C, h1, h2, h3⟩
    refine ⟨fun x => if x = N then (if f N = N then false else C (f N)) else C x, fun x hx => ?_, ?_, fun j hj => ?_⟩
    · dsimp only
      by_cases hx2 : x = N
      · subst hx2
        rw [if_pos rfl]
        by_cases e : f x = x
        · rw [if_pos e, if_pos e]
        · rw [if_neg e, if_neg e]
      · rw [if_neg hx2]
        have h4 := h1 x (by omega)
        unfold del at h4
        by_cases e : f x = N
        · have : f N ≠ N := fun e2 => hx2 (h.inj x N (by omega) (by omega) (by rw [e, e2]))
          rw [if_pos e] at h4
          rw [if_pos e, if_neg this, h4]
        · rw [if_neg e] at h4
          rw [if_neg e, h4]
    · dsimp only; rw [if_neg (by omega), h2]
    · dsimp only; rw [if_neg (by omega), h3 j hj]
theorem lead_top {f : Nat → Nat} {N : Nat} (h : Pm f (N + 1)) : Lead f (N + 1) N ↔ f N = N := by
  constructor
  · rintro ⟨C, h1, h2, h3⟩
    by_cases e : f N = N
    · exact e
    · have := h.lt N (by omega)
      have h4 := h3 (f N) (by omega)
      rw [← h1 N (by omega), h2] at h4
      cases h4
  · intro e
    refine ⟨fun x => decide (x = N), fun x hx => ?_, by simp, fun j hj => by simp; omega⟩
    have : x = N ↔ f x = N := ⟨fun e2 => by rw [e2, e], fun e2 => h.inj x N hx (by omega) (by rw [e2, e])⟩
    simp [this]
theorem cyc_lead : ∀ {N : Nat} {f : Nat → Nat}, Pm f N → cyc f N = cnt (Lead f N) N
  | 0, f, h => by rw [cyc, cnt]
  | N + 1, f, h => by
    rw [cyc, cyc_lead h.del, cnt_congr fun j hj => (lead_del h hj).symm]
    by_cases e : f N = N
    · rw [if_pos e, cnt_yes ((lead_top h).2 e)]
    · rw [if_neg e, cnt_no (mt (lead_top h).1 e), Nat.add_zero]
end Go.Scr
namespace Go.Scr
set_option linter.unusedVariables false
set_option linter.unusedSimpArgs false
structure Pn (nx : Int → Int) (m : Nat) : Prop where
  rg : ∀ s, -(m : Int) ≤ s → s < m → -(m : Int) ≤ nx s ∧ nx s < m
  inj : ∀ x y, -(m : Int) ≤ x → x < m → -(m : Int) ≤ y → y < m → nx x = nx y → x = y
def Cl (nx : Int → Int) (m : Nat) (C : Int → Bool) : Prop := ∀ x, -(m : Int) ≤ x → x < m → C x = C (nx x)
theorem mem_getD {l : List Int} {i : Nat} (h : i < l.length) : l.getD i 0 ∈ l := by
  rw [List.getD_eq_getElem?_getD, List.getElem?_eq_getElem h]; exact List.getElem_mem h
theorem getD_mem {l : List Int} {x : Int} (h : x ∈ l) : ∃ i, i < l.length ∧ l.getD i 0 = x := by
  obtain ⟨i, hi, e⟩ := List.getElem_of_mem h
  exact ⟨i, hi, by rw [List.getD_eq_getElem?_getD, List.getElem?_eq_getElem hi]; exact e⟩
theorem nodup_get {l : List Int} (h : l.Nodup) {i j : Nat} (hi : i < l.length) (hj : j < l.length) (e : l.getD i 0 = l.getD j 0) : i = j := by
  rw [List.getD_eq_getElem?_getD, List.getElem?_eq_getElem hi, List.getD_eq_getElem?_getD, List.getElem?_eq_getElem hj] at e
  exact (List.getElem_inj h).1 e
structure Fac (nx : Int → Int) (m : Nat) (f : List Int) : Prop where
  ne : f ≠ []
  cl : ∀ x, -(m : Int) ≤ x → x < m → (x ∈ f ↔ nx x ∈ f)
  ch : ∀ C, Cl nx m C → C (f.getD 0 0) = true → ∀ x ∈ f, C x = true
  st : ∀ i, i + 1 < f.length → f.getD (i + 1) 0 = nx (f.getD i 0)
  en : nx (f.getD (f.length - 1) 0) = f.getD 0 0
theorem walk_face {nx : Int → Int} {m : Nat} (h : Pn nx m) {seen : List Int} {b : Int} (h1 : seen.Nodup) (h2 : ∀ x ∈ seen, -(m : Int) ≤ x ∧ x < m)
    (h3 : ∀ x, -(m : Int) ≤ x → x < m → (x ∈ seen ↔ nx x ∈ seen)) (hb0 : -(m : Int) ≤ b) (hb1 : b < m) (hb : ¬ b ∈ seen) :
    Fac nx m (walk nx seen (2 * m + 1) b []) ∧ (walk nx seen (2 * m + 1) b []).getD 0 0 = b ∧ (seen ++ walk nx seen (2 * m + 1) b []).Nodup ∧ ∀ x ∈ seen ++ walk nx seen (2 * m + 1) b [], -(m : Int) ≤ x ∧ x < m := by
  obtain ⟨st, hW, hs, hne, _⟩ := walk_ok h.rg (2 * m + 1) b [] (Wk.init (b := b) h1 h2 hb0 hb1) (by simp)
  generalize walk nx seen (2 * m + 1) b [] = f at *
  have hne : f ≠ [] := fun e => by rcases hne e with h | h; exact hb h; cases h
  have hl : 0 < f.length := List.length_pos_iff.2 hne
  have hrg : ∀ x ∈ f, -(m : Int) ≤ x ∧ x < m := fun x hx => hW.rg x (by simp [hx])
  have hhd : f.getD 0 0 = b := by
    have := hW.hd
    cases f with
    | nil => exact absurd rfl hne
    | cons a l => simpa using this
  have hnd : f.Nodup := (List.nodup_append.1 hW.nd).2.1
  have hdis : ∀ x ∈ f, ¬ x ∈ seen := fun x hx hs => (List.nodup_append.1 hW.nd).2.2 x hs x hx rfl
  have hla := hW.la hne
  have hlast := mem_getD (l := f) (i := f.length - 1) (by omega)
  have hst : st = b := by
    rcases hs with hs | hs
    · rw [hla] at hs
      exact absurd ((h3 _ (hrg _ hlast).1 (hrg _ hlast).2).2 hs) (hdis _ hlast)
    · obtain ⟨i, hi, hie⟩ := getD_mem hs
      cases i with
      | zero => rw [← hie, hhd]
      | succ i =>
        have h5 := hW.ch i hi
        have h6 := mem_getD (l := f) (i := i) (by omega)
        have h7 := h.inj _ _ (hrg _ h6).1 (hrg _ h6).2 (hrg _ hlast).1 (hrg _ hlast).2 (by rw [← h5, hie, hla])
        have := nodup_get hnd (by omega) (by omega) h7
        omega
  refine ⟨⟨hne, fun x hx0 hx1 => ⟨fun hx => ?_, fun hx => ?_⟩, fun C hC hCb => ?_, hW.ch, by rw [← hla, hst, hhd]⟩, hhd, hW.nd, hW.rg⟩
  · obtain ⟨i, hi, hie⟩ := getD_mem hx
    by_cases hi2 : i + 1 < f.length
    · rw [← hie, ← hW.ch i hi2]; exact mem_getD hi2
    · rw [← hie, show i = f.length - 1 by omega, ← hla, hst, ← hhd]; exact mem_getD hl
  · obtain ⟨i, hi, hie⟩ := getD_mem hx
    cases i with
    | zero =>
      have := h.inj x _ hx0 hx1 (hrg _ hlast).1 (hrg _ hlast).2 (by rw [← hie, hhd, ← hst, hla])
      rw [this]; exact hlast
    | succ i =>
      have h6 := mem_getD (l := f) (i := i) (by omega)
      have := h.inj x _ hx0 hx1 (hrg _ h6).1 (hrg _ h6).2 (by rw [← hie, hW.ch i hi])
      rw [this]; exact h6
  · have : ∀ i, i < f.length → C (f.getD i 0) = true := by
      intro i
      induction i with
      | zero => intro _; exact hCb
      | succ i ih =>
        intro hi
        have h6 := mem_getD (l := f) (i := i) (by omega)
        rw [hW.ch i hi, ← hC _ (hrg _ h6).1 (hrg _ h6).2]
        exact ih (by omega)
    intro x hx
    obtain ⟨i, hi, hie⟩ := getD_mem hx
    rw [← hie]; exact this i hi
def up (nx : Int → Int) (m : Nat) : Nat → Nat := fun k => (nx ((k : Int) - m) + m).toNat
theorem Pn.up {nx : Int → Int} {m : Nat} (h : Pn nx m) : Pm (up nx m) (2 * m) := by
  refine ⟨fun x hx => ?_, fun x y hx hy e => ?_⟩
  · have := h.rg ((x : Int) - m) (by omega) (by omega)
    unfold Scr.up; omega
  · have h1 := h.rg ((x : Int) - m) (by omega) (by omega)
    have h2 := h.rg ((y : Int) - m) (by omega) (by omega)
    unfold Scr.up at e
    have := h.inj ((x : Int) - m) ((y : Int) - m) (by omega) (by omega) (by omega) (by omega) (by omega)
    omega
structure FK (nx : Int → Int) (m k : Nat) (F : List (List Int)) : Prop where
  fac : ∀ f ∈ F, Fac nx m f
  nd : F.flatten.Nodup
  rg : ∀ x ∈ F.flatten, -(m : Int) ≤ x ∧ x < m
  all : ∀ j : Nat, j < k → (j : Int) - m ∈ F.flatten
  hd : ∀ f ∈ F, ∀ x ∈ f, f.getD 0 0 ≤ x
  lt : ∀ f ∈ F, f.getD 0 0 < (k : Int) - m
  inc : (F.map fun f => f.getD 0 0).Pairwise (· < ·)
  cnt : F.length = cnt (Lead (up nx m) (2 * m)) k
theorem FK.cl {nx : Int → Int} {m k : Nat} {F : List (List Int)} (h : FK nx m k F) : ∀ x, -(m : Int) ≤ x → x < m → (x ∈ F.flatten ↔ nx x ∈ F.flatten) := fun x h0 h1 => by
  simp only [List.mem_flatten]
  exact ⟨fun ⟨f, hf, hx⟩ => ⟨f, hf, ((h.fac f hf).cl x h0 h1).1 hx⟩, fun ⟨f, hf, hx⟩ => ⟨f, hf, ((h.fac f hf).cl x h0 h1).2 hx⟩⟩
theorem facesK_FK {nx : Int → Int} {m : Nat} (h : Pn nx m) : ∀ k, k ≤ 2 * m → FK nx m k (facesK nx m k)
  | 0, _ => by
    refine ⟨by simp [facesK], by simp [facesK], by simp [facesK], fun j hj => by omega, by simp [facesK], by simp [facesK], by simp [facesK], rfl⟩
  | k + 1, hk => by
    have H := facesK_FK h k (by omega)
    by_cases hb : (k : Int) - m ∈ (facesK nx m k).flatten
    · rw [facesK_skip hb]
      refine ⟨H.fac, H.nd, H.rg, fun j hj => ?_, H.hd, fun f hf => by have := H.lt f hf; omega, H.inc, ?_⟩
      · by_cases e : j = k
        · subst e; exact hb
        · exact H.all j (by omega)
      · rw [cnt_no, H.cnt]
        rintro ⟨C, h1, h2, h3⟩
        obtain ⟨f, hf, hbf⟩ := List.mem_flatten.1 hb
        have hF := H.fac f hf
        have hl : 0 < f.length := List.length_pos_iff.2 hF.ne
        have h0 := H.rg _ (List.mem_flatten.2 ⟨f, hf, mem_getD hl⟩)
        have hlt := H.lt f hf
        have h4 := hF.ch (fun x => ! C (x + m).toNat) (fun x hx0 hx1 => by
          have h5 := h1 (x + m).toNat (by omega)
          have h6 := h.rg x hx0 hx1
          unfold up at h5
          rw [show (((x + m).toNat : Nat) : Int) - m = x by omega] at h5
          show (! C _) = (! C _)
          rw [h5]) (by show (! C _) = true; rw [h3 _ (by omega)]; rfl) _ hbf
        rw [show ((k : Int) - m + m).toNat = k by omega, h2] at h4
        cases h4
    · rw [facesK_push hb]
      obtain ⟨hF, hd, hnd, hrg⟩ := walk_face h H.nd H.rg H.cl (by omega) (by omega) hb
      generalize walk nx (facesK nx m k).flatten (2 * m + 1) ((k : Int) - m) [] = f at *
      have hfl : (facesK nx m k ++ [f]).flatten = (facesK nx m k).flatten ++ f := by simp
      refine ⟨fun g hg => ?_, by rw [hfl]; exact hnd, by rw [hfl]; exact hrg, fun j hj => ?_, fun g hg x hx => ?_, fun g hg => ?_, ?_, ?_⟩
      · rcases List.mem_append.1 hg with hg | hg
        · exact H.fac g hg
        · simp at hg; subst hg; exact hF
      · rw [hfl, List.mem_append]
        by_cases e : j = k
        · subst e; right
          rw [← hd]; exact mem_getD (List.length_pos_iff.2 hF.ne)
        · exact .inl (H.all j (by omega))
      · rcases List.mem_append.1 hg with hg | hg
        · exact H.hd g hg x hx
        · simp at hg; subst hg
          rw [hd]
          by_cases e : (k : Int) - m ≤ x
          · exact e
          · have h0 := hrg x (by simp [hx])
            have := H.all (x + m).toNat (by omega)
            rw [show (((x + m).toNat : Nat) : Int) - m = x by omega] at this
            exact absurd rfl ((List.nodup_append.1 hnd).2.2 x this x hx)
      · rcases List.mem_append.1 hg with hg | hg
        · have := H.lt g hg; omega
        · simp at hg; subst hg; omega
      · rw [List.map_append, List.pairwise_append]
        refine ⟨H.inc, by simp, fun a ha b hb' => ?_⟩
        obtain ⟨g, hg, rfl⟩ := List.mem_map.1 ha
        simp at hb'; subst hb'
        have := H.lt g hg
        have e : f.getD 0 0 = f[0]?.getD 0 := by rw [List.getD_eq_getElem?_getD]
        omega
      · rw [List.length_append, List.length_singleton, cnt_yes, H.cnt]
        refine ⟨fun j => ! decide ((j : Int) - m ∈ (facesK nx m k).flatten), fun x hx => ?_, by simp only [hb, decide_false, Bool.not_false], fun j hj => by simp only [H.all j hj, decide_true, Bool.not_true]⟩
        have h5 := H.cl ((x : Int) - m) (by omega) (by omega)
        have h6 := h.rg ((x : Int) - m) (by omega) (by omega)
        have : ((up nx m x : Nat) : Int) - m = nx ((x : Int) - m) := by unfold up; omega
        dsimp only
        rw [this]
        simp only [h5]
theorem facesT_FK {nx : Int → Int} {m : Nat} (h : Pn nx m) : FK nx m (2 * m) (facesT nx m) := facesK_FK h _ (Nat.le_refl _)
theorem facesT_cyc {nx : Int → Int} {m : Nat} (h : Pn nx m) : (facesT nx m).length = cyc (up nx m) (2 * m) := by
  rw [(facesT_FK h).cnt, cyc_lead h.up]
end Go.Scr
