/- Leaf functions of the water layer: what each returns. No condition. -/
import Derived.Test.YtohfemfgnohhdaaW2
namespace Go.Proofs.Ytohfemfgnohhdaa
open Go Go.Vc
set_option linter.unusedVariables false
set_option linter.unusedSimpArgs false

theorem fidx_any {p : Int → Bool} : ∀ {us : List Int} {i : Nat}, decide (0 ≤ fidx p i us) = us.any p
  | [], i => by simp [fidx]
  | x :: r, i => by
    have := fidx_any (p := p) (us := r) (i := i + 1)
    cases hx : p x <;> simp [fidx, hx] at this ⊢
    exact this

theorem within1_at (x m : Int) : FnAt Try.prog false 57 [.lit (.int .i64 x), .sadr (.lit (.int .i64 m))] (.lit (.bool (decide (x < 0) || decide (m < x)))) [] := by
  refine FnAt.of_body tys_ok Try.func57 (by rfl) rfl Try.ntmps57 (by rw [Try.results57]) (by simp) ?_
  
  repeat' (first
    | refine W.seq ?_
    | refine W.block ?_
    | (refine W.region tys_ok [] ?_; conv => whnf)
    | (refine W.drawAll tys_ok [] mixed rfl ?_; conv => whnf)
    | (refine W.ret ?_; conv => whnf)
    | (refine W.skip ?_; conv => whnf)
    | (refine W.exit ?_; conv => whnf)
    | (refine W.cond rfl (fun hb => ?_) (fun hb => ?_) <;> (try simp only [minL, maxL, pickB, getD_int, getD_sl, getD_bool, len_int, len_sl, len_bool, decide_eq_true_eq, decide_eq_false_iff_not, Bool.and_eq_true, Bool.or_eq_true, Bool.and_eq_false_iff, Bool.or_eq_false_iff, Bool.not_eq_true', Bool.not_eq_false', Int.toNat_natCast, Int.ofNat_lt, Int.ofNat_le, not_true_eq_false, not_false_eq_true, or_false, false_or, and_true, true_and, or_true, true_or, and_false, false_and] at hb) <;> (try (first | (cases hb; done) | exact absurd hb (by decide) | (exfalso; omega))))
    | ((with_reducible refine And.intro ?_ ?_); (focus ((repeat' (first | rfl | exact Or.inl rfl | exact Or.inr rfl | (with_reducible refine And.intro ?_ ?_) | omega | (focus ((try simp only [minL, maxL, pickB, getD_int, getD_sl, getD_bool, len_int, len_sl, len_bool, decide_eq_true_eq, decide_eq_false_iff_not, Bool.and_eq_true, Bool.or_eq_true, Bool.and_eq_false_iff, Bool.or_eq_false_iff, Bool.not_eq_true', Bool.not_eq_false', Int.toNat_natCast, Int.ofNat_lt, Int.ofNat_le, not_true_eq_false, not_false_eq_true, or_false, false_or, and_true, true_and, or_true, true_or, and_false, false_and, InK, Path.imp] at *); omega)))); done)); (conv => whnf))
    | ((with_reducible refine And.intro (Side.out ?_) ?_); rotate_left; (conv => whnf))
    | (refine Exists.intro _ (And.intro rfl (And.intro rfl (And.intro ?_ ?_))) <;> (conv => whnf) <;> repeat' (first
    | exact trivial
    | rfl
    | (refine And.intro (fun h => h) (Or.inl ?_))
    | (refine And.intro (fun _ => rfl) (Or.inl ?_))
    | (refine And.intro (fun h => Bool.noConfusion h) (Or.inl ?_))
    | (with_reducible refine And.intro (fun _ => rfl) ?_)
    | ((with_reducible refine And.intro ?_ ?_) <;> conv => whnf)
    | (refine congrArg (Value.int _) ?_)
    | (refine congrArg (SV.arr _) ?_)
    | (refine congrArg Value.bool ?_)))); all_goals (try unfold Side)
theorem worth1_at (x : Int) : FnAt Try.prog false 51 [.lit (.int .i64 x)] (.lit (.bool (decide (x < 0)))) [] := by
  refine FnAt.of_body tys_ok Try.func51 (by rfl) rfl Try.ntmps51 (by rw [Try.results51]) (by simp) ?_
  
  repeat' (first
    | refine W.seq ?_
    | refine W.block ?_
    | (refine W.region tys_ok [] ?_; conv => whnf)
    | (refine W.drawAll tys_ok [] mixed rfl ?_; conv => whnf)
    | (refine W.ret ?_; conv => whnf)
    | (refine W.skip ?_; conv => whnf)
    | (refine W.exit ?_; conv => whnf)
    | (refine W.cond rfl (fun hb => ?_) (fun hb => ?_) <;> (try simp only [minL, maxL, pickB, getD_int, getD_sl, getD_bool, len_int, len_sl, len_bool, decide_eq_true_eq, decide_eq_false_iff_not, Bool.and_eq_true, Bool.or_eq_true, Bool.and_eq_false_iff, Bool.or_eq_false_iff, Bool.not_eq_true', Bool.not_eq_false', Int.toNat_natCast, Int.ofNat_lt, Int.ofNat_le, not_true_eq_false, not_false_eq_true, or_false, false_or, and_true, true_and, or_true, true_or, and_false, false_and] at hb) <;> (try (first | (cases hb; done) | exact absurd hb (by decide) | (exfalso; omega))))
    | ((with_reducible refine And.intro ?_ ?_); (focus ((repeat' (first | rfl | exact Or.inl rfl | exact Or.inr rfl | (with_reducible refine And.intro ?_ ?_) | omega | (focus ((try simp only [minL, maxL, pickB, getD_int, getD_sl, getD_bool, len_int, len_sl, len_bool, decide_eq_true_eq, decide_eq_false_iff_not, Bool.and_eq_true, Bool.or_eq_true, Bool.and_eq_false_iff, Bool.or_eq_false_iff, Bool.not_eq_true', Bool.not_eq_false', Int.toNat_natCast, Int.ofNat_lt, Int.ofNat_le, not_true_eq_false, not_false_eq_true, or_false, false_or, and_true, true_and, or_true, true_or, and_false, false_and, InK, Path.imp] at *); omega)))); done)); (conv => whnf))
    | ((with_reducible refine And.intro (Side.out ?_) ?_); rotate_left; (conv => whnf))
    | (refine Exists.intro _ (And.intro rfl (And.intro rfl (And.intro ?_ ?_))) <;> (conv => whnf) <;> repeat' (first
    | exact trivial
    | rfl
    | (refine And.intro (fun h => h) (Or.inl ?_))
    | (refine And.intro (fun _ => rfl) (Or.inl ?_))
    | (refine And.intro (fun h => Bool.noConfusion h) (Or.inl ?_))
    | (with_reducible refine And.intro (fun _ => rfl) ?_)
    | ((with_reducible refine And.intro ?_ ?_) <;> conv => whnf)
    | (refine congrArg (Value.int _) ?_)
    | (refine congrArg (SV.arr _) ?_)
    | (refine congrArg Value.bool ?_)))); all_goals (try unfold Side)
theorem indexFunc_at (us : List Int) (m : Int) (hn : us.length ≤ 1000) :
    FnAt Try.prog false 58 [.arr (.int .i64) us, .fn 57 [.sadr (.lit (.int .i64 m))]] (.lit (.int .i64 (fidx (fun x => decide (x < 0) || decide (m < x)) 0 us))) [] := by
  refine FnAt.of_body tys_ok Try.func58 (by rfl) rfl Try.ntmps58 (by rw [Try.results58]) (by simp) ?_
  
  repeat' (first
    | refine W.seq ?_
    | refine W.block ?_
    | (refine W.region tys_ok [] ?_; conv => whnf)
    | (refine W.drawAll tys_ok [] mixed rfl ?_; conv => whnf)
    | (refine W.ret ?_; conv => whnf)
    | (refine W.skip ?_; conv => whnf)
    | (refine W.exit ?_; conv => whnf)
    | (refine W.cond rfl (fun hb => ?_) (fun hb => ?_) <;> (try simp only [minL, maxL, pickB, getD_int, getD_sl, getD_bool, len_int, len_sl, len_bool, decide_eq_true_eq, decide_eq_false_iff_not, Bool.and_eq_true, Bool.or_eq_true, Bool.and_eq_false_iff, Bool.or_eq_false_iff, Bool.not_eq_true', Bool.not_eq_false', Int.toNat_natCast, Int.ofNat_lt, Int.ofNat_le, not_true_eq_false, not_false_eq_true, or_false, false_or, and_true, true_and, or_true, true_or, and_false, false_and] at hb) <;> (try (first | (cases hb; done) | exact absurd hb (by decide) | (exfalso; omega))))
    | ((with_reducible refine And.intro ?_ ?_); (focus ((repeat' (first | rfl | exact Or.inl rfl | exact Or.inr rfl | (with_reducible refine And.intro ?_ ?_) | omega | (focus ((try simp only [minL, maxL, pickB, getD_int, getD_sl, getD_bool, len_int, len_sl, len_bool, decide_eq_true_eq, decide_eq_false_iff_not, Bool.and_eq_true, Bool.or_eq_true, Bool.and_eq_false_iff, Bool.or_eq_false_iff, Bool.not_eq_true', Bool.not_eq_false', Int.toNat_natCast, Int.ofNat_lt, Int.ofNat_le, not_true_eq_false, not_false_eq_true, or_false, false_or, and_true, true_and, or_true, true_or, and_false, false_and, InK, Path.imp] at *); omega)))); done)); (conv => whnf))
    | ((with_reducible refine And.intro (Side.out ?_) ?_); rotate_left; (conv => whnf))
    | (refine Exists.intro _ (And.intro rfl (And.intro rfl (And.intro ?_ ?_))) <;> (conv => whnf) <;> repeat' (first
    | exact trivial
    | rfl
    | (refine And.intro (fun h => h) (Or.inl ?_))
    | (refine And.intro (fun _ => rfl) (Or.inl ?_))
    | (refine And.intro (fun h => Bool.noConfusion h) (Or.inl ?_))
    | (with_reducible refine And.intro (fun _ => rfl) ?_)
    | ((with_reducible refine And.intro ?_ ?_) <;> conv => whnf)
    | (refine congrArg (Value.int _) ?_)
    | (refine congrArg (SV.arr _) ?_)
    | (refine congrArg Value.bool ?_)))); all_goals (try unfold Side)
  refine W.loop (fun i : Nat => ⟨[(0, .st false (.arr (.int .i64) us)), (1, .fn 57 [.st false (.sadr (.lit (.int .i64 m)))]), (7, .lit (.int .i64 us.length)), (8, .lit (.int .i64 i))], []⟩)
    (fun i => i ≤ us.length ∧ fidx (fun x => decide (x < 0) || decide (m < x)) 0 us = fidx (fun x => decide (x < 0) || decide (m < x)) i (us.drop i)) (fun i => us.length - i) 0 ?_ ?_
  · refine ⟨by simp, ?_⟩
    refine ⟨rfl, ?_, ?_⟩ <;> (conv => whnf) <;> repeat' (first
    | exact trivial
    | rfl
    | (refine And.intro (fun h => h) (Or.inl ?_))
    | (refine And.intro (fun _ => rfl) (Or.inl ?_))
    | (refine And.intro (fun h => Bool.noConfusion h) (Or.inl ?_))
    | (with_reducible refine And.intro (fun _ => rfl) ?_)
    | ((with_reducible refine And.intro ?_ ?_) <;> conv => whnf)
    | (refine congrArg (Value.int _) ?_)
    | (refine congrArg (SV.arr _) ?_)
    | (refine congrArg Value.bool ?_))
  · rintro i ⟨hi, hp⟩
    dsimp only at hi hp ⊢
    by_cases hil : i < us.length
    · rw [drop_getD 0 hil] at hp
      simp only [fidx] at hp
      repeat' (first
    | refine W.seq ?_
    | refine W.block ?_
    | (refine W.region tys_ok [] ?_; conv => whnf)
    | (refine W.drawAll tys_ok [] mixed rfl ?_; conv => whnf)
    | (refine W.ret ?_; conv => whnf)
    | (refine W.skip ?_; conv => whnf)
    | (refine W.exit ?_; conv => whnf)
    | (refine ⟨false, _, _, _, _, rfl, Path.imp_of (within1_at _ _), rfl, rfl, rfl, ?_⟩; conv => whnf)
    | (refine W.cond rfl (fun hb => ?_) (fun hb => ?_) <;> (try simp only [minL, maxL, pickB, getD_int, getD_sl, getD_bool, len_int, len_sl, len_bool, decide_eq_true_eq, decide_eq_false_iff_not, Bool.and_eq_true, Bool.or_eq_true, Bool.and_eq_false_iff, Bool.or_eq_false_iff, Bool.not_eq_true', Bool.not_eq_false', Int.toNat_natCast, Int.ofNat_lt, Int.ofNat_le, not_true_eq_false, not_false_eq_true, or_false, false_or, and_true, true_and, or_true, true_or, and_false, false_and] at hb) <;> (try (first | (cases hb; done) | exact absurd hb (by decide) | (exfalso; omega))))
    | ((with_reducible refine And.intro ?_ ?_); (focus ((repeat' (first | rfl | exact Or.inl rfl | exact Or.inr rfl | (with_reducible refine And.intro ?_ ?_) | omega | (focus ((try simp only [minL, maxL, pickB, getD_int, getD_sl, getD_bool, len_int, len_sl, len_bool, decide_eq_true_eq, decide_eq_false_iff_not, Bool.and_eq_true, Bool.or_eq_true, Bool.and_eq_false_iff, Bool.or_eq_false_iff, Bool.not_eq_true', Bool.not_eq_false', Int.toNat_natCast, Int.ofNat_lt, Int.ofNat_le, not_true_eq_false, not_false_eq_true, or_false, false_or, and_true, true_and, or_true, true_or, and_false, false_and, InK, Path.imp] at *); omega)))); done)); (conv => whnf))
    | ((with_reducible refine And.intro (Side.out ?_) ?_); rotate_left; (conv => whnf))
    | (refine Exists.intro _ (And.intro rfl (And.intro rfl (And.intro ?_ ?_))) <;> (conv => whnf) <;> repeat' (first
    | exact trivial
    | rfl
    | (refine And.intro (fun h => h) (Or.inl ?_))
    | (refine And.intro (fun _ => rfl) (Or.inl ?_))
    | (refine And.intro (fun h => Bool.noConfusion h) (Or.inl ?_))
    | (with_reducible refine And.intro (fun _ => rfl) ?_)
    | ((with_reducible refine And.intro ?_ ?_) <;> conv => whnf)
    | (refine congrArg (Value.int _) ?_)
    | (refine congrArg (SV.arr _) ?_)
    | (refine congrArg Value.bool ?_)))); all_goals (try unfold Side)
      all_goals try (repeat' (first | rfl | exact Or.inl rfl | exact Or.inr rfl | (with_reducible refine And.intro ?_ ?_) | omega | (focus ((try simp only [minL, maxL, pickB, getD_int, getD_sl, getD_bool, len_int, len_sl, len_bool, decide_eq_true_eq, decide_eq_false_iff_not, Bool.and_eq_true, Bool.or_eq_true, Bool.and_eq_false_iff, Bool.or_eq_false_iff, Bool.not_eq_true', Bool.not_eq_false', Int.toNat_natCast, Int.ofNat_lt, Int.ofNat_le, not_true_eq_false, not_false_eq_true, or_false, false_or, and_true, true_and, or_true, true_or, and_false, false_and, InK, Path.imp] at *); omega))))
      · rename_i hb
        have : (decide (us.getD i 0 < 0) || decide (m < us.getD i 0)) = true := by simp only [Bool.or_eq_true, decide_eq_true_eq]; exact hb
        rw [hp, this]
        rfl
      · rename_i hb
        have : (decide (us.getD i 0 < 0) || decide (m < us.getD i 0)) = false := by simp only [Bool.or_eq_false_iff, decide_eq_false_iff_not]; exact hb
        rw [this] at hp
        refine ⟨i + 1, ⟨⟨by omega, hp⟩, by omega⟩, ?_⟩
        refine ⟨rfl, ?_, ?_⟩ <;> (conv => whnf) <;> repeat' (first
    | exact trivial
    | rfl
    | (refine And.intro (fun h => h) (Or.inl ?_))
    | (refine And.intro (fun _ => rfl) (Or.inl ?_))
    | (refine And.intro (fun h => Bool.noConfusion h) (Or.inl ?_))
    | (with_reducible refine And.intro (fun _ => rfl) ?_)
    | ((with_reducible refine And.intro ?_ ?_) <;> conv => whnf)
    | (refine congrArg (Value.int _) ?_)
    | (refine congrArg (SV.arr _) ?_)
    | (refine congrArg Value.bool ?_))
    · have hi' : i = us.length := by omega
      subst hi'
      rw [List.drop_length] at hp
      repeat' (first
    | refine W.seq ?_
    | refine W.block ?_
    | (refine W.region tys_ok [] ?_; conv => whnf)
    | (refine W.drawAll tys_ok [] mixed rfl ?_; conv => whnf)
    | (refine W.ret ?_; conv => whnf)
    | (refine W.skip ?_; conv => whnf)
    | (refine W.exit ?_; conv => whnf)
    | (refine W.cond rfl (fun hb => ?_) (fun hb => ?_) <;> (try simp only [minL, maxL, pickB, getD_int, getD_sl, getD_bool, len_int, len_sl, len_bool, decide_eq_true_eq, decide_eq_false_iff_not, Bool.and_eq_true, Bool.or_eq_true, Bool.and_eq_false_iff, Bool.or_eq_false_iff, Bool.not_eq_true', Bool.not_eq_false', Int.toNat_natCast, Int.ofNat_lt, Int.ofNat_le, not_true_eq_false, not_false_eq_true, or_false, false_or, and_true, true_and, or_true, true_or, and_false, false_and] at hb) <;> (try (first | (cases hb; done) | exact absurd hb (by decide) | (exfalso; omega))))
    | ((with_reducible refine And.intro ?_ ?_); (focus ((repeat' (first | rfl | exact Or.inl rfl | exact Or.inr rfl | (with_reducible refine And.intro ?_ ?_) | omega | (focus ((try simp only [minL, maxL, pickB, getD_int, getD_sl, getD_bool, len_int, len_sl, len_bool, decide_eq_true_eq, decide_eq_false_iff_not, Bool.and_eq_true, Bool.or_eq_true, Bool.and_eq_false_iff, Bool.or_eq_false_iff, Bool.not_eq_true', Bool.not_eq_false', Int.toNat_natCast, Int.ofNat_lt, Int.ofNat_le, not_true_eq_false, not_false_eq_true, or_false, false_or, and_true, true_and, or_true, true_or, and_false, false_and, InK, Path.imp] at *); omega)))); done)); (conv => whnf))
    | ((with_reducible refine And.intro (Side.out ?_) ?_); rotate_left; (conv => whnf))
    | (refine Exists.intro _ (And.intro rfl (And.intro rfl (And.intro ?_ ?_))) <;> (conv => whnf) <;> repeat' (first
    | exact trivial
    | rfl
    | (refine And.intro (fun h => h) (Or.inl ?_))
    | (refine And.intro (fun _ => rfl) (Or.inl ?_))
    | (refine And.intro (fun h => Bool.noConfusion h) (Or.inl ?_))
    | (with_reducible refine And.intro (fun _ => rfl) ?_)
    | ((with_reducible refine And.intro ?_ ?_) <;> conv => whnf)
    | (refine congrArg (Value.int _) ?_)
    | (refine congrArg (SV.arr _) ?_)
    | (refine congrArg Value.bool ?_)))); all_goals (try unfold Side)
      all_goals try (repeat' (first | rfl | exact Or.inl rfl | exact Or.inr rfl | (with_reducible refine And.intro ?_ ?_) | omega | (focus ((try simp only [minL, maxL, pickB, getD_int, getD_sl, getD_bool, len_int, len_sl, len_bool, decide_eq_true_eq, decide_eq_false_iff_not, Bool.and_eq_true, Bool.or_eq_true, Bool.and_eq_false_iff, Bool.or_eq_false_iff, Bool.not_eq_true', Bool.not_eq_false', Int.toNat_natCast, Int.ofNat_lt, Int.ofNat_le, not_true_eq_false, not_false_eq_true, or_false, false_or, and_true, true_and, or_true, true_or, and_false, false_and, InK, Path.imp] at *); omega))))
      rw [hp]
      rfl
theorem containsFunc_at (us : List Int) (m : Int) (hn : us.length ≤ 1000) :
    FnAt Try.prog false 50 [.arr (.int .i64) us, .fn 57 [.sadr (.lit (.int .i64 m))]] (.lit (.bool (us.any fun x => decide (x < 0) || decide (m < x)))) [] := by
  refine FnAt.of_body tys_ok Try.func50 (by rfl) rfl Try.ntmps50 (by rw [Try.results50]) (by simp) ?_
  
  repeat' (first
    | refine W.seq ?_
    | refine W.block ?_
    | (refine W.region tys_ok [] ?_; conv => whnf)
    | (refine W.drawAll tys_ok [] mixed rfl ?_; conv => whnf)
    | (refine W.ret ?_; conv => whnf)
    | (refine W.skip ?_; conv => whnf)
    | (refine W.exit ?_; conv => whnf)
    | (refine ⟨false, _, _, _, _, rfl, Path.imp_of (indexFunc_at _ _ hn), rfl, rfl, rfl, ?_⟩; conv => whnf)
    | (refine W.cond rfl (fun hb => ?_) (fun hb => ?_) <;> (try simp only [minL, maxL, pickB, getD_int, getD_sl, getD_bool, len_int, len_sl, len_bool, decide_eq_true_eq, decide_eq_false_iff_not, Bool.and_eq_true, Bool.or_eq_true, Bool.and_eq_false_iff, Bool.or_eq_false_iff, Bool.not_eq_true', Bool.not_eq_false', Int.toNat_natCast, Int.ofNat_lt, Int.ofNat_le, not_true_eq_false, not_false_eq_true, or_false, false_or, and_true, true_and, or_true, true_or, and_false, false_and] at hb) <;> (try (first | (cases hb; done) | exact absurd hb (by decide) | (exfalso; omega))))
    | ((with_reducible refine And.intro ?_ ?_); (focus ((repeat' (first | rfl | exact Or.inl rfl | exact Or.inr rfl | (with_reducible refine And.intro ?_ ?_) | omega | (focus ((try simp only [minL, maxL, pickB, getD_int, getD_sl, getD_bool, len_int, len_sl, len_bool, decide_eq_true_eq, decide_eq_false_iff_not, Bool.and_eq_true, Bool.or_eq_true, Bool.and_eq_false_iff, Bool.or_eq_false_iff, Bool.not_eq_true', Bool.not_eq_false', Int.toNat_natCast, Int.ofNat_lt, Int.ofNat_le, not_true_eq_false, not_false_eq_true, or_false, false_or, and_true, true_and, or_true, true_or, and_false, false_and, InK, Path.imp] at *); omega)))); done)); (conv => whnf))
    | ((with_reducible refine And.intro (Side.out ?_) ?_); rotate_left; (conv => whnf))
    | (refine Exists.intro _ (And.intro rfl (And.intro rfl (And.intro ?_ ?_))) <;> (conv => whnf) <;> repeat' (first
    | exact trivial
    | rfl
    | (refine And.intro (fun h => h) (Or.inl ?_))
    | (refine And.intro (fun _ => rfl) (Or.inl ?_))
    | (refine And.intro (fun h => Bool.noConfusion h) (Or.inl ?_))
    | (with_reducible refine And.intro (fun _ => rfl) ?_)
    | ((with_reducible refine And.intro ?_ ?_) <;> conv => whnf)
    | (refine congrArg (Value.int _) ?_)
    | (refine congrArg (SV.arr _) ?_)
    | (refine congrArg Value.bool ?_)))); all_goals (try unfold Side)
  exact fidx_any
theorem within_at (us : List Int) (m : Int) (hn : us.length ≤ 1000) :
    FnAt Try.prog false 45 [.arr (.int .i64) us, .lit (.int .i64 m)] (.lit (.bool (!(us.any fun x => decide (x < 0) || decide (m < x))))) [] := by
  refine FnAt.of_body tys_ok Try.func45 (by rfl) rfl Try.ntmps45 (by rw [Try.results45]) (by simp) ?_
  
  repeat' (first
    | refine W.seq ?_
    | refine W.block ?_
    | (refine W.region tys_ok [] ?_; conv => whnf)
    | (refine W.drawAll tys_ok [] mixed rfl ?_; conv => whnf)
    | (refine W.ret ?_; conv => whnf)
    | (refine W.skip ?_; conv => whnf)
    | (refine W.exit ?_; conv => whnf)
    | (refine ⟨false, _, _, _, _, rfl, Path.imp_of (containsFunc_at _ _ hn), rfl, rfl, rfl, ?_⟩; conv => whnf)
    | (refine W.cond rfl (fun hb => ?_) (fun hb => ?_) <;> (try simp only [minL, maxL, pickB, getD_int, getD_sl, getD_bool, len_int, len_sl, len_bool, decide_eq_true_eq, decide_eq_false_iff_not, Bool.and_eq_true, Bool.or_eq_true, Bool.and_eq_false_iff, Bool.or_eq_false_iff, Bool.not_eq_true', Bool.not_eq_false', Int.toNat_natCast, Int.ofNat_lt, Int.ofNat_le, not_true_eq_false, not_false_eq_true, or_false, false_or, and_true, true_and, or_true, true_or, and_false, false_and] at hb) <;> (try (first | (cases hb; done) | exact absurd hb (by decide) | (exfalso; omega))))
    | ((with_reducible refine And.intro ?_ ?_); (focus ((repeat' (first | rfl | exact Or.inl rfl | exact Or.inr rfl | (with_reducible refine And.intro ?_ ?_) | omega | (focus ((try simp only [minL, maxL, pickB, getD_int, getD_sl, getD_bool, len_int, len_sl, len_bool, decide_eq_true_eq, decide_eq_false_iff_not, Bool.and_eq_true, Bool.or_eq_true, Bool.and_eq_false_iff, Bool.or_eq_false_iff, Bool.not_eq_true', Bool.not_eq_false', Int.toNat_natCast, Int.ofNat_lt, Int.ofNat_le, not_true_eq_false, not_false_eq_true, or_false, false_or, and_true, true_and, or_true, true_or, and_false, false_and, InK, Path.imp] at *); omega)))); done)); (conv => whnf))
    | ((with_reducible refine And.intro (Side.out ?_) ?_); rotate_left; (conv => whnf))
    | (refine Exists.intro _ (And.intro rfl (And.intro rfl (And.intro ?_ ?_))) <;> (conv => whnf) <;> repeat' (first
    | exact trivial
    | rfl
    | (refine And.intro (fun h => h) (Or.inl ?_))
    | (refine And.intro (fun _ => rfl) (Or.inl ?_))
    | (refine And.intro (fun h => Bool.noConfusion h) (Or.inl ?_))
    | (with_reducible refine And.intro (fun _ => rfl) ?_)
    | ((with_reducible refine And.intro ?_ ?_) <;> conv => whnf)
    | (refine congrArg (Value.int _) ?_)
    | (refine congrArg (SV.arr _) ?_)
    | (refine congrArg Value.bool ?_)))); all_goals (try unfold Side)

theorem same_at (a b : List Int) (hn : a.length ≤ 1000) (hnb : b.length ≤ 1000) :
    FnAt Try.prog false 20 [.arr (.int .i64) a, .arr (.int .i64) b] (.lit (.bool (decide (a = b)))) [] := by
  refine FnAt.of_body tys_ok Try.func20 (by rfl) rfl Try.ntmps20 (by rw [Try.results20]) (by simp) ?_
  
  repeat' (first
    | refine W.seq ?_
    | refine W.block ?_
    | (refine W.region tys_ok [] ?_; conv => whnf)
    | (refine W.drawAll tys_ok [] mixed rfl ?_; conv => whnf)
    | (refine W.ret ?_; conv => whnf)
    | (refine W.skip ?_; conv => whnf)
    | (refine W.exit ?_; conv => whnf)
    | (refine W.cond rfl (fun hb => ?_) (fun hb => ?_) <;> (try simp only [minL, maxL, pickB, getD_int, getD_sl, getD_bool, len_int, len_sl, len_bool, decide_eq_true_eq, decide_eq_false_iff_not, Bool.and_eq_true, Bool.or_eq_true, Bool.and_eq_false_iff, Bool.or_eq_false_iff, Bool.not_eq_true', Bool.not_eq_false', Int.toNat_natCast, Int.ofNat_lt, Int.ofNat_le, not_true_eq_false, not_false_eq_true, or_false, false_or, and_true, true_and, or_true, true_or, and_false, false_and] at hb) <;> (try (first | (cases hb; done) | exact absurd hb (by decide) | (exfalso; omega))))
    | ((with_reducible refine And.intro ?_ ?_); (focus ((repeat' (first | rfl | exact Or.inl rfl | exact Or.inr rfl | (with_reducible refine And.intro ?_ ?_) | omega | (focus ((try simp only [minL, maxL, pickB, getD_int, getD_sl, getD_bool, len_int, len_sl, len_bool, decide_eq_true_eq, decide_eq_false_iff_not, Bool.and_eq_true, Bool.or_eq_true, Bool.and_eq_false_iff, Bool.or_eq_false_iff, Bool.not_eq_true', Bool.not_eq_false', Int.toNat_natCast, Int.ofNat_lt, Int.ofNat_le, not_true_eq_false, not_false_eq_true, or_false, false_or, and_true, true_and, or_true, true_or, and_false, false_and, InK, Path.imp] at *); omega)))); done)); (conv => whnf))
    | ((with_reducible refine And.intro (Side.out ?_) ?_); rotate_left; (conv => whnf))
    | (refine Exists.intro _ (And.intro rfl (And.intro rfl (And.intro ?_ ?_))) <;> (conv => whnf) <;> repeat' (first
    | exact trivial
    | rfl
    | (refine And.intro (fun h => h) (Or.inl ?_))
    | (refine And.intro (fun _ => rfl) (Or.inl ?_))
    | (refine And.intro (fun h => Bool.noConfusion h) (Or.inl ?_))
    | (with_reducible refine And.intro (fun _ => rfl) ?_)
    | ((with_reducible refine And.intro ?_ ?_) <;> conv => whnf)
    | (refine congrArg (Value.int _) ?_)
    | (refine congrArg (SV.arr _) ?_)
    | (refine congrArg Value.bool ?_)))); all_goals (try unfold Side)
  · symm
    simp only [decide_eq_false_iff_not]
    intro e
    subst e
    omega
  have hlen : a.length = b.length := by omega
  refine W.loop (fun i : Nat => ⟨[(0, .st false (.arr (.int .i64) a)), (1, .st false (.arr (.int .i64) b)), (5, .lit (.int .i64 i))], []⟩)
    (fun i => i ≤ a.length ∧ (a.drop i = b.drop i ↔ a = b)) (fun i => a.length - i) 0 ?_ ?_
  · refine ⟨by simp, ?_⟩
    refine ⟨rfl, ?_, ?_⟩ <;> (conv => whnf) <;> repeat' (first
    | exact trivial
    | rfl
    | (refine And.intro (fun h => h) (Or.inl ?_))
    | (refine And.intro (fun _ => rfl) (Or.inl ?_))
    | (refine And.intro (fun h => Bool.noConfusion h) (Or.inl ?_))
    | (with_reducible refine And.intro (fun _ => rfl) ?_)
    | ((with_reducible refine And.intro ?_ ?_) <;> conv => whnf)
    | (refine congrArg (Value.int _) ?_)
    | (refine congrArg (SV.arr _) ?_)
    | (refine congrArg Value.bool ?_))
  · rintro i ⟨hi, hp⟩
    dsimp only at hi hp ⊢
    by_cases hil : i < a.length
    · rw [drop_getD 0 hil, drop_getD 0 (by omega : i < b.length)] at hp
      repeat' (first
    | refine W.seq ?_
    | refine W.block ?_
    | (refine W.region tys_ok [] ?_; conv => whnf)
    | (refine W.drawAll tys_ok [] mixed rfl ?_; conv => whnf)
    | (refine W.ret ?_; conv => whnf)
    | (refine W.skip ?_; conv => whnf)
    | (refine W.exit ?_; conv => whnf)
    | (refine W.cond rfl (fun hb => ?_) (fun hb => ?_) <;> (try simp only [minL, maxL, pickB, getD_int, getD_sl, getD_bool, len_int, len_sl, len_bool, decide_eq_true_eq, decide_eq_false_iff_not, Bool.and_eq_true, Bool.or_eq_true, Bool.and_eq_false_iff, Bool.or_eq_false_iff, Bool.not_eq_true', Bool.not_eq_false', Int.toNat_natCast, Int.ofNat_lt, Int.ofNat_le, not_true_eq_false, not_false_eq_true, or_false, false_or, and_true, true_and, or_true, true_or, and_false, false_and] at hb) <;> (try (first | (cases hb; done) | exact absurd hb (by decide) | (exfalso; omega))))
    | ((with_reducible refine And.intro ?_ ?_); (focus ((repeat' (first | rfl | exact Or.inl rfl | exact Or.inr rfl | (with_reducible refine And.intro ?_ ?_) | omega | (focus ((try simp only [minL, maxL, pickB, getD_int, getD_sl, getD_bool, len_int, len_sl, len_bool, decide_eq_true_eq, decide_eq_false_iff_not, Bool.and_eq_true, Bool.or_eq_true, Bool.and_eq_false_iff, Bool.or_eq_false_iff, Bool.not_eq_true', Bool.not_eq_false', Int.toNat_natCast, Int.ofNat_lt, Int.ofNat_le, not_true_eq_false, not_false_eq_true, or_false, false_or, and_true, true_and, or_true, true_or, and_false, false_and, InK, Path.imp] at *); omega)))); done)); (conv => whnf))
    | ((with_reducible refine And.intro (Side.out ?_) ?_); rotate_left; (conv => whnf))
    | (refine Exists.intro _ (And.intro rfl (And.intro rfl (And.intro ?_ ?_))) <;> (conv => whnf) <;> repeat' (first
    | exact trivial
    | rfl
    | (refine And.intro (fun h => h) (Or.inl ?_))
    | (refine And.intro (fun _ => rfl) (Or.inl ?_))
    | (refine And.intro (fun h => Bool.noConfusion h) (Or.inl ?_))
    | (with_reducible refine And.intro (fun _ => rfl) ?_)
    | ((with_reducible refine And.intro ?_ ?_) <;> conv => whnf)
    | (refine congrArg (Value.int _) ?_)
    | (refine congrArg (SV.arr _) ?_)
    | (refine congrArg Value.bool ?_)))); all_goals (try unfold Side)
      all_goals try (repeat' (first | rfl | exact Or.inl rfl | exact Or.inr rfl | (with_reducible refine And.intro ?_ ?_) | omega | (focus ((try simp only [minL, maxL, pickB, getD_int, getD_sl, getD_bool, len_int, len_sl, len_bool, decide_eq_true_eq, decide_eq_false_iff_not, Bool.and_eq_true, Bool.or_eq_true, Bool.and_eq_false_iff, Bool.or_eq_false_iff, Bool.not_eq_true', Bool.not_eq_false', Int.toNat_natCast, Int.ofNat_lt, Int.ofNat_le, not_true_eq_false, not_false_eq_true, or_false, false_or, and_true, true_and, or_true, true_or, and_false, false_and, InK, Path.imp] at *); omega))))
      · rename_i hb
        symm
        simp only [decide_eq_false_iff_not]
        intro e
        subst e
        exact hb rfl
      · rename_i hb
        refine ⟨i + 1, ⟨⟨by omega, ?_⟩, by omega⟩, ?_⟩
        · rw [← hp, hb]
          simp
        · refine ⟨rfl, ?_, ?_⟩ <;> (conv => whnf) <;> repeat' (first
    | exact trivial
    | rfl
    | (refine And.intro (fun h => h) (Or.inl ?_))
    | (refine And.intro (fun _ => rfl) (Or.inl ?_))
    | (refine And.intro (fun h => Bool.noConfusion h) (Or.inl ?_))
    | (with_reducible refine And.intro (fun _ => rfl) ?_)
    | ((with_reducible refine And.intro ?_ ?_) <;> conv => whnf)
    | (refine congrArg (Value.int _) ?_)
    | (refine congrArg (SV.arr _) ?_)
    | (refine congrArg Value.bool ?_))
    · have hi' : i = a.length := by omega
      subst hi'
      repeat' (first
    | refine W.seq ?_
    | refine W.block ?_
    | (refine W.region tys_ok [] ?_; conv => whnf)
    | (refine W.drawAll tys_ok [] mixed rfl ?_; conv => whnf)
    | (refine W.ret ?_; conv => whnf)
    | (refine W.skip ?_; conv => whnf)
    | (refine W.exit ?_; conv => whnf)
    | (refine W.cond rfl (fun hb => ?_) (fun hb => ?_) <;> (try simp only [minL, maxL, pickB, getD_int, getD_sl, getD_bool, len_int, len_sl, len_bool, decide_eq_true_eq, decide_eq_false_iff_not, Bool.and_eq_true, Bool.or_eq_true, Bool.and_eq_false_iff, Bool.or_eq_false_iff, Bool.not_eq_true', Bool.not_eq_false', Int.toNat_natCast, Int.ofNat_lt, Int.ofNat_le, not_true_eq_false, not_false_eq_true, or_false, false_or, and_true, true_and, or_true, true_or, and_false, false_and] at hb) <;> (try (first | (cases hb; done) | exact absurd hb (by decide) | (exfalso; omega))))
    | ((with_reducible refine And.intro ?_ ?_); (focus ((repeat' (first | rfl | exact Or.inl rfl | exact Or.inr rfl | (with_reducible refine And.intro ?_ ?_) | omega | (focus ((try simp only [minL, maxL, pickB, getD_int, getD_sl, getD_bool, len_int, len_sl, len_bool, decide_eq_true_eq, decide_eq_false_iff_not, Bool.and_eq_true, Bool.or_eq_true, Bool.and_eq_false_iff, Bool.or_eq_false_iff, Bool.not_eq_true', Bool.not_eq_false', Int.toNat_natCast, Int.ofNat_lt, Int.ofNat_le, not_true_eq_false, not_false_eq_true, or_false, false_or, and_true, true_and, or_true, true_or, and_false, false_and, InK, Path.imp] at *); omega)))); done)); (conv => whnf))
    | ((with_reducible refine And.intro (Side.out ?_) ?_); rotate_left; (conv => whnf))
    | (refine Exists.intro _ (And.intro rfl (And.intro rfl (And.intro ?_ ?_))) <;> (conv => whnf) <;> repeat' (first
    | exact trivial
    | rfl
    | (refine And.intro (fun h => h) (Or.inl ?_))
    | (refine And.intro (fun _ => rfl) (Or.inl ?_))
    | (refine And.intro (fun h => Bool.noConfusion h) (Or.inl ?_))
    | (with_reducible refine And.intro (fun _ => rfl) ?_)
    | ((with_reducible refine And.intro ?_ ?_) <;> conv => whnf)
    | (refine congrArg (Value.int _) ?_)
    | (refine congrArg (SV.arr _) ?_)
    | (refine congrArg Value.bool ?_)))); all_goals (try unfold Side)
      all_goals try (repeat' (first | rfl | exact Or.inl rfl | exact Or.inr rfl | (with_reducible refine And.intro ?_ ?_) | omega | (focus ((try simp only [minL, maxL, pickB, getD_int, getD_sl, getD_bool, len_int, len_sl, len_bool, decide_eq_true_eq, decide_eq_false_iff_not, Bool.and_eq_true, Bool.or_eq_true, Bool.and_eq_false_iff, Bool.or_eq_false_iff, Bool.not_eq_true', Bool.not_eq_false', Int.toNat_natCast, Int.ofNat_lt, Int.ofNat_le, not_true_eq_false, not_false_eq_true, or_false, false_or, and_true, true_and, or_true, true_or, and_false, false_and, InK, Path.imp] at *); omega))))
      have : a.drop a.length = b.drop a.length := by rw [List.drop_length, List.drop_eq_nil_of_le (by omega)]
      have := hp.1 this
      simp [this]

theorem cut_at (xs : List Int) (n : Nat) (hn : n < 1000) : FnAt Try.prog false 21 [.arr (.int .i64) xs, .lit (.int .i64 n)] (.own 0) [(0, .row 3 (.int .i64) true (xs.take n))] := by
  have e : (minL (xs.length : Int) [(n : Int)]).toNat = min xs.length n := by simp only [minL]; omega
  have e' : 0 ≤ minL (xs.length : Int) [(n : Int)] ∧ minL (xs.length : Int) [(n : Int)] ≤ xs.length := by simp only [minL]; omega
  refine FnAt.of_body tys_ok Try.func21 (by rfl) rfl Try.ntmps21 (by rw [Try.results21]) (by simp) ?_
  
  repeat' (first
    | refine W.seq ?_
    | refine W.block ?_
    | (refine W.region tys_ok [] ?_; conv => whnf)
    | (refine W.drawAll tys_ok [] mixed rfl ?_; conv => whnf)
    | (refine W.ret ?_; conv => whnf)
    | (refine W.skip ?_; conv => whnf)
    | (refine W.exit ?_; conv => whnf)
    | (refine W.cond rfl (fun hb => ?_) (fun hb => ?_) <;> (try simp only [minL, maxL, pickB, getD_int, getD_sl, getD_bool, len_int, len_sl, len_bool, decide_eq_true_eq, decide_eq_false_iff_not, Bool.and_eq_true, Bool.or_eq_true, Bool.and_eq_false_iff, Bool.or_eq_false_iff, Bool.not_eq_true', Bool.not_eq_false', Int.toNat_natCast, Int.ofNat_lt, Int.ofNat_le, not_true_eq_false, not_false_eq_true, or_false, false_or, and_true, true_and, or_true, true_or, and_false, false_and] at hb) <;> (try (first | (cases hb; done) | exact absurd hb (by decide) | (exfalso; omega))))
    | ((with_reducible refine And.intro ?_ ?_); (focus ((repeat' (first | rfl | exact Or.inl rfl | exact Or.inr rfl | (with_reducible refine And.intro ?_ ?_) | omega | (focus ((try simp only [minL, maxL, pickB, getD_int, getD_sl, getD_bool, len_int, len_sl, len_bool, decide_eq_true_eq, decide_eq_false_iff_not, Bool.and_eq_true, Bool.or_eq_true, Bool.and_eq_false_iff, Bool.or_eq_false_iff, Bool.not_eq_true', Bool.not_eq_false', Int.toNat_natCast, Int.ofNat_lt, Int.ofNat_le, not_true_eq_false, not_false_eq_true, or_false, false_or, and_true, true_and, or_true, true_or, and_false, false_and, InK, Path.imp] at *); omega)))); done)); (conv => whnf))
    | ((with_reducible refine And.intro (Side.out ?_) ?_); rotate_left; (conv => whnf))
    | (refine Exists.intro _ (And.intro rfl (And.intro rfl (And.intro ?_ ?_))) <;> (conv => whnf) <;> repeat' (first
    | exact trivial
    | rfl
    | (refine And.intro (fun h => h) (Or.inl ?_))
    | (refine And.intro (fun _ => rfl) (Or.inl ?_))
    | (refine And.intro (fun h => Bool.noConfusion h) (Or.inl ?_))
    | (with_reducible refine And.intro (fun _ => rfl) ?_)
    | ((with_reducible refine And.intro ?_ ?_) <;> conv => whnf)
    | (refine congrArg (Value.int _) ?_)
    | (refine congrArg (SV.arr _) ?_)
    | (refine congrArg Value.bool ?_)))); all_goals (try unfold Side)
  all_goals try (repeat' (first | rfl | exact Or.inl rfl | exact Or.inr rfl | (with_reducible refine And.intro ?_ ?_) | omega | (focus ((try simp only [minL, maxL, pickB, getD_int, getD_sl, getD_bool, len_int, len_sl, len_bool, decide_eq_true_eq, decide_eq_false_iff_not, Bool.and_eq_true, Bool.or_eq_true, Bool.and_eq_false_iff, Bool.or_eq_false_iff, Bool.not_eq_true', Bool.not_eq_false', Int.toNat_natCast, Int.ofNat_lt, Int.ofNat_le, not_true_eq_false, not_false_eq_true, or_false, false_or, and_true, true_and, or_true, true_or, and_false, false_and, InK, Path.imp] at *); omega))))
  · have e2 : List.drop 0 (List.take (minL (xs.length : Int) [(n : Int)]).toNat xs) = List.take n xs := by
      rw [e, List.drop_zero, Nat.min_comm, ← List.take_take, List.take_length]
    exact e2
  · have e2 : 0 + (List.drop 0 (List.take (minL (xs.length : Int) [(n : Int)]).toNat xs)).length ≤ 4294967296 := by
      rw [e]; simp only [List.drop_zero, List.length_take]; omega
    exact e2
