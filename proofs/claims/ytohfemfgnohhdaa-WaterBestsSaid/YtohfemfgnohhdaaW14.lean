/- WaterCalls: the law returns true. No condition. -/
import Derived.Test.YtohfemfgnohhdaaW13
namespace Go.Proofs.Ytohfemfgnohhdaa
open Go Go.Vc
set_option linter.unusedVariables false
set_option linter.unusedSimpArgs false

theorem WaterCalls_at (x y z : List Int) : FnAt Try.prog false 4 [.arr (.int .i64) x, .arr (.int .i64) y, .arr (.int .i64) z] (.lit (.bool true)) [] := by
  have hx : (x.take 9).length ≤ 9 := by rw [List.length_take]; omega
  have hy : (y.take 9).length ≤ 9 := by rw [List.length_take]; omega
  have hz : (z.take 9).length ≤ 9 := by rw [List.length_take]; omega
  have hC := Calls_ok (x.take 9) (y.take 9) (z.take 9) (by omega) (by omega) (by omega)
  have hRt := Rights_ok (x.take 9) (y.take 9) (z.take 9) (by omega) (by omega) (by omega)
  rw [rights_eq] at hRt
  cases hok : rightsOk (x.take 9) (y.take 9) (z.take 9) with
  | false =>
    rw [hok] at hC hRt
    refine FnAt.of_body tys_ok Try.func4 (by rfl) rfl Try.ntmps4 (by rw [Try.results4]) (by simp) ?_
  
    repeat' (first
    | refine W.seq ?_
    | refine W.block ?_
    | (refine W.region tys_ok [] ?_; conv => whnf)
    | (refine W.drawAll tys_ok [] mixed rfl ?_; conv => whnf)
    | (refine W.ret ?_; conv => whnf)
    | (refine W.skip ?_; conv => whnf)
    | (refine W.exit ?_; conv => whnf)
    | (refine ⟨false, _, _, _, _, rfl, Path.imp_of (cut_at _ 9 (by omega)), rfl, rfl, rfl, ?_⟩; conv => whnf)
    | (refine ⟨false, _, _, _, _, rfl, Path.imp_of (hC), rfl, rfl, rfl, ?_⟩; conv => whnf)
    | (refine ⟨false, _, _, _, _, rfl, Path.imp_of (hRt), rfl, rfl, rfl, ?_⟩; conv => whnf)
    | (refine ⟨false, _, _, _, _, rfl, Path.imp_of (lives_at), rfl, rfl, rfl, ?_⟩; conv => whnf)
    | (refine W.cond rfl (fun hb => ?_) (fun hb => ?_) <;> (try simp only [minL, maxL, pickB, getD_int, getD_sl, getD_bool, len_int, len_sl, len_bool, decide_eq_true_eq, decide_eq_false_iff_not, Bool.and_eq_true, Bool.or_eq_true, Bool.and_eq_false_iff, Bool.or_eq_false_iff, Bool.not_eq_true', Bool.not_eq_false', Int.toNat_natCast, Int.ofNat_lt, Int.ofNat_le, not_true_eq_false, not_false_eq_true, or_false, false_or, and_true, true_and, or_true, true_or, and_false, false_and] at hb) <;> (try (first | (cases hb; done) | exact absurd hb (by decide) | (exfalso; omega))))
    | ((with_reducible refine And.intro ?_ ?_); (focus ((repeat' (first | rfl | exact Or.inl rfl | exact Or.inr rfl | (with_reducible refine And.intro ?_ ?_) | omega | (focus ((try simp only [minL, maxL, pickB, getD_int, getD_sl, getD_bool, len_int, len_sl, len_bool, decide_eq_true_eq, decide_eq_false_iff_not, Bool.and_eq_true, Bool.or_eq_true, Bool.and_eq_false_iff, Bool.or_eq_false_iff, Bool.not_eq_true', Bool.not_eq_false', Int.toNat_natCast, Int.ofNat_lt, Int.ofNat_le, not_true_eq_false, not_false_eq_true, or_false, false_or, and_true, true_and, or_true, true_or, and_false, false_and, InK, Path.imp] at *); omega)))); done)); (conv => whnf))
    | ((with_reducible refine And.intro (Side.out ?_) ?_); rotate_left; (conv => whnf))
    | (refine Exists.intro _ (And.intro rfl (And.intro rfl (And.intro ?_ ?_))) <;> (conv => whnf) <;> repeat' (first
    | exact trivial
    | rfl
    | (refine And.intro (fun h => h) (Or.inl ?_))
    | (refine And.intro (fun _ => rfl) (Or.inl ?_))
    | (refine And.intro (fun h => Bool.noConfusion h) (Or.inl ?_))
    | (with_reducible refine And.intro (fun _ => rfl) ?_)
    | ((with_reducible refine And.intro ?_ ?_) <;> conv => whnf)
    | (refine congrArg (Value.int _) ?_)
    | (refine congrArg (SV.arr _) ?_)
    | (refine congrArg Value.bool ?_)))); all_goals (try unfold Side)
    all_goals try (repeat' (first | rfl | exact Or.inl rfl | exact Or.inr rfl | (with_reducible refine And.intro ?_ ?_) | omega | (focus ((try simp only [minL, maxL, pickB, getD_int, getD_sl, getD_bool, len_int, len_sl, len_bool, decide_eq_true_eq, decide_eq_false_iff_not, Bool.and_eq_true, Bool.or_eq_true, Bool.and_eq_false_iff, Bool.or_eq_false_iff, Bool.not_eq_true', Bool.not_eq_false', Int.toNat_natCast, Int.ofNat_lt, Int.ofNat_le, not_true_eq_false, not_false_eq_true, or_false, false_or, and_true, true_and, or_true, true_or, and_false, false_and, InK, Path.imp] at *); omega))))
    all_goals first | (cases hb; done) | (simp [pickB]; done)
  | true =>
    rw [hok] at hC hRt
    have hD := refCalls_ok _ _ _ hok
    have hl := (callsT_given (rightsOk.rights hok) (Nat.le_refl _)).len
    refine FnAt.of_body tys_ok Try.func4 (by rfl) rfl Try.ntmps4 (by rw [Try.results4]) (by simp) ?_
  
    repeat' (first
    | refine W.seq ?_
    | refine W.block ?_
    | (refine W.region tys_ok [] ?_; conv => whnf)
    | (refine W.drawAll tys_ok [] mixed rfl ?_; conv => whnf)
    | (refine W.ret ?_; conv => whnf)
    | (refine W.skip ?_; conv => whnf)
    | (refine W.exit ?_; conv => whnf)
    | (refine ⟨false, _, _, _, _, rfl, Path.imp_of (cut_at _ 9 (by omega)), rfl, rfl, rfl, ?_⟩; conv => whnf)
    | (refine ⟨false, _, _, _, _, rfl, Path.imp_of (hC), rfl, rfl, rfl, ?_⟩; conv => whnf)
    | (refine ⟨false, _, _, _, _, rfl, Path.imp_of (hRt), rfl, rfl, rfl, ?_⟩; conv => whnf)
    | (refine ⟨false, _, _, _, _, rfl, Path.imp_of (lives_at), rfl, rfl, rfl, ?_⟩; conv => whnf)
    | (refine ⟨false, _, _, _, _, rfl, Path.imp_of (hD), rfl, rfl, rfl, ?_⟩; conv => whnf)
    | (refine ⟨false, _, _, _, _, rfl, Path.imp_of (same_at (callsT (x.take 9) (y.take 9) (z.take 9) (x.take 9).length) (callsT (x.take 9) (y.take 9) (z.take 9) (x.take 9).length) (by omega) (by omega)), rfl, rfl, rfl, ?_⟩; conv => whnf)
    | (refine W.cond rfl (fun hb => ?_) (fun hb => ?_) <;> (try simp only [minL, maxL, pickB, getD_int, getD_sl, getD_bool, len_int, len_sl, len_bool, decide_eq_true_eq, decide_eq_false_iff_not, Bool.and_eq_true, Bool.or_eq_true, Bool.and_eq_false_iff, Bool.or_eq_false_iff, Bool.not_eq_true', Bool.not_eq_false', Int.toNat_natCast, Int.ofNat_lt, Int.ofNat_le, not_true_eq_false, not_false_eq_true, or_false, false_or, and_true, true_and, or_true, true_or, and_false, false_and] at hb) <;> (try (first | (cases hb; done) | exact absurd hb (by decide) | (exfalso; omega))))
    | ((with_reducible refine And.intro ?_ ?_); (focus ((repeat' (first | rfl | exact Or.inl rfl | exact Or.inr rfl | (with_reducible refine And.intro ?_ ?_) | omega | (focus ((try simp only [minL, maxL, pickB, getD_int, getD_sl, getD_bool, len_int, len_sl, len_bool, decide_eq_true_eq, decide_eq_false_iff_not, Bool.and_eq_true, Bool.or_eq_true, Bool.and_eq_false_iff, Bool.or_eq_false_iff, Bool.not_eq_true', Bool.not_eq_false', Int.toNat_natCast, Int.ofNat_lt, Int.ofNat_le, not_true_eq_false, not_false_eq_true, or_false, false_or, and_true, true_and, or_true, true_or, and_false, false_and, InK, Path.imp] at *); omega)))); done)); (conv => whnf))
    | ((with_reducible refine And.intro (Side.out ?_) ?_); rotate_left; (conv => whnf))
    | (refine Exists.intro _ (And.intro rfl (And.intro rfl (And.intro ?_ ?_))) <;> (conv => whnf) <;> repeat' (first
    | exact trivial
    | rfl
    | (refine And.intro (fun h => h) (Or.inl ?_))
    | (refine And.intro (fun _ => rfl) (Or.inl ?_))
    | (refine And.intro (fun h => Bool.noConfusion h) (Or.inl ?_))
    | (with_reducible refine And.intro (fun _ => rfl) ?_)
    | ((with_reducible refine And.intro ?_ ?_) <;> conv => whnf)
    | (refine congrArg (Value.int _) ?_)
    | (refine congrArg (SV.arr _) ?_)
    | (refine congrArg Value.bool ?_)))); all_goals (try unfold Side)
    all_goals try (repeat' (first | rfl | exact Or.inl rfl | exact Or.inr rfl | (with_reducible refine And.intro ?_ ?_) | omega | (focus ((try simp only [minL, maxL, pickB, getD_int, getD_sl, getD_bool, len_int, len_sl, len_bool, decide_eq_true_eq, decide_eq_false_iff_not, Bool.and_eq_true, Bool.or_eq_true, Bool.and_eq_false_iff, Bool.or_eq_false_iff, Bool.not_eq_true', Bool.not_eq_false', Int.toNat_natCast, Int.ofNat_lt, Int.ofNat_le, not_true_eq_false, not_false_eq_true, or_false, false_or, and_true, true_and, or_true, true_or, and_false, false_and, InK, Path.imp] at *); omega))))
    all_goals first | (cases hb; done) | (simp [pickB]; done)
