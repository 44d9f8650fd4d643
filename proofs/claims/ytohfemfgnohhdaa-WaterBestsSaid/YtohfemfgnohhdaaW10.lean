/- The examples of the document: lives returns true. No condition. -/
import Derived.Test.YtohfemfgnohhdaaW9
namespace Go.Proofs.Ytohfemfgnohhdaa
open Go Go.Vc
set_option linter.unusedVariables false
set_option linter.unusedSimpArgs false

theorem lives_best : FnAt Try.prog false 16 [.arr (.int .i64) ([2, 0] : List Int), .arr (.sl (.int .i64)) ([[5, 1], [4, 3]] : List (List Int))] (.tup [.own 0, .lit (.int .i64 9), .lit (.int .i64 0)]) [(0, .row 3 (.int .i64) true ([1, 1] : List Int))] := by
  have h := Best_ok [2, 0] [[5, 1], [4, 3]] (by decide) (by decide) (by decide)
  have e1 : riverOk [2, 0] [[5, 1], [4, 3]] = true := by decide
  have e2 : bestL [2, 0] [[5, 1], [4, 3]] = [1, 1] := by decide
  have e3 : val [2, 0] [[5, 1], [4, 3]] = 9 := by decide
  rw [e1, e2, e3] at h
  exact h
theorem lives_shares : FnAt Try.prog false 29 [.arr (.int .i64) ([2, 0] : List Int), .arr (.sl (.int .i64)) ([[5, 1], [4, 3]] : List (List Int))] (.tup [.own 0, .lit (.int .i64 0)]) [(0, .row 3 (.int .i64) true ([6, 3] : List Int))] := by
  have h := Shares_ok [2, 0] [[5, 1], [4, 3]] (by decide) (by decide) (by decide)
  have e1 : riverOk [2, 0] [[5, 1], [4, 3]] = true := by decide
  have e2 : sharesT [2, 0] [[5, 1], [4, 3]] ([2, 0] : List Int).length = [6, 3] := by decide
  rw [e1, e2] at h
  exact h
theorem lives_calls : FnAt Try.prog false 22 [.arr (.int .i64) ([3, 1] : List Int), .arr (.int .i64) ([3, 3] : List Int), .arr (.int .i64) ([1, 0] : List Int)] (.tup [.own 0, .lit (.int .i64 0)]) [(0, .row 3 (.int .i64) true ([1, 3] : List Int))] := by
  have h := Calls_ok [3, 1] [3, 3] [1, 0] (by decide) (by decide) (by decide)
  have e1 : rightsOk [3, 1] [3, 3] [1, 0] = true := by decide
  have e2 : callsT [3, 1] [3, 3] [1, 0] ([3, 1] : List Int).length = [1, 3] := by decide
  rw [e1, e2] at h
  exact h
theorem lives_at : FnAt Try.prog false 18 [] (.lit (.bool true)) [] := by
  refine FnAt.of_body tys_ok Try.func18 (by rfl) rfl Try.ntmps18 (by rw [Try.results18]) (by simp) ?_
  
  repeat' (first
    | refine W.seq ?_
    | refine W.block ?_
    | (refine W.region tys_ok [10, 11, 19, 20] ?_; conv => whnf)
    | (refine W.drawAll tys_ok [10, 11, 19, 20] mixed rfl ?_; conv => whnf)
    | (refine W.ret ?_; conv => whnf)
    | (refine W.skip ?_; conv => whnf)
    | (refine W.exit ?_; conv => whnf)
    | (refine ⟨false, _, _, _, _, rfl, Path.imp_of (lives_best), rfl, rfl, rfl, ?_⟩; conv => whnf)
    | (refine ⟨false, _, _, _, _, rfl, Path.imp_of (lives_shares), rfl, rfl, rfl, ?_⟩; conv => whnf)
    | (refine ⟨false, _, _, _, _, rfl, Path.imp_of (lives_calls), rfl, rfl, rfl, ?_⟩; conv => whnf)
    | (refine ⟨false, _, _, _, _, rfl, Path.imp_of (same_at _ _ (by decide) (by decide)), rfl, rfl, rfl, ?_⟩; conv => whnf)
    | (refine W.cond rfl (fun hb => ?_) (fun hb => ?_) <;> (try simp only [minL, maxL, pickB, getD_int, getD_sl, getD_bool, len_int, len_sl, len_bool, decide_eq_true_eq, decide_eq_false_iff_not, Bool.and_eq_true, Bool.or_eq_true, Bool.and_eq_false_iff, Bool.or_eq_false_iff, Bool.not_eq_true', Bool.not_eq_false', Int.toNat_natCast, Int.ofNat_lt, Int.ofNat_le, not_true_eq_false, not_false_eq_true, or_false, false_or, and_true, true_and, or_true, true_or, and_false, false_and] at hb) <;> (try (first | (cases hb; done) | exact absurd hb (by decide) | (exfalso; omega))))
    | ((with_reducible refine And.intro ?_ ?_); (focus ((repeat' (first | rfl | exact Or.inl rfl | exact Or.inr rfl | (with_reducible refine And.intro ?_ ?_) | omega | (focus ((try simp only [minL, maxL, pickB, getD_int, getD_sl, getD_bool, len_int, len_sl, len_bool, decide_eq_true_eq, decide_eq_false_iff_not, Bool.and_eq_true, Bool.or_eq_true, Bool.and_eq_false_iff, Bool.or_eq_false_iff, Bool.not_eq_true', Bool.not_eq_false', Int.toNat_natCast, Int.ofNat_lt, Int.ofNat_le, not_true_eq_false, not_false_eq_true, or_false, false_or, and_true, true_and, or_true, true_or, and_false, false_and, InK, Path.imp] at *); omega)))); done)); (conv => whnf))
    | ((with_reducible refine And.intro (Side.out ?_) ?_); rotate_left; (conv => whnf))
    | (refine Exists.intro _ (And.intro rfl (And.intro rfl (And.intro ?_ ?_))) <;> (conv => whnf) <;> repeat' (first
    | exact trivial
    | rfl
    | (refine And.intro (fun h => h) (Or.inl ?_))
    | (refine And.intro (fun _ => rfl) (Or.inl ?_))
    | (refine And.intro (fun h => Bool.noConfusion h) (Or.inl ?_))
    | (with_reducible refine And.intro (fun _ => rfl) ?_)
    | ((with_reducible refine And.intro ?_ ?_) <;> conv => whnf)
    | (refine congrArg (Value.int _) ?_)
    | (refine congrArg (SV.arr _) ?_)
    | (refine congrArg Value.bool ?_)))); all_goals (try unfold Side)
