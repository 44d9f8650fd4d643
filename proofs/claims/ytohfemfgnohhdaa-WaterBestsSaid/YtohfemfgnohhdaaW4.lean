/- The worth of a use: what the function returns. No condition. -/
import Derived.Test.YtohfemfgnohhdaaW3
namespace Go.Proofs.Ytohfemfgnohhdaa
open Go Go.Vc
set_option linter.unusedVariables false
set_option linter.unusedSimpArgs false

/-- The worth of a use. -/
def worthL : List (List Int) → List Int → Int
  | g :: gs, u :: us => (g.take u.toNat).sum + worthL gs us
  | _, _ => 0
structure OkG (gs : List (List Int)) : Prop where
  len : gs.length ≤ 8
  lens : ∀ i, i < gs.length → (gs.getD i []).length ≤ 20
  val : ∀ i, i < gs.length → ∀ j, j < (gs.getD i []).length → 0 ≤ (gs.getD i []).getD j 0 ∧ (gs.getD i []).getD j 0 ≤ 1000

theorem cutmin (u : Int) (xs : List Int) (h : 0 ≤ u) : List.drop (Int.toNat 0) (List.take (minL u [(xs.length : Int)]).toNat xs) = xs.take u.toNat := by
  have : (minL u [(xs.length : Int)]).toNat = min u.toNat xs.length := by simp only [minL]; omega
  rw [this]
  show List.drop 0 _ = _
  rw [List.drop_zero, ← List.take_take, List.take_length]
theorem sum_take_succ : ∀ {xs : List Int} {j : Nat}, j < xs.length → (xs.take (j + 1)).sum = (xs.take j).sum + xs.getD j 0
  | x :: r, 0, _ => by simp
  | x :: r, j + 1, h => by
    have := sum_take_succ (xs := r) (j := j) (by simpa using h)
    simp only [List.take_succ_cons, List.sum_cons, List.getD_cons_succ]
    omega
theorem getD_take {α : Type} {xs : List α} {n j : Nat} {d : α} (h : j < n) : (xs.take n).getD j d = xs.getD j d := by
  simp only [List.getD_eq_getElem?_getD]
  rw [List.getElem?_take_of_lt h]

theorem worth_at (fl : List Int) (gs : List (List Int)) (us : List Int) (hG : OkG gs) (hl : us.length ≤ gs.length) (hu : ∀ i, i < us.length → 0 ≤ us.getD i 0) :
    FnAt Try.prog false 41 [.agg [.arr (.int .i64) fl, .arr (.sl (.int .i64)) gs], .arr (.int .i64) us] (.lit (.int .i64 (worthL gs us))) [] := by
  have hlen := hG.len
  refine FnAt.of_body tys_ok Try.func41 (by rfl) rfl Try.ntmps41 (by rw [Try.results41]) (by simp) ?_
  
  repeat' (first
    | refine W.seq ?_
    | refine W.block ?_
    | (refine W.region tys_ok [] ?_; conv => whnf)
    | (refine W.drawAll tys_ok [] mixed rfl ?_; conv => whnf)
    | (refine W.ret ?_; conv => whnf)
    | (refine W.skip ?_; conv => whnf)
    | (refine W.exit ?_; conv => whnf)
    | (refine W.cond rfl (fun hb => ?_) (fun hb => ?_) <;> (try simp only [minL, maxL, pickB, getD_int, getD_sl, getD_bool, len_int, len_sl, len_bool, decide_eq_true_eq, decide_eq_false_iff_not, Bool.and_eq_true, Bool.or_eq_true, Bool.and_eq_false_iff, Bool.or_eq_false_iff, Bool.not_eq_true', Bool.not_eq_false', Int.toNat_natCast, Int.ofNat_lt, Int.ofNat_le, not_true_eq_false, not_false_eq_true, or_false, false_or, and_true, true_and, or_true, true_or, and_false, false_and] at hb) <;> (try (first | (cases hb; done) | exact absurd hb (by decide) | (exfalso; omega))))
    | ((with_reducible refine And.intro ?_ ?_); (focus ((repeat' (first | rfl | exact Or.inl rfl | exact Or.inr rfl | (with_reducible refine And.intro ?_ ?_) | omega | (focus ((try simp only [minL, maxL, pickB, getD_int, getD_sl, getD_bool, len_int, len_sl, len_bool, decide_eq_true_eq, decide_eq_false_iff_not, Bool.and_eq_true, Bool.or_eq_true, Bool.and_eq_false_iff, Bool.or_eq_false_iff, Bool.not_eq_true', Bool.not_eq_false', Int.toNat_natCast, Int.ofNat_lt, Int.ofNat_le, not_true_eq_false, not_false_eq_true, or_false, false_or, and_true, true_and, or_true, true_or, and_false, false_and, InK, Path.imp] at *); omega)))); done)); (conv => whnf))
    | ((with_reducible refine And.intro (Side.out ?_) ?_); rotate_left; (conv => whnf))
    | (refine Exists.intro _ (And.intro rfl (And.intro rfl (And.intro ?_ ?_))) <;> (conv => whnf) <;> repeat' (first
    | exact trivial
    | rfl
    | (refine And.intro (fun h => h) (Or.inl ?_))
    | (refine And.intro (fun _ => rfl) (Or.inl ?_))
    | (refine And.intro (fun h => Bool.noConfusion h) (Or.inl ?_))
    | (with_reducible refine And.intro (fun _ => rfl) ?_)
    | ((with_reducible refine And.intro ?_ ?_) <;> conv => whnf)
    | (refine congrArg (Value.int _) ?_)
    | (refine congrArg (SV.arr _) ?_)
    | (refine congrArg Value.bool ?_)))); all_goals (try unfold Side)
  refine W.loop (fun x : Nat × Int => ⟨[(2, .padr 3000 0), (5, .lit (.int .i64 x.2)), (10, .st false (.arr (.int .i64) us)), (11, .lit (.int .i64 us.length)), (12, .lit (.int .i64 x.1))], [(3000, .box [.st false (.arr (.int .i64) fl), .st false (.arr (.sl (.int .i64)) gs)])]⟩)
    (fun x => x.1 ≤ us.length ∧ 0 ≤ x.2 ∧ x.2 ≤ 20000 * x.1 ∧ worthL gs us = x.2 + worthL (gs.drop x.1) (us.drop x.1)) (fun x => us.length - x.1) (0, 0) ?_ ?_
  · refine ⟨by simp, ?_⟩
    refine ⟨rfl, ?_, ?_⟩ <;> (conv => whnf) <;> repeat' (first
    | exact trivial
    | rfl
    | (refine And.intro (fun h => h) (Or.inl ?_))
    | (refine And.intro (fun _ => rfl) (Or.inl ?_))
    | (refine And.intro (fun h => Bool.noConfusion h) (Or.inl ?_))
    | (with_reducible refine And.intro (fun _ => rfl) ?_)
    | ((with_reducible refine And.intro ?_ ?_) <;> conv => whnf)
    | (refine congrArg (Value.int _) ?_)
    | (refine congrArg (SV.arr _) ?_)
    | (refine congrArg Value.bool ?_))
  · rintro ⟨i, a⟩ ⟨hi, h0, h1, hp⟩
    dsimp only at hi h0 h1 hp ⊢
    have hv := hG.val i
    have hgl := hG.lens i
    have hui := hu i
    by_cases hil : i < us.length
    · rw [drop_getD 0 hil, drop_getD [] (by omega : i < gs.length)] at hp
      simp only [worthL] at hp
      repeat' (first
    | refine W.seq ?_
    | refine W.block ?_
    | (refine W.region tys_ok [] ?_; conv => whnf)
    | (refine W.drawAll tys_ok [] mixed rfl ?_; conv => whnf)
    | (refine W.ret ?_; conv => whnf)
    | (refine W.skip ?_; conv => whnf)
    | (refine W.exit ?_; conv => whnf)
    | (refine W.cond rfl (fun hb => ?_) (fun hb => ?_) <;> (try simp only [minL, maxL, pickB, getD_int, getD_sl, getD_bool, len_int, len_sl, len_bool, decide_eq_true_eq, decide_eq_false_iff_not, Bool.and_eq_true, Bool.or_eq_true, Bool.and_eq_false_iff, Bool.or_eq_false_iff, Bool.not_eq_true', Bool.not_eq_false', Int.toNat_natCast, Int.ofNat_lt, Int.ofNat_le, not_true_eq_false, not_false_eq_true, or_false, false_or, and_true, true_and, or_true, true_or, and_false, false_and] at hb) <;> (try (first | (cases hb; done) | exact absurd hb (by decide) | (exfalso; omega))))
    | ((with_reducible refine And.intro ?_ ?_); (focus ((repeat' (first | rfl | exact Or.inl rfl | exact Or.inr rfl | (with_reducible refine And.intro ?_ ?_) | omega | (focus ((try simp only [minL, maxL, pickB, getD_int, getD_sl, getD_bool, len_int, len_sl, len_bool, decide_eq_true_eq, decide_eq_false_iff_not, Bool.and_eq_true, Bool.or_eq_true, Bool.and_eq_false_iff, Bool.or_eq_false_iff, Bool.not_eq_true', Bool.not_eq_false', Int.toNat_natCast, Int.ofNat_lt, Int.ofNat_le, not_true_eq_false, not_false_eq_true, or_false, false_or, and_true, true_and, or_true, true_or, and_false, false_and, InK, Path.imp] at *); omega)))); done)); (conv => whnf))
    | ((with_reducible refine And.intro (Side.out ?_) ?_); rotate_left; (conv => whnf))
    | (refine Exists.intro _ (And.intro rfl (And.intro rfl (And.intro ?_ ?_))) <;> (conv => whnf) <;> repeat' (first
    | exact trivial
    | rfl
    | (refine And.intro (fun h => h) (Or.inl ?_))
    | (refine And.intro (fun _ => rfl) (Or.inl ?_))
    | (refine And.intro (fun h => Bool.noConfusion h) (Or.inl ?_))
    | (with_reducible refine And.intro (fun _ => rfl) ?_)
    | ((with_reducible refine And.intro ?_ ?_) <;> conv => whnf)
    | (refine congrArg (Value.int _) ?_)
    | (refine congrArg (SV.arr _) ?_)
    | (refine congrArg Value.bool ?_)))); all_goals (try unfold Side)
      all_goals try (repeat' (first | rfl | exact Or.inl rfl | exact Or.inr rfl | (with_reducible refine And.intro ?_ ?_) | omega | (focus ((try simp only [minL, maxL, pickB, getD_int, getD_sl, getD_bool, len_int, len_sl, len_bool, decide_eq_true_eq, decide_eq_false_iff_not, Bool.and_eq_true, Bool.or_eq_true, Bool.and_eq_false_iff, Bool.or_eq_false_iff, Bool.not_eq_true', Bool.not_eq_false', Int.toNat_natCast, Int.ofNat_lt, Int.ofNat_le, not_true_eq_false, not_false_eq_true, or_false, false_or, and_true, true_and, or_true, true_or, and_false, false_and, InK, Path.imp] at *); omega))))
      generalize hr : (gs.getD i []).take (us.getD i 0).toNat = r at hp
      have hrl : r.length ≤ (gs.getD i []).length := by rw [← hr, List.length_take]; omega
      have hrv : ∀ j, j < r.length → 0 ≤ r.getD j 0 ∧ r.getD j 0 ≤ 1000 := by
        intro j hj
        have hj' : j < (us.getD i 0).toNat := by
          have := congrArg List.length hr
          rw [List.length_take] at this
          omega
        have e : r.getD j 0 = (gs.getD i []).getD j 0 := by
          rw [← hr]; exact getD_take hj'
        rw [e]
        exact hv (by omega) j (by omega)
      refine W.loop (fun x : Nat × Int => ⟨[(2, .padr 3000 0), (5, .lit (.int .i64 x.2)), (10, .st false (.arr (.int .i64) us)), (11, .lit (.int .i64 us.length)), (12, .lit (.int .i64 i)),
          (30, .st false (.arr (.int .i64) r)), (31, .lit (.int .i64 r.length)), (32, .lit (.int .i64 x.1))], [(3000, .box [.st false (.arr (.int .i64) fl), .st false (.arr (.sl (.int .i64)) gs)])]⟩)
        (fun x => x.1 ≤ r.length ∧ a ≤ x.2 ∧ x.2 ≤ a + 1000 * x.1 ∧ x.2 = a + (r.take x.1).sum) (fun x => r.length - x.1) (0, a) ?_ ?_
      · refine ⟨by simp, ?_⟩
        refine ⟨rfl, ?_, ?_⟩ <;> (conv => whnf) <;> repeat' (first
    | exact trivial
    | rfl
    | (refine And.intro (fun h => h) (Or.inl ?_))
    | (refine And.intro (fun _ => rfl) (Or.inl ?_))
    | (refine And.intro (fun h => Bool.noConfusion h) (Or.inl ?_))
    | (with_reducible refine And.intro (fun _ => rfl) ?_)
    | ((with_reducible refine And.intro ?_ ?_) <;> conv => whnf)
    | (refine congrArg (Value.int _) ?_)
    | (refine congrArg (SV.arr _) ?_)
    | (refine congrArg Value.bool ?_))
        · exact (cutmin (us.getD i 0) (gs.getD i []) (hui hil)).trans hr
        · exact congrArg (fun l : List Int => (l.length : Int)) ((cutmin (us.getD i 0) (gs.getD i []) (hui hil)).trans hr)
      · rintro ⟨j, b⟩ ⟨hj, h3, h4, h5⟩
        dsimp only at hj h3 h4 h5 ⊢
        have hrj := hrv j
        by_cases hjl : j < r.length
        · have hs := sum_take_succ hjl
          repeat' (first
    | refine W.seq ?_
    | refine W.block ?_
    | (refine W.region tys_ok [] ?_; conv => whnf)
    | (refine W.drawAll tys_ok [] mixed rfl ?_; conv => whnf)
    | (refine W.ret ?_; conv => whnf)
    | (refine W.skip ?_; conv => whnf)
    | (refine W.exit ?_; conv => whnf)
    | (refine W.cond rfl (fun hb => ?_) (fun hb => ?_) <;> (try simp only [minL, maxL, pickB, getD_int, getD_sl, getD_bool, len_int, len_sl, len_bool, decide_eq_true_eq, decide_eq_false_iff_not, Bool.and_eq_true, Bool.or_eq_true, Bool.and_eq_false_iff, Bool.or_eq_false_iff, Bool.not_eq_true', Bool.not_eq_false', Int.toNat_natCast, Int.ofNat_lt, Int.ofNat_le, not_true_eq_false, not_false_eq_true, or_false, false_or, and_true, true_and, or_true, true_or, and_false, false_and] at hb) <;> (try (first | (cases hb; done) | exact absurd hb (by decide) | (exfalso; omega))))
    | ((with_reducible refine And.intro ?_ ?_); (focus ((repeat' (first | rfl | exact Or.inl rfl | exact Or.inr rfl | (with_reducible refine And.intro ?_ ?_) | omega | (focus ((try simp only [minL, maxL, pickB, getD_int, getD_sl, getD_bool, len_int, len_sl, len_bool, decide_eq_true_eq, decide_eq_false_iff_not, Bool.and_eq_true, Bool.or_eq_true, Bool.and_eq_false_iff, Bool.or_eq_false_iff, Bool.not_eq_true', Bool.not_eq_false', Int.toNat_natCast, Int.ofNat_lt, Int.ofNat_le, not_true_eq_false, not_false_eq_true, or_false, false_or, and_true, true_and, or_true, true_or, and_false, false_and, InK, Path.imp] at *); omega)))); done)); (conv => whnf))
    | ((with_reducible refine And.intro (Side.out ?_) ?_); rotate_left; (conv => whnf))
    | (refine Exists.intro _ (And.intro rfl (And.intro rfl (And.intro ?_ ?_))) <;> (conv => whnf) <;> repeat' (first
    | exact trivial
    | rfl
    | (refine And.intro (fun h => h) (Or.inl ?_))
    | (refine And.intro (fun _ => rfl) (Or.inl ?_))
    | (refine And.intro (fun h => Bool.noConfusion h) (Or.inl ?_))
    | (with_reducible refine And.intro (fun _ => rfl) ?_)
    | ((with_reducible refine And.intro ?_ ?_) <;> conv => whnf)
    | (refine congrArg (Value.int _) ?_)
    | (refine congrArg (SV.arr _) ?_)
    | (refine congrArg Value.bool ?_)))); all_goals (try unfold Side)
          all_goals try (repeat' (first | rfl | exact Or.inl rfl | exact Or.inr rfl | (with_reducible refine And.intro ?_ ?_) | omega | (focus ((try simp only [minL, maxL, pickB, getD_int, getD_sl, getD_bool, len_int, len_sl, len_bool, decide_eq_true_eq, decide_eq_false_iff_not, Bool.and_eq_true, Bool.or_eq_true, Bool.and_eq_false_iff, Bool.or_eq_false_iff, Bool.not_eq_true', Bool.not_eq_false', Int.toNat_natCast, Int.ofNat_lt, Int.ofNat_le, not_true_eq_false, not_false_eq_true, or_false, false_or, and_true, true_and, or_true, true_or, and_false, false_and, InK, Path.imp] at *); omega))))
          refine ⟨(j + 1, b + r.getD j 0), ⟨⟨?_, ?_, ?_, ?_⟩, ?_⟩, ?_⟩
          · dsimp only; omega
          · dsimp only; omega
          · dsimp only; omega
          · dsimp only; rw [hs]; omega
          · dsimp only; omega
          · refine ⟨rfl, ?_, ?_⟩ <;> (conv => whnf) <;> repeat' (first
    | exact trivial
    | rfl
    | (refine And.intro (fun h => h) (Or.inl ?_))
    | (refine And.intro (fun _ => rfl) (Or.inl ?_))
    | (refine And.intro (fun h => Bool.noConfusion h) (Or.inl ?_))
    | (with_reducible refine And.intro (fun _ => rfl) ?_)
    | ((with_reducible refine And.intro ?_ ?_) <;> conv => whnf)
    | (refine congrArg (Value.int _) ?_)
    | (refine congrArg (SV.arr _) ?_)
    | (refine congrArg Value.bool ?_))
        · have hj' : j = r.length := by omega
          subst hj'
          rw [List.take_length] at h5
          repeat' (first
    | refine W.seq ?_
    | refine W.block ?_
    | (refine W.region tys_ok [] ?_; conv => whnf)
    | (refine W.drawAll tys_ok [] mixed rfl ?_; conv => whnf)
    | (refine W.ret ?_; conv => whnf)
    | (refine W.skip ?_; conv => whnf)
    | (refine W.exit ?_; conv => whnf)
    | (refine W.cond rfl (fun hb => ?_) (fun hb => ?_) <;> (try simp only [minL, maxL, pickB, getD_int, getD_sl, getD_bool, len_int, len_sl, len_bool, decide_eq_true_eq, decide_eq_false_iff_not, Bool.and_eq_true, Bool.or_eq_true, Bool.and_eq_false_iff, Bool.or_eq_false_iff, Bool.not_eq_true', Bool.not_eq_false', Int.toNat_natCast, Int.ofNat_lt, Int.ofNat_le, not_true_eq_false, not_false_eq_true, or_false, false_or, and_true, true_and, or_true, true_or, and_false, false_and] at hb) <;> (try (first | (cases hb; done) | exact absurd hb (by decide) | (exfalso; omega))))
    | ((with_reducible refine And.intro ?_ ?_); (focus ((repeat' (first | rfl | exact Or.inl rfl | exact Or.inr rfl | (with_reducible refine And.intro ?_ ?_) | omega | (focus ((try simp only [minL, maxL, pickB, getD_int, getD_sl, getD_bool, len_int, len_sl, len_bool, decide_eq_true_eq, decide_eq_false_iff_not, Bool.and_eq_true, Bool.or_eq_true, Bool.and_eq_false_iff, Bool.or_eq_false_iff, Bool.not_eq_true', Bool.not_eq_false', Int.toNat_natCast, Int.ofNat_lt, Int.ofNat_le, not_true_eq_false, not_false_eq_true, or_false, false_or, and_true, true_and, or_true, true_or, and_false, false_and, InK, Path.imp] at *); omega)))); done)); (conv => whnf))
    | ((with_reducible refine And.intro (Side.out ?_) ?_); rotate_left; (conv => whnf))
    | (refine Exists.intro _ (And.intro rfl (And.intro rfl (And.intro ?_ ?_))) <;> (conv => whnf) <;> repeat' (first
    | exact trivial
    | rfl
    | (refine And.intro (fun h => h) (Or.inl ?_))
    | (refine And.intro (fun _ => rfl) (Or.inl ?_))
    | (refine And.intro (fun h => Bool.noConfusion h) (Or.inl ?_))
    | (with_reducible refine And.intro (fun _ => rfl) ?_)
    | ((with_reducible refine And.intro ?_ ?_) <;> conv => whnf)
    | (refine congrArg (Value.int _) ?_)
    | (refine congrArg (SV.arr _) ?_)
    | (refine congrArg Value.bool ?_)))); all_goals (try unfold Side)
          all_goals try (repeat' (first | rfl | exact Or.inl rfl | exact Or.inr rfl | (with_reducible refine And.intro ?_ ?_) | omega | (focus ((try simp only [minL, maxL, pickB, getD_int, getD_sl, getD_bool, len_int, len_sl, len_bool, decide_eq_true_eq, decide_eq_false_iff_not, Bool.and_eq_true, Bool.or_eq_true, Bool.and_eq_false_iff, Bool.or_eq_false_iff, Bool.not_eq_true', Bool.not_eq_false', Int.toNat_natCast, Int.ofNat_lt, Int.ofNat_le, not_true_eq_false, not_false_eq_true, or_false, false_or, and_true, true_and, or_true, true_or, and_false, false_and, InK, Path.imp] at *); omega))))
          refine ⟨(i + 1, b), ⟨⟨?_, ?_, ?_, ?_⟩, ?_⟩, ?_⟩
          · dsimp only; omega
          · dsimp only; omega
          · dsimp only; omega
          · dsimp only; omega
          · dsimp only; omega
          · refine ⟨rfl, ?_, ?_⟩ <;> (conv => whnf) <;> repeat' (first
    | exact trivial
    | rfl
    | (refine And.intro (fun h => h) (Or.inl ?_))
    | (refine And.intro (fun _ => rfl) (Or.inl ?_))
    | (refine And.intro (fun h => Bool.noConfusion h) (Or.inl ?_))
    | (with_reducible refine And.intro (fun _ => rfl) ?_)
    | ((with_reducible refine And.intro ?_ ?_) <;> conv => whnf)
    | (refine congrArg (Value.int _) ?_)
    | (refine congrArg (SV.arr _) ?_)
    | (refine congrArg Value.bool ?_))
    · have hi' : i = us.length := by omega
      subst hi'
      have : worthL (List.drop us.length gs) (List.drop us.length us) = 0 := by
        rw [List.drop_length]; cases List.drop us.length gs <;> rfl
      repeat' (first
    | refine W.seq ?_
    | refine W.block ?_
    | (refine W.region tys_ok [] ?_; conv => whnf)
    | (refine W.drawAll tys_ok [] mixed rfl ?_; conv => whnf)
    | (refine W.ret ?_; conv => whnf)
    | (refine W.skip ?_; conv => whnf)
    | (refine W.exit ?_; conv => whnf)
    | (refine W.cond rfl (fun hb => ?_) (fun hb => ?_) <;> (try simp only [minL, maxL, pickB, getD_int, getD_sl, getD_bool, len_int, len_sl, len_bool, decide_eq_true_eq, decide_eq_false_iff_not, Bool.and_eq_true, Bool.or_eq_true, Bool.and_eq_false_iff, Bool.or_eq_false_iff, Bool.not_eq_true', Bool.not_eq_false', Int.toNat_natCast, Int.ofNat_lt, Int.ofNat_le, not_true_eq_false, not_false_eq_true, or_false, false_or, and_true, true_and, or_true, true_or, and_false, false_and] at hb) <;> (try (first | (cases hb; done) | exact absurd hb (by decide) | (exfalso; omega))))
    | ((with_reducible refine And.intro ?_ ?_); (focus ((repeat' (first | rfl | exact Or.inl rfl | exact Or.inr rfl | (with_reducible refine And.intro ?_ ?_) | omega | (focus ((try simp only [minL, maxL, pickB, getD_int, getD_sl, getD_bool, len_int, len_sl, len_bool, decide_eq_true_eq, decide_eq_false_iff_not, Bool.and_eq_true, Bool.or_eq_true, Bool.and_eq_false_iff, Bool.or_eq_false_iff, Bool.not_eq_true', Bool.not_eq_false', Int.toNat_natCast, Int.ofNat_lt, Int.ofNat_le, not_true_eq_false, not_false_eq_true, or_false, false_or, and_true, true_and, or_true, true_or, and_false, false_and, InK, Path.imp] at *); omega)))); done)); (conv => whnf))
    | ((with_reducible refine And.intro (Side.out ?_) ?_); rotate_left; (conv => whnf))
    | (refine Exists.intro _ (And.intro rfl (And.intro rfl (And.intro ?_ ?_))) <;> (conv => whnf) <;> repeat' (first
    | exact trivial
    | rfl
    | (refine And.intro (fun h => h) (Or.inl ?_))
    | (refine And.intro (fun _ => rfl) (Or.inl ?_))
    | (refine And.intro (fun h => Bool.noConfusion h) (Or.inl ?_))
    | (with_reducible refine And.intro (fun _ => rfl) ?_)
    | ((with_reducible refine And.intro ?_ ?_) <;> conv => whnf)
    | (refine congrArg (Value.int _) ?_)
    | (refine congrArg (SV.arr _) ?_)
    | (refine congrArg Value.bool ?_)))); all_goals (try unfold Side)
      all_goals try (repeat' (first | rfl | exact Or.inl rfl | exact Or.inr rfl | (with_reducible refine And.intro ?_ ?_) | omega | (focus ((try simp only [minL, maxL, pickB, getD_int, getD_sl, getD_bool, len_int, len_sl, len_bool, decide_eq_true_eq, decide_eq_false_iff_not, Bool.and_eq_true, Bool.or_eq_true, Bool.and_eq_false_iff, Bool.or_eq_false_iff, Bool.not_eq_true', Bool.not_eq_false', Int.toNat_natCast, Int.ofNat_lt, Int.ofNat_le, not_true_eq_false, not_false_eq_true, or_false, false_or, and_true, true_and, or_true, true_or, and_false, false_and, InK, Path.imp] at *); omega))))
