/- Joined of: W27 Vc24 Vc25 W30 W31 W32. No condition. -/
import Derived.Test.YtohfemfgnohhdaaJ4
import Derived.Test.YtohfemfgnohhdaaJ2

/- Prices, of the program and of the document; WaterShares. No condition. -/
namespace Go.Proofs.Ytohfemfgnohhdaa
open Go Go.Vc
set_option linter.unusedVariables false
set_option linter.unusedSimpArgs false

def pricesT (fl : List Int) (gs : List (List Int)) (n : Nat) : List Int := (List.range n).map fun i => val (fl.set i (fl.getD i 0 + 1)) gs - val fl gs
theorem pricesT_len {fl : List Int} {gs : List (List Int)} {n : Nat} : (pricesT fl gs n).length = n := by simp [pricesT]
theorem pricesT_succ {fl : List Int} {gs : List (List Int)} {n : Nat} : pricesT fl gs n ++ [val (fl.set n (fl.getD n 0 + 1)) gs - val fl gs] = pricesT fl gs (n + 1) := by
  simp [pricesT, List.range_succ]
theorem val_bound {fl : List Int} {gs : List (List Int)} (h : OkG gs) : 0 ≤ val fl gs ∧ val fl gs ≤ 160000 := by
  have h1 := worth_bound (gs := gs) (us := bestL fl gs) h
  have h2 := h.len
  simp only [val]
  omega
/-- A river whose flows are small. -/
theorem Riv.more {fl : List Int} {gs : List (List Int)} (h : Riv fl gs) (hs : ∀ i, i < fl.length → fl.getD i 0 ≤ 30) (i : Nat) : Riv (fl.set i (fl.getD i 0 + 1)) gs := by
  refine ⟨h.g, h.d, by rw [List.length_set]; exact h.len, fun j hj => ?_⟩
  rw [List.length_set] at hj
  by_cases hi : i < fl.length
  · rw [getD_set hi]
    have h1 := h.val j hj
    have h2 := h.val i hi
    have h3 := hs i hi
    split <;> omega
  · rw [List.set_eq_of_length_le (by omega)]
    exact h.val j hj
set_option maxHeartbeats 2000000 in
theorem Prices_ref (fl : List Int) (gs : List (List Int)) (h : Riv fl gs) (hs : ∀ i, i < fl.length → fl.getD i 0 ≤ 30) :
    FnAt Try.prog false 32 [.arr (.int .i64) fl, .arr (.sl (.int .i64)) gs] (.own 0) [(0, .row 3 (.int .i64) true (pricesT fl gs fl.length))] := by
  have hG := h.g
  have hl := h.len
  have hl8 := hG.len
  have hb := val_bound (fl := fl) hG
  have hB := Best_ref fl gs h
  refine FnAt.of_body tys_ok Try.func32 (by rfl) rfl Try.ntmps32 (by rw [Try.results32]) (by simp) ?_
  
  repeat' (first
    | refine W.seq ?_
    | refine W.block ?_
    | (refine W.region tys_ok [] ?_; conv => whnf)
    | (refine W.drawAll tys_ok [] mixed rfl ?_; conv => whnf)
    | (refine W.ret ?_; conv => whnf)
    | (refine W.skip ?_; conv => whnf)
    | (refine W.exit ?_; conv => whnf)
    | (refine ⟨false, _, _, _, _, rfl, Path.imp_of (hB), rfl, rfl, rfl, ?_⟩; conv => whnf)
    | (refine W.cond rfl (fun hb => ?_) (fun hb => ?_) <;> (try simp only [minL, maxL, pickB, getD_int, getD_sl, getD_bool, len_int, len_sl, len_bool, decide_eq_true_eq, decide_eq_false_iff_not, Bool.and_eq_true, Bool.or_eq_true, Bool.and_eq_false_iff, Bool.or_eq_false_iff, Bool.not_eq_true', Bool.not_eq_false', Int.toNat_natCast, Int.ofNat_lt, Int.ofNat_le, not_true_eq_false, not_false_eq_true, or_false, false_or, and_true, true_and, or_true, true_or, and_false, false_and] at hb) <;> (try (first | (cases hb; done) | exact absurd hb (by decide) | (exfalso; omega))))
    | ((with_reducible refine And.intro ?_ ?_); (focus ((repeat' (first | (with_reducible rfl) | (with_reducible refine And.intro ?_ ?_) | omega | rfl | exact Or.inl rfl | exact Or.inr rfl | (focus ((try simp only [minL, maxL, pickB, getD_int, getD_sl, getD_bool, len_int, len_sl, len_bool, decide_eq_true_eq, decide_eq_false_iff_not, Bool.and_eq_true, Bool.or_eq_true, Bool.and_eq_false_iff, Bool.or_eq_false_iff, Bool.not_eq_true', Bool.not_eq_false', Int.toNat_natCast, Int.ofNat_lt, Int.ofNat_le, not_true_eq_false, not_false_eq_true, or_false, false_or, and_true, true_and, or_true, true_or, and_false, false_and, InK, Path.imp, List.length_replicate, List.length_set, List.length_append, List.length_cons, List.length_nil] at *); omega)) | (refine app_le rfl ?_; omega))); done)); (conv => whnf))
    | ((with_reducible refine And.intro (Side.out ?_) ?_); rotate_left; (conv => whnf))
    | (refine Exists.intro _ (And.intro rfl (And.intro rfl (And.intro ?_ ?_))) <;> (conv => whnf) <;> repeat' (first
    | exact trivial
    | rfl
    | (refine And.intro (fun h => h) (Or.inl ?_))
    | (refine And.intro (fun _ => rfl) (Or.inl ?_))
    | (refine And.intro (fun h => Bool.noConfusion h) (Or.inl ?_))
    | (with_reducible refine And.intro (fun _ => rfl) ?_)
    | ((with_reducible refine And.intro ?_ ?_) <;> conv => whnf)
    | (refine congrArg (Value.int _) ?_)
    | (refine congrArg (SV.arr _) ?_)
    | (refine congrArg Value.bool ?_)))); all_goals (try unfold Side)
  refine W.loop (fun i : Nat => ⟨[(0, .st false (.arr (.int .i64) fl)), (1, .st false (.arr (.sl (.int .i64)) gs)), (6, .lit (.int .i64 (val fl gs))), (7, .own 19000), (8, .lit (.int .i64 i))], [(19000, .row 3 (.int .i64) true (pricesT fl gs i))]⟩)
    (fun i => i ≤ fl.length) (fun i => fl.length - i) 0 ?_ ?_
  · refine ⟨Nat.zero_le _, ?_⟩
    refine ⟨rfl, ?_, ?_⟩ <;> (conv => whnf) <;> repeat' (first
    | exact trivial
    | rfl
    | (refine And.intro (fun h => h) (Or.inl ?_))
    | (refine And.intro (fun _ => rfl) (Or.inl ?_))
    | (refine And.intro (fun h => Bool.noConfusion h) (Or.inl ?_))
    | (with_reducible refine And.intro (fun _ => rfl) ?_)
    | ((with_reducible refine And.intro ?_ ?_) <;> conv => whnf)
    | (refine congrArg (Value.int _) ?_)
    | (refine congrArg (SV.arr _) ?_)
    | (refine congrArg Value.bool ?_))
  · intro i hi
    have hpl' : @List.length (Ty.int .i64).T (pricesT fl gs i) = i := pricesT_len
    by_cases hil : i < fl.length
    · have hv := h.val i hil
      have hB1 := Best_ref _ gs (h.more hs i)
      have hb1 := val_bound (fl := fl.set i (fl.getD i 0 + 1)) hG
      repeat' (first
    | refine W.seq ?_
    | refine W.block ?_
    | (refine W.resub (x := Code.region 7 _ _) (Γ' := ⟨[(0, .st false (.arr (.int .i64) fl)), (1, .st false (.arr (.sl (.int .i64)) gs)), (6, .lit (.int .i64 (val fl gs))), (7, .own 19000), (8, .lit (.int .i64 i)), (9, .own 28000)], [(19000, .row 3 (.int .i64) true (pricesT fl gs i)), (28000, .row 3 (.int .i64) true fl)]⟩) ?_ (W.region tys_ok [] ?_); rotate_left; (conv => whnf))
    | (refine W.region tys_ok [] ?_; conv => whnf)
    | (refine W.drawAll tys_ok [] mixed rfl ?_; conv => whnf)
    | (refine W.ret ?_; conv => whnf)
    | (refine W.skip ?_; conv => whnf)
    | (refine W.exit ?_; conv => whnf)
    | (refine ⟨false, _, _, _, _, rfl, Path.imp_of (hB1), rfl, rfl, rfl, ?_⟩; conv => whnf)
    | (refine W.cond rfl (fun hb => ?_) (fun hb => ?_) <;> (try simp only [minL, maxL, pickB, getD_int, getD_sl, getD_bool, len_int, len_sl, len_bool, decide_eq_true_eq, decide_eq_false_iff_not, Bool.and_eq_true, Bool.or_eq_true, Bool.and_eq_false_iff, Bool.or_eq_false_iff, Bool.not_eq_true', Bool.not_eq_false', Int.toNat_natCast, Int.ofNat_lt, Int.ofNat_le, not_true_eq_false, not_false_eq_true, or_false, false_or, and_true, true_and, or_true, true_or, and_false, false_and] at hb) <;> (try (first | (cases hb; done) | exact absurd hb (by decide) | (exfalso; omega))))
    | ((with_reducible refine And.intro ?_ ?_); (focus ((repeat' (first | (with_reducible rfl) | (with_reducible refine And.intro ?_ ?_) | omega | rfl | exact Or.inl rfl | exact Or.inr rfl | (focus ((try simp only [minL, maxL, pickB, getD_int, getD_sl, getD_bool, len_int, len_sl, len_bool, decide_eq_true_eq, decide_eq_false_iff_not, Bool.and_eq_true, Bool.or_eq_true, Bool.and_eq_false_iff, Bool.or_eq_false_iff, Bool.not_eq_true', Bool.not_eq_false', Int.toNat_natCast, Int.ofNat_lt, Int.ofNat_le, not_true_eq_false, not_false_eq_true, or_false, false_or, and_true, true_and, or_true, true_or, and_false, false_and, InK, Path.imp, List.length_replicate, List.length_set, List.length_append, List.length_cons, List.length_nil] at *); omega)) | (refine app_le rfl ?_; omega))); done)); (conv => whnf))
    | ((with_reducible refine And.intro (Side.out ?_) ?_); rotate_left; (conv => whnf))
    | (refine Exists.intro _ (And.intro rfl (And.intro rfl (And.intro ?_ ?_))) <;> (conv => whnf) <;> repeat' (first
    | exact trivial
    | rfl
    | (refine And.intro (fun h => h) (Or.inl ?_))
    | (refine And.intro (fun _ => rfl) (Or.inl ?_))
    | (refine And.intro (fun h => Bool.noConfusion h) (Or.inl ?_))
    | (with_reducible refine And.intro (fun _ => rfl) ?_)
    | ((with_reducible refine And.intro ?_ ?_) <;> conv => whnf)
    | (refine congrArg (Value.int _) ?_)
    | (refine congrArg (SV.arr _) ?_)
    | (refine congrArg Value.bool ?_)))); all_goals (try unfold Side)
      all_goals try (repeat' (first | (with_reducible rfl) | (with_reducible refine And.intro ?_ ?_) | omega | rfl | exact Or.inl rfl | exact Or.inr rfl | (focus ((try simp only [minL, maxL, pickB, getD_int, getD_sl, getD_bool, len_int, len_sl, len_bool, decide_eq_true_eq, decide_eq_false_iff_not, Bool.and_eq_true, Bool.or_eq_true, Bool.and_eq_false_iff, Bool.or_eq_false_iff, Bool.not_eq_true', Bool.not_eq_false', Int.toNat_natCast, Int.ofNat_lt, Int.ofNat_le, not_true_eq_false, not_false_eq_true, or_false, false_or, and_true, true_and, or_true, true_or, and_false, false_and, InK, Path.imp, List.length_replicate, List.length_set, List.length_append, List.length_cons, List.length_nil] at *); omega)) | (refine app_le rfl ?_; omega)))
      rotate_left
      · refine ⟨rfl, ?_, ?_⟩ <;> (conv => whnf) <;> repeat' (first
    | exact trivial
    | rfl
    | (refine And.intro (fun h => h) (Or.inl ?_))
    | (refine And.intro (fun _ => rfl) (Or.inl ?_))
    | (refine And.intro (fun h => Bool.noConfusion h) (Or.inl ?_))
    | (with_reducible refine And.intro (fun _ => rfl) ?_)
    | ((with_reducible refine And.intro ?_ ?_) <;> conv => whnf)
    | (refine congrArg (Value.int _) ?_)
    | (refine congrArg (SV.arr _) ?_)
    | (refine congrArg Value.bool ?_))
      refine ⟨i + 1, ⟨by omega, by omega⟩, ?_⟩
      refine ⟨rfl, ?_, ?_⟩ <;> (conv => whnf) <;> repeat' (first
    | exact trivial
    | rfl
    | (refine And.intro (fun h => h) (Or.inl ?_))
    | (refine And.intro (fun _ => rfl) (Or.inl ?_))
    | (refine And.intro (fun h => Bool.noConfusion h) (Or.inl ?_))
    | (with_reducible refine And.intro (fun _ => rfl) ?_)
    | ((with_reducible refine And.intro ?_ ?_) <;> conv => whnf)
    | (refine congrArg (Value.int _) ?_)
    | (refine congrArg (SV.arr _) ?_)
    | (refine congrArg Value.bool ?_))
      exact pricesT_succ
    · have hie : i = fl.length := by omega
      subst hie
      repeat' (first
    | refine W.seq ?_
    | refine W.block ?_
    | (refine W.region tys_ok [] ?_; conv => whnf)
    | (refine W.drawAll tys_ok [] mixed rfl ?_; conv => whnf)
    | (refine W.ret ?_; conv => whnf)
    | (refine W.skip ?_; conv => whnf)
    | (refine W.exit ?_; conv => whnf)
    | (refine W.cond rfl (fun hb => ?_) (fun hb => ?_) <;> (try simp only [minL, maxL, pickB, getD_int, getD_sl, getD_bool, len_int, len_sl, len_bool, decide_eq_true_eq, decide_eq_false_iff_not, Bool.and_eq_true, Bool.or_eq_true, Bool.and_eq_false_iff, Bool.or_eq_false_iff, Bool.not_eq_true', Bool.not_eq_false', Int.toNat_natCast, Int.ofNat_lt, Int.ofNat_le, not_true_eq_false, not_false_eq_true, or_false, false_or, and_true, true_and, or_true, true_or, and_false, false_and] at hb) <;> (try (first | (cases hb; done) | exact absurd hb (by decide) | (exfalso; omega))))
    | ((with_reducible refine And.intro ?_ ?_); (focus ((repeat' (first | (with_reducible rfl) | (with_reducible refine And.intro ?_ ?_) | omega | rfl | exact Or.inl rfl | exact Or.inr rfl | (focus ((try simp only [minL, maxL, pickB, getD_int, getD_sl, getD_bool, len_int, len_sl, len_bool, decide_eq_true_eq, decide_eq_false_iff_not, Bool.and_eq_true, Bool.or_eq_true, Bool.and_eq_false_iff, Bool.or_eq_false_iff, Bool.not_eq_true', Bool.not_eq_false', Int.toNat_natCast, Int.ofNat_lt, Int.ofNat_le, not_true_eq_false, not_false_eq_true, or_false, false_or, and_true, true_and, or_true, true_or, and_false, false_and, InK, Path.imp, List.length_replicate, List.length_set, List.length_append, List.length_cons, List.length_nil] at *); omega)) | (refine app_le rfl ?_; omega))); done)); (conv => whnf))
    | ((with_reducible refine And.intro (Side.out ?_) ?_); rotate_left; (conv => whnf))
    | (refine Exists.intro _ (And.intro rfl (And.intro rfl (And.intro ?_ ?_))) <;> (conv => whnf) <;> repeat' (first
    | exact trivial
    | rfl
    | (refine And.intro (fun h => h) (Or.inl ?_))
    | (refine And.intro (fun _ => rfl) (Or.inl ?_))
    | (refine And.intro (fun h => Bool.noConfusion h) (Or.inl ?_))
    | (with_reducible refine And.intro (fun _ => rfl) ?_)
    | ((with_reducible refine And.intro ?_ ?_) <;> conv => whnf)
    | (refine congrArg (Value.int _) ?_)
    | (refine congrArg (SV.arr _) ?_)
    | (refine congrArg Value.bool ?_)))); all_goals (try unfold Side)
      all_goals try (repeat' (first | (with_reducible rfl) | (with_reducible refine And.intro ?_ ?_) | omega | rfl | exact Or.inl rfl | exact Or.inr rfl | (focus ((try simp only [minL, maxL, pickB, getD_int, getD_sl, getD_bool, len_int, len_sl, len_bool, decide_eq_true_eq, decide_eq_false_iff_not, Bool.and_eq_true, Bool.or_eq_true, Bool.and_eq_false_iff, Bool.or_eq_false_iff, Bool.not_eq_true', Bool.not_eq_false', Int.toNat_natCast, Int.ofNat_lt, Int.ofNat_le, not_true_eq_false, not_false_eq_true, or_false, false_or, and_true, true_and, or_true, true_or, and_false, false_and, InK, Path.imp, List.length_replicate, List.length_set, List.length_append, List.length_cons, List.length_nil] at *); omega)) | (refine app_le rfl ?_; omega)))
set_option maxHeartbeats 2000000 in
theorem Prices_ok (fl : List Int) (gs : List (List Int)) (h1 : fl.length ≤ 1000) (h2 : gs.length ≤ 1000) (h3 : ∀ i, i < gs.length → (gs.getD i []).length ≤ 1000) :
    FnAt Try.prog false 30 [.arr (.int .i64) fl, .arr (.sl (.int .i64)) gs] (.tup [.own 0, .lit (.int .i64 (cond (riverOk fl gs) 0 1))]) [(0, .row 3 (.int .i64) true (cond (riverOk fl gs) (pricesT fl gs fl.length) []))] := by
  have hr := read_at fl gs h1 h2 h3
  cases hok : riverOk fl gs with
  | false =>
    rw [hok] at hr
    refine FnAt.of_body tys_ok Try.func30 (by rfl) rfl Try.ntmps30 (by rw [Try.results30]) (by simp) ?_
  
    repeat' (first
    | refine W.seq ?_
    | refine W.block ?_
    | (refine W.region tys_ok [] ?_; conv => whnf)
    | (refine W.drawAll tys_ok [] mixed rfl ?_; conv => whnf)
    | (refine W.ret ?_; conv => whnf)
    | (refine W.skip ?_; conv => whnf)
    | (refine W.exit ?_; conv => whnf)
    | (refine ⟨true, _, _, _, _, rfl, Path.imp_of (hr), rfl, rfl, rfl, ?_⟩; conv => whnf)
    | (refine W.cond rfl (fun hb => ?_) (fun hb => ?_) <;> (try simp only [minL, maxL, pickB, getD_int, getD_sl, getD_bool, len_int, len_sl, len_bool, decide_eq_true_eq, decide_eq_false_iff_not, Bool.and_eq_true, Bool.or_eq_true, Bool.and_eq_false_iff, Bool.or_eq_false_iff, Bool.not_eq_true', Bool.not_eq_false', Int.toNat_natCast, Int.ofNat_lt, Int.ofNat_le, not_true_eq_false, not_false_eq_true, or_false, false_or, and_true, true_and, or_true, true_or, and_false, false_and] at hb) <;> (try (first | (cases hb; done) | exact absurd hb (by decide) | (exfalso; omega))))
    | ((with_reducible refine And.intro ?_ ?_); (focus ((repeat' (first | (with_reducible rfl) | (with_reducible refine And.intro ?_ ?_) | omega | rfl | exact Or.inl rfl | exact Or.inr rfl | (focus ((try simp only [minL, maxL, pickB, getD_int, getD_sl, getD_bool, len_int, len_sl, len_bool, decide_eq_true_eq, decide_eq_false_iff_not, Bool.and_eq_true, Bool.or_eq_true, Bool.and_eq_false_iff, Bool.or_eq_false_iff, Bool.not_eq_true', Bool.not_eq_false', Int.toNat_natCast, Int.ofNat_lt, Int.ofNat_le, not_true_eq_false, not_false_eq_true, or_false, false_or, and_true, true_and, or_true, true_or, and_false, false_and, InK, Path.imp, List.length_replicate, List.length_set, List.length_append, List.length_cons, List.length_nil] at *); omega)) | (refine app_le rfl ?_; omega))); done)); (conv => whnf))
    | ((with_reducible refine And.intro (Side.out ?_) ?_); rotate_left; (conv => whnf))
    | (refine Exists.intro _ (And.intro rfl (And.intro rfl (And.intro ?_ ?_))) <;> (conv => whnf) <;> repeat' (first
    | exact trivial
    | rfl
    | (refine And.intro (fun h => h) (Or.inl ?_))
    | (refine And.intro (fun _ => rfl) (Or.inl ?_))
    | (refine And.intro (fun h => Bool.noConfusion h) (Or.inl ?_))
    | (with_reducible refine And.intro (fun _ => rfl) ?_)
    | ((with_reducible refine And.intro ?_ ?_) <;> conv => whnf)
    | (refine congrArg (Value.int _) ?_)
    | (refine congrArg (SV.arr _) ?_)
    | (refine congrArg Value.bool ?_)))); all_goals (try unfold Side)
    all_goals try (repeat' (first | (with_reducible rfl) | (with_reducible refine And.intro ?_ ?_) | omega | rfl | exact Or.inl rfl | exact Or.inr rfl | (focus ((try simp only [minL, maxL, pickB, getD_int, getD_sl, getD_bool, len_int, len_sl, len_bool, decide_eq_true_eq, decide_eq_false_iff_not, Bool.and_eq_true, Bool.or_eq_true, Bool.and_eq_false_iff, Bool.or_eq_false_iff, Bool.not_eq_true', Bool.not_eq_false', Int.toNat_natCast, Int.ofNat_lt, Int.ofNat_le, not_true_eq_false, not_false_eq_true, or_false, false_or, and_true, true_and, or_true, true_or, and_false, false_and, InK, Path.imp, List.length_replicate, List.length_set, List.length_append, List.length_cons, List.length_nil] at *); omega)) | (refine app_le rfl ?_; omega)))
    all_goals cases hb
  | true =>
    rw [hok] at hr
    have hR := riverOk.river hok
    have h := riverOk.riv hok
    have hG := h.g
    have hl := h.len
    have hl8 := hG.len
    have hb0 := val_bound (fl := fl) hG
    have hv0 := value_at fl gs hG hl h.val
    refine FnAt.of_body tys_ok Try.func30 (by rfl) rfl Try.ntmps30 (by rw [Try.results30]) (by simp) ?_
  
    repeat' (first
    | refine W.seq ?_
    | refine W.block ?_
    | (refine W.region tys_ok [] ?_; conv => whnf)
    | (refine W.drawAll tys_ok [] mixed rfl ?_; conv => whnf)
    | (refine W.ret ?_; conv => whnf)
    | (refine W.skip ?_; conv => whnf)
    | (refine W.exit ?_; conv => whnf)
    | (refine ⟨true, _, _, _, _, rfl, Path.imp_of (hr), rfl, rfl, rfl, ?_⟩; conv => whnf)
    | (refine ⟨false, _, _, _, _, rfl, Path.imp_of (hv0), rfl, rfl, rfl, ?_⟩; conv => whnf)
    | (refine W.cond rfl (fun hb => ?_) (fun hb => ?_) <;> (try simp only [minL, maxL, pickB, getD_int, getD_sl, getD_bool, len_int, len_sl, len_bool, decide_eq_true_eq, decide_eq_false_iff_not, Bool.and_eq_true, Bool.or_eq_true, Bool.and_eq_false_iff, Bool.or_eq_false_iff, Bool.not_eq_true', Bool.not_eq_false', Int.toNat_natCast, Int.ofNat_lt, Int.ofNat_le, not_true_eq_false, not_false_eq_true, or_false, false_or, and_true, true_and, or_true, true_or, and_false, false_and] at hb) <;> (try (first | (cases hb; done) | exact absurd hb (by decide) | (exfalso; omega))))
    | ((with_reducible refine And.intro ?_ ?_); (focus ((repeat' (first | (with_reducible rfl) | (with_reducible refine And.intro ?_ ?_) | omega | rfl | exact Or.inl rfl | exact Or.inr rfl | (focus ((try simp only [minL, maxL, pickB, getD_int, getD_sl, getD_bool, len_int, len_sl, len_bool, decide_eq_true_eq, decide_eq_false_iff_not, Bool.and_eq_true, Bool.or_eq_true, Bool.and_eq_false_iff, Bool.or_eq_false_iff, Bool.not_eq_true', Bool.not_eq_false', Int.toNat_natCast, Int.ofNat_lt, Int.ofNat_le, not_true_eq_false, not_false_eq_true, or_false, false_or, and_true, true_and, or_true, true_or, and_false, false_and, InK, Path.imp, List.length_replicate, List.length_set, List.length_append, List.length_cons, List.length_nil] at *); omega)) | (refine app_le rfl ?_; omega))); done)); (conv => whnf))
    | ((with_reducible refine And.intro (Side.out ?_) ?_); rotate_left; (conv => whnf))
    | (refine Exists.intro _ (And.intro rfl (And.intro rfl (And.intro ?_ ?_))) <;> (conv => whnf) <;> repeat' (first
    | exact trivial
    | rfl
    | (refine And.intro (fun h => h) (Or.inl ?_))
    | (refine And.intro (fun _ => rfl) (Or.inl ?_))
    | (refine And.intro (fun h => Bool.noConfusion h) (Or.inl ?_))
    | (with_reducible refine And.intro (fun _ => rfl) ?_)
    | ((with_reducible refine And.intro ?_ ?_) <;> conv => whnf)
    | (refine congrArg (Value.int _) ?_)
    | (refine congrArg (SV.arr _) ?_)
    | (refine congrArg Value.bool ?_)))); all_goals (try unfold Side)
    all_goals try (cases hb; done)
    refine W.loop (fun i : Nat => ⟨[(0, .st false (.arr (.int .i64) fl)), (1, .st false (.arr (.sl (.int .i64)) gs)), (8, .lit (.int .i64 (val fl gs))), (9, .own 37000), (22, .lit (.int .i64 fl.length)), (23, .lit (.int .i64 i))],
        [(37000, .row 3 (.int .i64) true (pricesT fl gs i))]⟩)
      (fun i => i ≤ fl.length) (fun i => fl.length - i) 0 ?_ ?_
    · refine ⟨by simp, ?_⟩
      refine ⟨rfl, ?_, ?_⟩ <;> (conv => whnf) <;> repeat' (first
    | exact trivial
    | rfl
    | (refine And.intro (fun h => h) (Or.inl ?_))
    | (refine And.intro (fun _ => rfl) (Or.inl ?_))
    | (refine And.intro (fun h => Bool.noConfusion h) (Or.inl ?_))
    | (with_reducible refine And.intro (fun _ => rfl) ?_)
    | ((with_reducible refine And.intro ?_ ?_) <;> conv => whnf)
    | (refine congrArg (Value.int _) ?_)
    | (refine congrArg (SV.arr _) ?_)
    | (refine congrArg Value.bool ?_))
    · intro i hi
      have hpl' : @List.length (Ty.int .i64).T (pricesT fl gs i) = i := pricesT_len
      by_cases hil : i < fl.length
      · have hv := h.val i hil
        have hw := with_at fl i hil (by omega) (by omega)
        have hv1 := value_at _ gs hG ((h.more (fun i hi => (hR.val i hi).2) i).len) (h.more (fun i hi => (hR.val i hi).2) i).val
        have hb1 := val_bound (fl := fl.set i (fl.getD i 0 + 1)) hG
        repeat' (first
    | refine W.seq ?_
    | refine W.block ?_
    | (refine W.region tys_ok [] ?_; conv => whnf)
    | (refine W.drawAll tys_ok [] mixed rfl ?_; conv => whnf)
    | (refine W.ret ?_; conv => whnf)
    | (refine W.skip ?_; conv => whnf)
    | (refine W.exit ?_; conv => whnf)
    | (refine ⟨false, _, _, _, _, rfl, Path.imp_of (hw), rfl, rfl, rfl, ?_⟩; conv => whnf)
    | (refine ⟨false, _, _, _, _, rfl, Path.imp_of (hv1), rfl, rfl, rfl, ?_⟩; conv => whnf)
    | (refine W.cond rfl (fun hb => ?_) (fun hb => ?_) <;> (try simp only [minL, maxL, pickB, getD_int, getD_sl, getD_bool, len_int, len_sl, len_bool, decide_eq_true_eq, decide_eq_false_iff_not, Bool.and_eq_true, Bool.or_eq_true, Bool.and_eq_false_iff, Bool.or_eq_false_iff, Bool.not_eq_true', Bool.not_eq_false', Int.toNat_natCast, Int.ofNat_lt, Int.ofNat_le, not_true_eq_false, not_false_eq_true, or_false, false_or, and_true, true_and, or_true, true_or, and_false, false_and] at hb) <;> (try (first | (cases hb; done) | exact absurd hb (by decide) | (exfalso; omega))))
    | ((with_reducible refine And.intro ?_ ?_); (focus ((repeat' (first | (with_reducible rfl) | (with_reducible refine And.intro ?_ ?_) | omega | rfl | exact Or.inl rfl | exact Or.inr rfl | (focus ((try simp only [minL, maxL, pickB, getD_int, getD_sl, getD_bool, len_int, len_sl, len_bool, decide_eq_true_eq, decide_eq_false_iff_not, Bool.and_eq_true, Bool.or_eq_true, Bool.and_eq_false_iff, Bool.or_eq_false_iff, Bool.not_eq_true', Bool.not_eq_false', Int.toNat_natCast, Int.ofNat_lt, Int.ofNat_le, not_true_eq_false, not_false_eq_true, or_false, false_or, and_true, true_and, or_true, true_or, and_false, false_and, InK, Path.imp, List.length_replicate, List.length_set, List.length_append, List.length_cons, List.length_nil] at *); omega)) | (refine app_le rfl ?_; omega))); done)); (conv => whnf))
    | ((with_reducible refine And.intro (Side.out ?_) ?_); rotate_left; (conv => whnf))
    | (refine Exists.intro _ (And.intro rfl (And.intro rfl (And.intro ?_ ?_))) <;> (conv => whnf) <;> repeat' (first
    | exact trivial
    | rfl
    | (refine And.intro (fun h => h) (Or.inl ?_))
    | (refine And.intro (fun _ => rfl) (Or.inl ?_))
    | (refine And.intro (fun h => Bool.noConfusion h) (Or.inl ?_))
    | (with_reducible refine And.intro (fun _ => rfl) ?_)
    | ((with_reducible refine And.intro ?_ ?_) <;> conv => whnf)
    | (refine congrArg (Value.int _) ?_)
    | (refine congrArg (SV.arr _) ?_)
    | (refine congrArg Value.bool ?_)))); all_goals (try unfold Side)
        all_goals try (repeat' (first | (with_reducible rfl) | (with_reducible refine And.intro ?_ ?_) | omega | rfl | exact Or.inl rfl | exact Or.inr rfl | (focus ((try simp only [minL, maxL, pickB, getD_int, getD_sl, getD_bool, len_int, len_sl, len_bool, decide_eq_true_eq, decide_eq_false_iff_not, Bool.and_eq_true, Bool.or_eq_true, Bool.and_eq_false_iff, Bool.or_eq_false_iff, Bool.not_eq_true', Bool.not_eq_false', Int.toNat_natCast, Int.ofNat_lt, Int.ofNat_le, not_true_eq_false, not_false_eq_true, or_false, false_or, and_true, true_and, or_true, true_or, and_false, false_and, InK, Path.imp, List.length_replicate, List.length_set, List.length_append, List.length_cons, List.length_nil] at *); omega)) | (refine app_le rfl ?_; omega)))
        refine ⟨i + 1, ⟨by omega, by omega⟩, ?_⟩
        refine ⟨rfl, ?_, ?_⟩ <;> (conv => whnf) <;> repeat' (first
    | exact trivial
    | rfl
    | (refine And.intro (fun h => h) (Or.inl ?_))
    | (refine And.intro (fun _ => rfl) (Or.inl ?_))
    | (refine And.intro (fun h => Bool.noConfusion h) (Or.inl ?_))
    | (with_reducible refine And.intro (fun _ => rfl) ?_)
    | ((with_reducible refine And.intro ?_ ?_) <;> conv => whnf)
    | (refine congrArg (Value.int _) ?_)
    | (refine congrArg (SV.arr _) ?_)
    | (refine congrArg Value.bool ?_))
        exact pricesT_succ
      · have hie : i = fl.length := by omega
        subst hie
        repeat' (first
    | refine W.seq ?_
    | refine W.block ?_
    | (refine W.region tys_ok [] ?_; conv => whnf)
    | (refine W.drawAll tys_ok [] mixed rfl ?_; conv => whnf)
    | (refine W.ret ?_; conv => whnf)
    | (refine W.skip ?_; conv => whnf)
    | (refine W.exit ?_; conv => whnf)
    | (refine W.cond rfl (fun hb => ?_) (fun hb => ?_) <;> (try simp only [minL, maxL, pickB, getD_int, getD_sl, getD_bool, len_int, len_sl, len_bool, decide_eq_true_eq, decide_eq_false_iff_not, Bool.and_eq_true, Bool.or_eq_true, Bool.and_eq_false_iff, Bool.or_eq_false_iff, Bool.not_eq_true', Bool.not_eq_false', Int.toNat_natCast, Int.ofNat_lt, Int.ofNat_le, not_true_eq_false, not_false_eq_true, or_false, false_or, and_true, true_and, or_true, true_or, and_false, false_and] at hb) <;> (try (first | (cases hb; done) | exact absurd hb (by decide) | (exfalso; omega))))
    | ((with_reducible refine And.intro ?_ ?_); (focus ((repeat' (first | (with_reducible rfl) | (with_reducible refine And.intro ?_ ?_) | omega | rfl | exact Or.inl rfl | exact Or.inr rfl | (focus ((try simp only [minL, maxL, pickB, getD_int, getD_sl, getD_bool, len_int, len_sl, len_bool, decide_eq_true_eq, decide_eq_false_iff_not, Bool.and_eq_true, Bool.or_eq_true, Bool.and_eq_false_iff, Bool.or_eq_false_iff, Bool.not_eq_true', Bool.not_eq_false', Int.toNat_natCast, Int.ofNat_lt, Int.ofNat_le, not_true_eq_false, not_false_eq_true, or_false, false_or, and_true, true_and, or_true, true_or, and_false, false_and, InK, Path.imp, List.length_replicate, List.length_set, List.length_append, List.length_cons, List.length_nil] at *); omega)) | (refine app_le rfl ?_; omega))); done)); (conv => whnf))
    | ((with_reducible refine And.intro (Side.out ?_) ?_); rotate_left; (conv => whnf))
    | (refine Exists.intro _ (And.intro rfl (And.intro rfl (And.intro ?_ ?_))) <;> (conv => whnf) <;> repeat' (first
    | exact trivial
    | rfl
    | (refine And.intro (fun h => h) (Or.inl ?_))
    | (refine And.intro (fun _ => rfl) (Or.inl ?_))
    | (refine And.intro (fun h => Bool.noConfusion h) (Or.inl ?_))
    | (with_reducible refine And.intro (fun _ => rfl) ?_)
    | ((with_reducible refine And.intro ?_ ?_) <;> conv => whnf)
    | (refine congrArg (Value.int _) ?_)
    | (refine congrArg (SV.arr _) ?_)
    | (refine congrArg Value.bool ?_)))); all_goals (try unfold Side)
        all_goals try (repeat' (first | (with_reducible rfl) | (with_reducible refine And.intro ?_ ?_) | omega | rfl | exact Or.inl rfl | exact Or.inr rfl | (focus ((try simp only [minL, maxL, pickB, getD_int, getD_sl, getD_bool, len_int, len_sl, len_bool, decide_eq_true_eq, decide_eq_false_iff_not, Bool.and_eq_true, Bool.or_eq_true, Bool.and_eq_false_iff, Bool.or_eq_false_iff, Bool.not_eq_true', Bool.not_eq_false', Int.toNat_natCast, Int.ofNat_lt, Int.ofNat_le, not_true_eq_false, not_false_eq_true, or_false, false_or, and_true, true_and, or_true, true_or, and_false, false_and, InK, Path.imp, List.length_replicate, List.length_set, List.length_append, List.length_cons, List.length_nil] at *); omega)) | (refine app_le rfl ?_; omega)))

theorem Shares_bad {fl : List Int} {gs : List (List Int)} (hok : riverOk fl gs = false) (h1 : fl.length ≤ 1000) (h2 : gs.length ≤ 1000) (h3 : ∀ i, i < gs.length → (gs.getD i []).length ≤ 1000) :
    FnAt Try.prog false 29 [.arr (.int .i64) fl, .arr (.sl (.int .i64)) gs] (.tup [.own 0, .lit (.int .i64 1)]) [(0, .row 3 (.int .i64) true [])] := by
  have h := Shares_ok fl gs h1 h2 h3
  rw [hok] at h
  exact h
theorem Shares_good {fl : List Int} {gs : List (List Int)} (hok : riverOk fl gs = true) (h1 : fl.length ≤ 1000) (h2 : gs.length ≤ 1000) (h3 : ∀ i, i < gs.length → (gs.getD i []).length ≤ 1000) :
    FnAt Try.prog false 29 [.arr (.int .i64) fl, .arr (.sl (.int .i64)) gs] (.tup [.own 0, .lit (.int .i64 0)]) [(0, .row 3 (.int .i64) true (sharesT fl gs fl.length))] := by
  have h := Shares_ok fl gs h1 h2 h3
  rw [hok] at h
  exact h
theorem Prices_bad {fl : List Int} {gs : List (List Int)} (hok : riverOk fl gs = false) (h1 : fl.length ≤ 1000) (h2 : gs.length ≤ 1000) (h3 : ∀ i, i < gs.length → (gs.getD i []).length ≤ 1000) :
    FnAt Try.prog false 30 [.arr (.int .i64) fl, .arr (.sl (.int .i64)) gs] (.tup [.own 0, .lit (.int .i64 1)]) [(0, .row 3 (.int .i64) true [])] := by
  have h := Prices_ok fl gs h1 h2 h3
  rw [hok] at h
  exact h
theorem Prices_good {fl : List Int} {gs : List (List Int)} (hok : riverOk fl gs = true) (h1 : fl.length ≤ 1000) (h2 : gs.length ≤ 1000) (h3 : ∀ i, i < gs.length → (gs.getD i []).length ≤ 1000) :
    FnAt Try.prog false 30 [.arr (.int .i64) fl, .arr (.sl (.int .i64)) gs] (.tup [.own 0, .lit (.int .i64 0)]) [(0, .row 3 (.int .i64) true (pricesT fl gs fl.length))] := by
  have h := Prices_ok fl gs h1 h2 h3
  rw [hok] at h
  exact h
set_option maxHeartbeats 2000000 in
theorem WaterShares_at (fl : List Int) (gs : List (List Int)) : FnAt Try.prog false 7 [.agg [.arr (.int .i64) fl, .arr (.sl (.int .i64)) gs]] (.lit (.bool true)) [] := by
  obtain ⟨F, hF⟩ : ∃ F, F = fl.take 9 := ⟨_, rfl⟩
  obtain ⟨G, hG⟩ : ∃ G, G = fewG gs := ⟨_, rfl⟩
  have hfew := few_eq hF hG
  obtain ⟨hl1, hl2, hl3⟩ := (few_few hF hG).len
  clear hF hG
  have hRv := River_ref F G hl1 hl2 hl3
  cases hok : riverOk F G with
  | false =>
    rw [hok] at hRv
    have hS := Shares_bad hok hl1 hl2 hl3
    have hP := Prices_bad hok hl1 hl2 hl3
    refine FnAt.of_body tys_ok Try.func7 (by rfl) rfl Try.ntmps7 (by rw [Try.results7]) (by simp) ?_
  
    repeat' (first
    | refine W.seq ?_
    | refine W.block ?_
    | (refine W.region tys_ok [] ?_; conv => whnf)
    | (refine W.drawAll tys_ok [] mixed rfl ?_; conv => whnf)
    | (refine W.ret ?_; conv => whnf)
    | (refine W.skip ?_; conv => whnf)
    | (refine W.exit ?_; conv => whnf)
    | (refine ⟨false, _, _, _, _, rfl, Path.imp_of (hfew), rfl, rfl, rfl, ?_⟩; conv => whnf)
    | (refine ⟨false, _, _, _, _, rfl, Path.imp_of (hRv), rfl, rfl, rfl, ?_⟩; conv => whnf)
    | (refine ⟨false, _, _, _, _, rfl, Path.imp_of (hS), rfl, rfl, rfl, ?_⟩; conv => whnf)
    | (refine ⟨false, _, _, _, _, rfl, Path.imp_of (hP), rfl, rfl, rfl, ?_⟩; conv => whnf)
    | (refine ⟨false, _, _, _, _, rfl, Path.imp_of (lives_at), rfl, rfl, rfl, ?_⟩; conv => whnf)
    | (refine W.cond rfl (fun hb => ?_) (fun hb => ?_) <;> (try simp only [minL, maxL, pickB, getD_int, getD_sl, getD_bool, len_int, len_sl, len_bool, decide_eq_true_eq, decide_eq_false_iff_not, Bool.and_eq_true, Bool.or_eq_true, Bool.and_eq_false_iff, Bool.or_eq_false_iff, Bool.not_eq_true', Bool.not_eq_false', Int.toNat_natCast, Int.ofNat_lt, Int.ofNat_le, not_true_eq_false, not_false_eq_true, or_false, false_or, and_true, true_and, or_true, true_or, and_false, false_and] at hb) <;> (try (first | (cases hb; done) | exact absurd hb (by decide) | (exfalso; omega))))
    | ((with_reducible refine And.intro ?_ ?_); (focus ((repeat' (first | (with_reducible rfl) | (with_reducible refine And.intro ?_ ?_) | omega | rfl | exact Or.inl rfl | exact Or.inr rfl | (focus ((try simp only [minL, maxL, pickB, getD_int, getD_sl, getD_bool, len_int, len_sl, len_bool, decide_eq_true_eq, decide_eq_false_iff_not, Bool.and_eq_true, Bool.or_eq_true, Bool.and_eq_false_iff, Bool.or_eq_false_iff, Bool.not_eq_true', Bool.not_eq_false', Int.toNat_natCast, Int.ofNat_lt, Int.ofNat_le, not_true_eq_false, not_false_eq_true, or_false, false_or, and_true, true_and, or_true, true_or, and_false, false_and, InK, Path.imp, List.length_replicate, List.length_set, List.length_append, List.length_cons, List.length_nil] at *); omega)) | (refine app_le rfl ?_; omega))); done)); (conv => whnf))
    | ((with_reducible refine And.intro (Side.out ?_) ?_); rotate_left; (conv => whnf))
    | (refine Exists.intro _ (And.intro rfl (And.intro rfl (And.intro ?_ ?_))) <;> (conv => whnf) <;> repeat' (first
    | exact trivial
    | rfl
    | (refine And.intro (fun h => h) (Or.inl ?_))
    | (refine And.intro (fun _ => rfl) (Or.inl ?_))
    | (refine And.intro (fun h => Bool.noConfusion h) (Or.inl ?_))
    | (with_reducible refine And.intro (fun _ => rfl) ?_)
    | ((with_reducible refine And.intro ?_ ?_) <;> conv => whnf)
    | (refine congrArg (Value.int _) ?_)
    | (refine congrArg (SV.arr _) ?_)
    | (refine congrArg Value.bool ?_)))); all_goals (try unfold Side)
    all_goals try (repeat' (first | (with_reducible rfl) | (with_reducible refine And.intro ?_ ?_) | omega | rfl | exact Or.inl rfl | exact Or.inr rfl | (focus ((try simp only [minL, maxL, pickB, getD_int, getD_sl, getD_bool, len_int, len_sl, len_bool, decide_eq_true_eq, decide_eq_false_iff_not, Bool.and_eq_true, Bool.or_eq_true, Bool.and_eq_false_iff, Bool.or_eq_false_iff, Bool.not_eq_true', Bool.not_eq_false', Int.toNat_natCast, Int.ofNat_lt, Int.ofNat_le, not_true_eq_false, not_false_eq_true, or_false, false_or, and_true, true_and, or_true, true_or, and_false, false_and, InK, Path.imp, List.length_replicate, List.length_set, List.length_append, List.length_cons, List.length_nil] at *); omega)) | (refine app_le rfl ?_; omega)))
  | true =>
    rw [hok] at hRv
    have hS := Shares_good hok hl1 hl2 hl3
    have hP := Prices_good hok hl1 hl2 hl3
    have hR := riverOk.river hok
    have h := riverOk.riv hok
    have hSr := Shares_ref F G h
    have hPr := Prices_ref F G h fun i hi => (hR.val i hi).2
    have hs1 := same_self (sharesT F G F.length) (by rw [sharesT_len]; omega)
    have hs2 := same_self (pricesT F G F.length) (by rw [pricesT_len]; omega)
    refine FnAt.of_body tys_ok Try.func7 (by rfl) rfl Try.ntmps7 (by rw [Try.results7]) (by simp) ?_
  
    repeat' (first
    | refine W.seq ?_
    | refine W.block ?_
    | (refine W.region tys_ok [] ?_; conv => whnf)
    | (refine W.drawAll tys_ok [] mixed rfl ?_; conv => whnf)
    | (refine W.ret ?_; conv => whnf)
    | (refine W.skip ?_; conv => whnf)
    | (refine W.exit ?_; conv => whnf)
    | (refine ⟨false, _, _, _, _, rfl, Path.imp_of (hfew), rfl, rfl, rfl, ?_⟩; conv => whnf)
    | (refine ⟨false, _, _, _, _, rfl, Path.imp_of (hRv), rfl, rfl, rfl, ?_⟩; conv => whnf)
    | (refine ⟨false, _, _, _, _, rfl, Path.imp_of (hS), rfl, rfl, rfl, ?_⟩; conv => whnf)
    | (refine ⟨false, _, _, _, _, rfl, Path.imp_of (hP), rfl, rfl, rfl, ?_⟩; conv => whnf)
    | (refine ⟨false, _, _, _, _, rfl, Path.imp_of (hSr), rfl, rfl, rfl, ?_⟩; conv => whnf)
    | (refine ⟨false, _, _, _, _, rfl, Path.imp_of (hPr), rfl, rfl, rfl, ?_⟩; conv => whnf)
    | (refine ⟨false, _, _, _, _, rfl, Path.imp_of (hs1), rfl, rfl, rfl, ?_⟩; conv => whnf)
    | (refine ⟨false, _, _, _, _, rfl, Path.imp_of (hs2), rfl, rfl, rfl, ?_⟩; conv => whnf)
    | (refine ⟨false, _, _, _, _, rfl, Path.imp_of (lives_at), rfl, rfl, rfl, ?_⟩; conv => whnf)
    | (refine W.cond rfl (fun hb => ?_) (fun hb => ?_) <;> (try simp only [minL, maxL, pickB, getD_int, getD_sl, getD_bool, len_int, len_sl, len_bool, decide_eq_true_eq, decide_eq_false_iff_not, Bool.and_eq_true, Bool.or_eq_true, Bool.and_eq_false_iff, Bool.or_eq_false_iff, Bool.not_eq_true', Bool.not_eq_false', Int.toNat_natCast, Int.ofNat_lt, Int.ofNat_le, not_true_eq_false, not_false_eq_true, or_false, false_or, and_true, true_and, or_true, true_or, and_false, false_and] at hb) <;> (try (first | (cases hb; done) | exact absurd hb (by decide) | (exfalso; omega))))
    | ((with_reducible refine And.intro ?_ ?_); (focus ((repeat' (first | (with_reducible rfl) | (with_reducible refine And.intro ?_ ?_) | omega | rfl | exact Or.inl rfl | exact Or.inr rfl | (focus ((try simp only [minL, maxL, pickB, getD_int, getD_sl, getD_bool, len_int, len_sl, len_bool, decide_eq_true_eq, decide_eq_false_iff_not, Bool.and_eq_true, Bool.or_eq_true, Bool.and_eq_false_iff, Bool.or_eq_false_iff, Bool.not_eq_true', Bool.not_eq_false', Int.toNat_natCast, Int.ofNat_lt, Int.ofNat_le, not_true_eq_false, not_false_eq_true, or_false, false_or, and_true, true_and, or_true, true_or, and_false, false_and, InK, Path.imp, List.length_replicate, List.length_set, List.length_append, List.length_cons, List.length_nil] at *); omega)) | (refine app_le rfl ?_; omega))); done)); (conv => whnf))
    | ((with_reducible refine And.intro (Side.out ?_) ?_); rotate_left; (conv => whnf))
    | (refine Exists.intro _ (And.intro rfl (And.intro rfl (And.intro ?_ ?_))) <;> (conv => whnf) <;> repeat' (first
    | exact trivial
    | rfl
    | (refine And.intro (fun h => h) (Or.inl ?_))
    | (refine And.intro (fun _ => rfl) (Or.inl ?_))
    | (refine And.intro (fun h => Bool.noConfusion h) (Or.inl ?_))
    | (with_reducible refine And.intro (fun _ => rfl) ?_)
    | ((with_reducible refine And.intro ?_ ?_) <;> conv => whnf)
    | (refine congrArg (Value.int _) ?_)
    | (refine congrArg (SV.arr _) ?_)
    | (refine congrArg Value.bool ?_)))); all_goals (try unfold Side)
    all_goals try (repeat' (first | (with_reducible rfl) | (with_reducible refine And.intro ?_ ?_) | omega | rfl | exact Or.inl rfl | exact Or.inr rfl | (focus ((try simp only [minL, maxL, pickB, getD_int, getD_sl, getD_bool, len_int, len_sl, len_bool, decide_eq_true_eq, decide_eq_false_iff_not, Bool.and_eq_true, Bool.or_eq_true, Bool.and_eq_false_iff, Bool.or_eq_false_iff, Bool.not_eq_true', Bool.not_eq_false', Int.toNat_natCast, Int.ofNat_lt, Int.ofNat_le, not_true_eq_false, not_false_eq_true, or_false, false_or, and_true, true_and, or_true, true_or, and_false, false_and, InK, Path.imp, List.length_replicate, List.length_set, List.length_append, List.length_cons, List.length_nil] at *); omega)) | (refine app_le rfl ?_; omega)))
end Go.Proofs.Ytohfemfgnohhdaa
/- A region of few operations: every order is walked. No condition. -/
namespace Go.Vc
set_option linter.unusedVariables false
set_option linter.unusedSimpArgs false

inductive Both (p q : Prop) : Prop
  | mk (hp : p) (hq : q) : Both p q
inductive Leaf (p : Prop) : Prop
  | mk (hp : p) : Leaf p
/-- What must come before, directly. -/
def dirm : List Edge → Nat → Nat
  | [], s => s
  | e :: r, s => match Region.binds .any e with
    | true => dirm r (s ||| 2 ^ e.on)
    | false => dirm r s
theorem dirm_bit {i : Nat} : ∀ {l : List Edge} {s : Nat}, (dirm l s).testBit i = true → s.testBit i = true ∨ ∃ e ∈ l, Region.binds .any e = true ∧ e.on = i
  | [], s, h => .inl h
  | e :: r, s, h => by
    simp only [dirm] at h
    split at h
    · rename_i hb
      rcases dirm_bit h with h1 | ⟨e', h1, h2, h3⟩
      · simp only [Nat.testBit_or, Bool.or_eq_true] at h1
        rcases h1 with h1 | h1
        · exact .inl h1
        · refine .inr ⟨e, by simp, hb, ?_⟩
          rw [Nat.testBit_two_pow] at h1
          simpa using h1
      · exact .inr ⟨e', by simp [h1], h2, h3⟩
    · rcases dirm_bit h with h1 | ⟨e', h1, h2, h3⟩
      · exact .inl h1
      · exact .inr ⟨e', by simp [h1], h2, h3⟩
def dirms (ops : Array Oper) : List Nat := ops.toList.map fun o => dirm o.after.toList 0
/-- Those that may come now. -/
def rdy (done : Nat) : List Nat → Nat → List Nat
  | [], _ => []
  | e :: r, i => match Nat.beq (Nat.land done (2 ^ i)) 0 && Nat.beq (Nat.land done e) e with
    | true => i :: rdy done r (i + 1)
    | false => rdy done r (i + 1)
def eachP : List Nat → (Nat → Prop) → Prop
  | [], _ => True
  | [i], p => p i
  | i :: r, p => Both (p i) (eachP r p)
theorem eachP_mem : ∀ {l : List Nat} {p : Nat → Prop}, eachP l p → ∀ i ∈ l, p i
  | [], p, _, i, hi => by cases hi
  | [j], p, h, i, hi => by
    simp only [List.mem_singleton] at hi
    rw [hi]; exact h
  | j :: k :: r, p, h, i, hi => by
    obtain ⟨h1, h2⟩ : Both (p j) (eachP (k :: r) p) := h
    rcases List.mem_cons.1 hi with rfl | hi
    · exact h1
    · exact eachP_mem h2 i hi
theorem rdy_mem {done i : Nat} : ∀ {E : List Nat} {s e : Nat}, E[i]? = some e → done.testBit (s + i) = false → (∀ j, e.testBit j = true → done.testBit j = true) → (s + i) ∈ rdy done E s := by
  induction i with
  | zero =>
    intro E s e he hd hp
    cases E with
    | nil => cases he
    | cons x r =>
      simp only [List.getElem?_cons_zero, Option.some.injEq] at he
      subst he
      have h1 : Nat.beq (Nat.land done (2 ^ s)) 0 = true := by
        rw [Nat.beq_eq]
        refine Nat.eq_of_testBit_eq fun j => ?_
        show (done &&& 2 ^ s).testBit j = _
        rw [Nat.testBit_and, Nat.zero_testBit, Nat.testBit_two_pow]
        by_cases h : s = j
        · subst h; simp only [Nat.add_zero] at hd; simp [hd]
        · simp [h]
      have h2 : Nat.beq (Nat.land done x) x = true := by
        rw [Nat.beq_eq]
        refine Nat.eq_of_testBit_eq fun j => ?_
        show (done &&& x).testBit j = _
        rw [Nat.testBit_and]
        cases h : x.testBit j with
        | false => simp
        | true => simp [hp j h]
      simp only [rdy, h1, h2, Bool.and_self, Nat.add_zero, List.mem_cons, true_or]
  | succ i ih =>
    intro E s e he hd hp
    cases E with
    | nil => cases he
    | cons x r =>
      have := ih (E := r) (s := s + 1) (by simpa using he) (by rw [show s + 1 + i = s + (i + 1) from by omega]; exact hd) hp
      rw [show s + 1 + i = s + (i + 1) from by omega] at this
      simp only [rdy]
      split
      · exact List.mem_cons_of_mem _ this
      · exact this

/-- Every order. -/
def treeVC (P : Program) (T : List (Nat × TE)) (F : List Nat) (n : Nat) (ops : Array Oper) (E : List Nat) : Nat → Nat → Sy → (Sy → Prop) → Prop
  | 0, _, Γ, K => K Γ
  | k + 1, done, Γ, K => eachP (rdy done E 0) fun i => match ops[i]? with
    | some o => opsVC P T F n (dstsOf ops) [] [o] i 0 Γ fun Γ' => treeVC P T F n ops E k (Nat.lor done (2 ^ i)) Γ' K
    | none => False

theorem one_sound {P : Program} {T : List (Nat × TE)} {F : List Nat} (hT : TOk P T) {c : Cx} {ops : Array Oper} {K : Sy → Prop} {i : Nat} {o : Oper} {Γ : Sy} (hoi : ops[i]? = some o) (h : opsVC P T F c.n (dstsOf ops) [] [o] i 0 Γ K) :
    ∃ Γ', StepOk P c ops i Γ Γ' ∧ K Γ' := by
  simp only [opsVC, memN] at h
  split at h
  · split at h
    · rename_i hgd
      obtain ⟨Γ1, h1, h2⟩ := mutVC.sound hT h
      refine ⟨Γ1, ?_, h2⟩
      intro Q g a w K' hst hK
      unfold wpOp
      rw [hoi]
      dsimp only
      have : Region.wanted o (yielded ops a.tmps) = true := by simp [Region.wanted, hgd]
      rw [if_pos this]
      exact .inl (h1 g a w _ _ hst hK)
    · exact h.elim
  · split at h
    · exact h.elim
    · rename_i G hG
      split at h
      · rename_i hd
        obtain ⟨A, N, h1, h2, h6⟩ := pureVC.sound (c := c) hT h
        split at h6
        rotate_left
        · exact h6.elim
        rename_i h4
        refine ⟨_, ?_, h6⟩
        intro Q g a w K' hst hK
        unfold wpOp
        rw [hoi]
        dsimp only
        rw [if_pos ((guardOf.wanted (ops := ops) hst hG).2 trivial)]
        refine .inl (h1 trivial Γ g a w _ _ (fun _ _ => rfl) (fun _ _ h => h) (freeB_free h4) hst fun g' v w' h6 h7 => ?_)
        rw [hd]
        exact hK g' _ w' h6
      · rename_i t hd
        obtain ⟨A, N, h1, h2, h6⟩ := pureVC.sound (c := c) hT h
        split at h6
        rotate_left
        · exact h6.elim
        rename_i h34
        simp only [Bool.and_eq_true] at h34
        obtain ⟨h3, h4⟩ := h34
        exact ⟨_, add_step hoi hd (Nat.le_of_ble_eq_true h3) hG h1 (fun h => h2 (.inl h)) (fun _ _ => rfl) (fun _ _ h => h) (freeB_free h4), h6⟩

theorem tree_sound {P : Program} {T : List (Nat × TE)} {F : List Nat} (hT : TOk P T) {c : Cx} {ops : Array Oper} {E : List Nat} (hE : dirms ops = E) {K : Sy → Prop} {Q : Exit → Act → World → Prop}
    (hQ : ∀ Γ' g' a' w', K Γ' → St c Γ' g' a' w' → Q .normal a' w') (hed : ∀ j o, ops[j]? = some o → ∀ e ∈ o.after, Region.binds .any e = true → e.on < j) :
    ∀ (k : Nat) (listed : Array Bool) (done : Nat) (Γ : Sy) (g : Nat → Value) (a : Act) (w : World), listed.size = ops.size → cnt listed = k → (∀ j, j < ops.size → listed[j]? = some (done.testBit j)) →
      treeVC P T F c.n ops E k done Γ K → St c Γ g a w → wpAnyH P .any ops Q c.S k listed a w := by
  intro k
  induction k with
  | zero =>
    intro listed done Γ g a w hsz hc hd h hst
    have hall := cnt_zero hc
    refine ⟨List.eq_nil_iff_forall_not_mem.2 fun i hi => ?_, hQ _ _ _ _ h hst⟩
    obtain ⟨h1, h2, _⟩ := ready_mem.1 hi
    have := hall i (by omega)
    simp [Array.getD_eq_getD_getElem?, this] at h2
  | succ k ih =>
    intro listed done Γ g a w hsz hc hd h hst
    refine ⟨fun hrd => ?_, fun i hi => ?_⟩
    · obtain ⟨i, h1, h2⟩ := cnt_pos (listed := listed) (by omega)
      have hi : i < ops.size := by rw [← hsz]; exact (Array.getElem?_eq_some_iff.1 h1).1
      have : i ∈ Region.ready .any ops listed := ready_mem.2 ⟨hi, by simp [Array.getD_eq_getD_getElem?, h1], fun o ho e he hb => by
        have := h2 e.on (hed i o ho e he hb)
        simp [Array.getD_eq_getD_getElem?, this]⟩
      rw [hrd] at this; cases this
    · obtain ⟨h1, h2, h3⟩ := ready_mem.1 hi
      have hoi : ops[i]? = some ops[i] := by simp [h1]
      have hdi : done.testBit i = false := by
        have := hd i h1
        simp only [Array.getD_eq_getD_getElem?, this, Option.getD_some] at h2
        exact h2
      have hEi : E[i]? = some (dirm (ops[i]).after.toList 0) := by
        rw [← hE, dirms, List.getElem?_map]
        simp [h1]
      have hm := rdy_mem (done := done) (i := i) (s := 0) hEi (by rw [Nat.zero_add]; exact hdi) fun j hj => by
        rcases dirm_bit hj with h4 | ⟨e, he, hb, rfl⟩
        · simp at h4
        · have h5 := h3 _ hoi e (by simpa using he) hb
          have h6 := hed i _ hoi e (by simpa using he) hb
          have h7 := hd e.on (by omega)
          simp only [Array.getD_eq_getD_getElem?, h7, Option.getD_some] at h5
          exact h5
      rw [Nat.zero_add] at hm
      have h4 := eachP_mem h i hm
      rw [hoi] at h4
      obtain ⟨Γ', h5, h6⟩ := one_sound hT hoi h4
      have hlf : listed[i]? = some false := by rw [hd i h1, hdi]
      refine h5 Q g a w _ hst fun g' a' w' h7 => ⟨h7.s, ih _ (Nat.lor done (2 ^ i)) Γ' g' a' w' (by simp [hsz]) (by have := cnt_set hlf; omega) (fun j hj => ?_) h6 h7⟩
      show _ = some ((done ||| 2 ^ i).testBit j)
      rw [Nat.testBit_or, Nat.testBit_two_pow]
      by_cases e : i = j
      · subst e
        rw [Array.getElem?_setIfInBounds_self_of_lt (by omega)]
        simp
      · rw [Array.getElem?_setIfInBounds_ne e, hd j hj]
        simp [e]

/-- Those of L first, then every order. -/
theorem W.drawTree {P : Program} {n : Nat} {Q : Exit → Sy → Prop} {Γ : Sy} {T : List (Nat × TE)} (hT : TOk P T) (F : List Nat) (hmx : P.follows .mixedOrders = true) (L E : List Nat) (k done : Nat) (Γ2 : Sy) {id : Nat} {ops : Array Oper}
    (hd : (Nat.beq (k + L.length) ops.size && allBelow ops.size (fun j => match ops[j]? with
      | none => false
      | some o => edgesLt j o.after.toList && (memN j L == done.testBit j)) && (dirms ops == E) && floatOk ops L (Array.replicate ops.size false) && Region.noSelect ops && listOnce ops.size L) = true)
    (h : floatVC T n ops L Γ fun Γ1 => treeVC P T F n ops E k done Γ1 fun Γ' => Leaf (Sub Γ' Γ2 (mkRen Γ' Γ2))) (hnext : Q .normal Γ2) : W P n (.region id ops true) Γ Q := by
  simp only [Bool.and_eq_true] at hd
  obtain ⟨⟨⟨⟨⟨hk, hall⟩, hE⟩, hf⟩, hsel⟩, honce⟩ := hd
  have hk := Nat.eq_of_beq_eq_true hk
  have hE : dirms ops = E := by simpa using hE
  have hj : ∀ j o, ops[j]? = some o → (∀ e ∈ o.after, Region.binds .any e = true → e.on < j) ∧ memN j L = done.testBit j := by
    intro j o ho
    have hlt := (Array.getElem?_eq_some_iff.1 ho).1
    have h1 := allBelow_get hall j hlt
    rw [ho] at h1
    simp only [Bool.and_eq_true] at h1
    exact ⟨fun e he hb => edgesLt_get h1.1 (by simpa using he) hb, by simpa using h1.2⟩
  refine ⟨fun c g a w hn hst => ?_⟩
  obtain ⟨K, hK1, hK2⟩ := keepAll w (Oset Γ.own g)
  let c' : Cx := { c with K := K }
  have hst' : St c' Γ g a w := ⟨hst.defers, hst.size, hst.keep, hst.o0, hst.tmps, hK1, hst.hp⟩
  have hcK : ∀ b x, c.K b = some x → K b = some x := fun b x hb => hK2 b _ _ _ (hst.kept b x hb).1 (hst.kept b x hb).2
  have key : (Code.region id ops true).wp P (fun e a' w' => match e with | .normal => ∃ Γ' g', Leaf (Sub Γ' Γ2 (mkRen Γ' Γ2)) ∧ St c Γ' g' a' w' | _ => False) a w := by
    refine wp_region_held (S := c'.S) hmx ?_
    have hgo := floats (P := P) (c := c') (w := { w with drawn := w.drawn + 1 }) (Q := fun e a' w' => match e with | .normal => ∃ Γ' g', Leaf (Sub Γ' Γ2 (mkRen Γ' Γ2)) ∧ St c Γ' g' a' w' | _ => False) hT hsel (fun _ _ _ h => h) hK2 L (Array.replicate ops.size false) Γ a k rfl hf (by rw [← hn] at h; exact h) (hst'.keepW (Keep.drew w))
    rw [hk] at hgo
    refine hgo fun Γ1 a1 h1 hst1 => ?_
    have hLlt : ∀ i, memN i L = true → i < ops.size := by
      have : ∀ (L : List Nat), listOnce ops.size L = true → ∀ k, memN k L = true → k < ops.size := by
        intro L
        induction L with
        | nil => intro _ k hk; cases hk
        | cons i r ih =>
          intro h1 k hk
          simp only [listOnce, Bool.and_eq_true] at h1
          simp only [memN, Bool.or_eq_true] at hk
          rcases hk with hk | hk
          · rw [← Nat.eq_of_beq_eq_true hk]; exact Nat.le_of_ble_eq_true h1.1.1
          · exact ih h1.2 k hk
      exact this L honce
    have hcn := cnt_listAll (L := L) (l := Array.replicate ops.size false) honce (by simp) (fun i hi => by simp [hLlt i hi])
    have hcr : cnt (Array.replicate ops.size false) = ops.size := by simp [cnt, List.filter_replicate]
    refine tree_sound (c := c') hT hE (fun Γ' g' a' w' h2 h3 => ⟨Γ', g', h2, ⟨h3.defers, h3.size, h3.keep, h3.o0, h3.tmps, fun b x hb => h3.kept b x (hcK b x hb), h3.hp⟩⟩) (fun j o ho => (hj j o ho).1) k _ done Γ1 g a1 _ (by rw [listAll_size]; simp) (by omega) (fun j hjs => ?_) h1 hst1
    rw [listAll_get (by simpa using hjs), (hj j _ (by simp [hjs] : ops[j]? = some ops[j])).2]
    cases done.testBit j <;> simp [hjs]
  refine wp_mono key fun e a' w' hq => ?_
  cases e with
  | normal =>
    obtain ⟨Γ', g', ⟨hs⟩, h4⟩ := hq
    exact ⟨Γ2, _, hnext, hs.st h4⟩
  | _ => exact hq.elim
end Go.Vc
/- A region in whatever order, whose first operations may make what is new. No condition. -/
namespace Go.Vc
set_option linter.unusedVariables false
set_option linter.unusedSimpArgs false

/-- What the operations of D among the first n have made. -/
def fO (no : Nat → List (Nat × Ob)) (D : Nat → Bool) (own0 : List (Nat × Ob)) : Nat → List (Nat × Ob)
  | 0 => own0
  | k + 1 => if D k = true then no k ++ fO no D own0 k else fO no D own0 k
theorem fO_congr {no : Nat → List (Nat × Ob)} {D E : Nat → Bool} {own0 : List (Nat × Ob)} : ∀ {n : Nat}, (∀ k, k < n → D k = E k) → fO no D own0 n = fO no E own0 n
  | 0, _ => rfl
  | n + 1, h => by
    simp only [fO]
    rw [h n (by omega), fO_congr (n := n) fun k hk => h k (by omega)]
/-- What is looked up lies in one of them, or was there before. -/
theorem fO_get {no : Nat → List (Nat × Ob)} {D : Nat → Bool} {own0 : List (Nat × Ob)} {q : Nat} : ∀ {n : Nat} {b : Ob}, get? (fO no D own0 n) q = some b → (∃ k, k < n ∧ D k = true ∧ get? (no k) q = some b) ∨ get? own0 q = some b
  | 0, b, h => .inr h
  | n + 1, b, h => by
    simp only [fO] at h
    split at h
    · rename_i hD
      rw [get?_append] at h
      split at h
      · rename_i x hx
        cases h
        exact .inl ⟨n, by omega, hD, hx⟩
      · rcases fO_get h with ⟨k, h1, h2, h3⟩ | h1
        · exact .inl ⟨k, by omega, h2, h3⟩
        · exact .inr h1
    · rcases fO_get h with ⟨k, h1, h2, h3⟩ | h1
      · exact .inl ⟨k, by omega, h2, h3⟩
      · exact .inr h1
theorem fO_old {no : Nat → List (Nat × Ob)} {D : Nat → Bool} {own0 : List (Nat × Ob)} {q : Nat} : ∀ {n : Nat}, (∀ k, k < n → D k = true → get? (no k) q = none) → get? (fO no D own0 n) q = get? own0 q
  | 0, _ => rfl
  | n + 1, h => by
    simp only [fO]
    split
    · rename_i hD
      rw [get?_append, h n (by omega) hD]
      exact fO_old fun k hk => h k (by omega)
    · exact fO_old fun k hk => h k (by omega)
theorem fO_has {no : Nat → List (Nat × Ob)} {D : Nat → Bool} {own0 : List (Nat × Ob)} {q k : Nat} {b : Ob} : ∀ {n : Nat}, k < n → D k = true → get? (no k) q = some b → (∀ k', k' < n → D k' = true → k' ≠ k → get? (no k') q = none) → get? (fO no D own0 n) q = some b
  | 0, h, _, _, _ => by omega
  | n + 1, h, hD, hb, hne => by
    simp only [fO]
    by_cases e : k = n
    · subst e
      rw [if_pos hD, get?_append, hb]
    · have ih := fO_has (no := no) (D := D) (own0 := own0) (n := n) (by omega) hD hb fun k' hk' => hne k' (by omega)
      split
      · rename_i hDn
        rw [get?_append, hne n (by omega) hDn (by omega)]
        exact ih
      · exact ih
theorem fO_none {no : Nat → List (Nat × Ob)} {D : Nat → Bool} {own0 : List (Nat × Ob)} {q : Nat} {n : Nat} (h0 : get? own0 q = none) (h : ∀ k, k < n → D k = true → get? (no k) q = none) : get? (fO no D own0 n) q = none := by
  rw [fO_old h, h0]
theorem fO_add {no : Nat → List (Nat × Ob)} {D D' : Nat → Bool} {own0 : List (Nat × Ob)} {j : Nat} (hj : D' j = true) (hDj : D j = false) (hD : ∀ k, k ≠ j → D' k = D k) (q : Nat) : ∀ {m : Nat}, j < m → (∀ k, k < m → k ≠ j → D k = true → ∀ b, get? (no j) q = some b → get? (no k) q = none) →
    get? (fO no D' own0 m) q = get? (no j ++ fO no D own0 m) q := by
  intro m
  induction m with
  | zero => intro h; omega
  | succ m ih =>
    intro hjm hdis
    by_cases hm : m = j
    · subst hm
      have same : fO no D' own0 m = fO no D own0 m := fO_congr fun k hk => hD k (by omega)
      have hDj' : ¬ D m = true := by rw [hDj]; simp
      simp only [fO]
      rw [if_pos hj, if_neg hDj', same]
    · have ih' := ih (by omega) fun k hk => hdis k (by omega)
      simp only [fO]
      rw [hD m hm]
      by_cases hDm : D m = true
      · rw [if_pos hDm, if_pos hDm, get?_append, ih', get?_append, get?_append, get?_append]
        cases hj' : get? (no j) q with
        | none => rfl
        | some b => rw [hdis m (by omega) hm hDm b hj']
      · rw [if_neg hDm, if_neg hDm]
        exact ih'

/-- What those before have made, of those in the mask. -/
def ancO (msk : Nat) : List (Nat × AV × List (Nat × Ob)) → List (Nat × Ob) → List (Nat × Ob)
  | [], own0 => own0
  | (k, _, []) :: r, own0 => ancO msk r own0
  | (k, _, N) :: r, own0 => match msk.testBit k with
    | true => N ++ ancO msk r own0
    | false => ancO msk r own0
theorem ancO_get {msk : Nat} {own0 : List (Nat × Ob)} {q : Nat} {b : Ob} : ∀ {acc : List (Nat × AV × List (Nat × Ob))}, get? (ancO msk acc own0) q = some b → get? own0 q = some b ∨ ∃ k A N, (k, A, N) ∈ acc ∧ msk.testBit k = true ∧ get? N q = some b
  | [], h => .inl h
  | (k, A, []) :: r, h => by
    rcases ancO_get (acc := r) h with h1 | ⟨k', A', N', h1, h2⟩
    · exact .inl h1
    · exact .inr ⟨k', A', N', List.mem_cons_of_mem _ h1, h2⟩
  | (k, A, x :: y) :: r, h => by
    simp only [ancO] at h
    split at h
    · rename_i hm
      rw [get?_append] at h
      split at h
      · rename_i z hz
        cases h
        exact .inr ⟨k, A, x :: y, List.mem_cons_self, hm, hz⟩
      · rcases ancO_get (acc := r) h with h1 | ⟨k', A', N', h1, h2⟩
        · exact .inl h1
        · exact .inr ⟨k', A', N', List.mem_cons_of_mem _ h1, h2⟩
    · rcases ancO_get (acc := r) h with h1 | ⟨k', A', N', h1, h2⟩
      · exact .inl h1
      · exact .inr ⟨k', A', N', List.mem_cons_of_mem _ h1, h2⟩

/-- What is known of an operation that only adds. -/
structure NewOk (P : Program) (c : Cx) (ops : Array Oper) (own0 : List (Nat × Ob)) (msk : Nat) (acc : List (Nat × AV × List (Nat × Ob))) (j : Nat) (Γ Γ' : Sy) (av : AV) (N : List (Nat × Ob)) where
  o : Oper
  ho : ops[j]? = some o
  t : Nat
  ht : o.dst = some t
  hn : t < c.n
  G : Path
  A : AV
  own1 : List (Nat × Ob)
  hG : guardOf (dstsOf ops) Γ o.guard = some G
  hA : G.ok → Does P c o ⟨Γ.tmps, own1⟩ A N
  hown : ∀ q b, get? own1 q = some b → get? own0 q = some b ∨ ∃ k A' N', (k, A', N') ∈ acc ∧ msk.testBit k = true ∧ get? N' q = some b
  hN : G ≠ [] → N = []
  hav : av = gd' G A
  hΓ : Γ' = ⟨set Γ.tmps t av, N ++ Γ.own⟩
theorem NewOk.more {P : Program} {c : Cx} {ops : Array Oper} {own0 : List (Nat × Ob)} {msk : Nat} {acc acc' : List (Nat × AV × List (Nat × Ob))} {j : Nat} {Γ Γ' : Sy} {av : AV} {N : List (Nat × Ob)} (h : NewOk P c ops own0 msk acc j Γ Γ' av N) (hs : ∀ x ∈ acc, x ∈ acc') : Nonempty (NewOk P c ops own0 msk acc' j Γ Γ' av N) :=
  ⟨{ h with hown := fun q b hq => (h.hown q b hq).imp id fun ⟨k, A', N', h1, h2⟩ => ⟨k, A', N', hs _ h1, h2⟩ }⟩

/-- The first m operations: each sees what was owned before the region and what those before it have made, and what the text has put into the temporaries. -/
def preVC (P : Program) (T : List (Nat × TE)) (F : List Nat) (n : Nat) (dsts : List (Option Nat)) (M L : List Nat) (own0 : List (Nat × Ob)) : List Oper → Nat → Nat → Sy → List (Nat × AV × List (Nat × Ob)) → (Sy → List (Nat × AV × List (Nat × Ob)) → List Oper → Prop) → Prop
  | l, _, 0, Γ, acc, K => K Γ acc l
  | [], _, _ + 1, _, _, _ => False
  | o :: r, i, m + 1, Γ, acc, K => match memN i L with
    | true => preVC P T F n dsts M L own0 r (i + 1) m Γ acc K
    | false => match isMut o || isMade F o with
      | true => False
      | false => match guardOf dsts Γ o.guard, o.dst with
        | some G, some t => pureVC P T ⟨Γ.tmps, ancO (M.getD i 0) acc own0⟩ (memN t F) G (1000 * (t + 1)) o fun A N => match Nat.blt t n with
          | true => preVC P T F n dsts M L own0 r (i + 1) m (Γ.putA t (gd' G A) N) ((i, gd' G A, N) :: acc) K
          | false => False
        | _, _ => False
theorem preVC.trace {P : Program} {T : List (Nat × TE)} {F M L : List Nat} (hT : TOk P T) {c : Cx} {ops : Array Oper} {own0 : List (Nat × Ob)} {K : Sy → List (Nat × AV × List (Nat × Ob)) → List Oper → Prop} :
    ∀ (m : Nat) (l : List Oper) (i : Nat) (Γ : Sy) (acc : List (Nat × AV × List (Nat × Ob))), ops.toList.drop i = l → preVC P T F c.n (dstsOf ops) M L own0 l i m Γ acc K →
    ∃ (Γs : Nat → Sy) (acc' : List (Nat × AV × List (Nat × Ob))) (av : Nat → AV) (no : Nat → List (Nat × Ob)), Γs i = Γ ∧ K (Γs (i + m)) acc' (ops.toList.drop (i + m)) ∧ (∀ x ∈ acc, x ∈ acc') ∧
      (∀ x ∈ acc', x ∈ acc ∨ ∃ j, i ≤ j ∧ j < i + m ∧ memN j L = false ∧ x = (j, av j, no j)) ∧ ∀ j, i ≤ j → j < i + m → (memN j L = true → Γs (j + 1) = Γs j) ∧
      (memN j L = false → Nonempty (NewOk P c ops own0 (M.getD j 0) acc' j (Γs j) (Γs (j + 1)) (av j) (no j)) ∧ (j, av j, no j) ∈ acc') := by
  intro m
  induction m with
  | zero =>
    intro l i Γ acc hl h
    refine ⟨fun _ => Γ, acc, fun _ => .any, fun _ => [], rfl, ?_, fun x hx => hx, fun x hx => .inl hx, fun j h1 h2 => by omega⟩
    rw [Nat.add_zero, hl]
    cases l <;> exact h
  | succ m ih =>
    intro l i Γ acc hl h
    cases l with
    | nil => exact h.elim
    | cons o r =>
    have hi : i < ops.size := by
      rcases Nat.lt_or_ge i ops.size with h1 | h1
      · exact h1
      · rw [List.drop_eq_nil_of_le (by simpa using h1)] at hl; cases hl
    have hoi : ops[i]? = some o := by
      have : (ops.toList.drop i)[0]? = some o := by rw [hl]; rfl
      rw [List.getElem?_drop] at this
      simpa using this
    have hr : ops.toList.drop (i + 1) = r := by
      have := congrArg List.tail hl
      simpa [List.tail_drop] using this
    have glue : ∀ (Γ1 : Sy) (acc1 : List (Nat × AV × List (Nat × Ob))) (A0 : AV) (N0 : List (Nat × Ob)), preVC P T F c.n (dstsOf ops) M L own0 r (i + 1) m Γ1 acc1 K → (∀ x ∈ acc, x ∈ acc1) → (∀ x ∈ acc1, x ∈ acc ∨ memN i L = false ∧ x = (i, A0, N0)) →
        (memN i L = true → Γ1 = Γ) → (memN i L = false → Nonempty (NewOk P c ops own0 (M.getD i 0) acc1 i Γ Γ1 A0 N0) ∧ (i, A0, N0) ∈ acc1) →
        ∃ (Γs : Nat → Sy) (acc' : List (Nat × AV × List (Nat × Ob))) (av : Nat → AV) (no : Nat → List (Nat × Ob)), Γs i = Γ ∧ K (Γs (i + (m + 1))) acc' (ops.toList.drop (i + (m + 1))) ∧ (∀ x ∈ acc, x ∈ acc') ∧
          (∀ x ∈ acc', x ∈ acc ∨ ∃ j, i ≤ j ∧ j < i + (m + 1) ∧ memN j L = false ∧ x = (j, av j, no j)) ∧ ∀ j, i ≤ j → j < i + (m + 1) → (memN j L = true → Γs (j + 1) = Γs j) ∧
          (memN j L = false → Nonempty (NewOk P c ops own0 (M.getD j 0) acc' j (Γs j) (Γs (j + 1)) (av j) (no j)) ∧ (j, av j, no j) ∈ acc') := by
      intro Γ1 acc1 A0 N0 h1 hac hac2 hs hp
      obtain ⟨Γs, acc', av, no, g1, g2, g3, g5, g4⟩ := ih r (i + 1) Γ1 acc1 hr h1
      obtain ⟨Γr, hΓr⟩ : ∃ Γr : Nat → Sy, Γr = fun j => if j = i then Γ else Γs j := ⟨_, rfl⟩
      obtain ⟨avr, havr⟩ : ∃ avr : Nat → AV, avr = fun j => if j = i then A0 else av j := ⟨_, rfl⟩
      obtain ⟨nor, hnor⟩ : ∃ nor : Nat → List (Nat × Ob), nor = fun j => if j = i then N0 else no j := ⟨_, rfl⟩
      have ri : Γr i = Γ := by rw [hΓr]; simp
      have rn : ∀ j, j ≠ i → Γr j = Γs j := fun j hj => by rw [hΓr]; simp [hj]
      have ai : avr i = A0 := by rw [havr]; simp
      have an : ∀ j, j ≠ i → avr j = av j := fun j hj => by rw [havr]; simp [hj]
      have ni : nor i = N0 := by rw [hnor]; simp
      have nn : ∀ j, j ≠ i → nor j = no j := fun j hj => by rw [hnor]; simp [hj]
      refine ⟨Γr, acc', avr, nor, ri, ?_, fun x hx => g3 x (hac x hx), fun x hx => ?_, fun j h2 h3 => ?_⟩
      · rw [rn _ (by omega), show i + (m + 1) = i + 1 + m from by omega]
        exact g2
      · rcases g5 x hx with h2 | ⟨j, h2, h3, h4, h5⟩
        · rcases hac2 x h2 with h3 | ⟨h3, h4⟩
          · exact .inl h3
          · exact .inr ⟨i, Nat.le_refl _, by omega, h3, by rw [ai, ni]; exact h4⟩
        · exact .inr ⟨j, by omega, by omega, h4, by rw [an j (by omega), nn j (by omega)]; exact h5⟩
      · by_cases hj : j = i
        · subst hj
          rw [ri, rn (j + 1) (by omega), g1, ai, ni]
          refine ⟨hs, fun h0 => ?_⟩
          obtain ⟨⟨pk⟩, hpk⟩ := hp h0
          exact ⟨pk.more g3, g3 _ hpk⟩
        · rw [rn j hj, rn (j + 1) (by omega), an j hj, nn j hj]
          exact g4 j (by omega) (by omega)
    simp only [preVC] at h
    split at h
    · rename_i hL
      exact glue Γ acc .any [] h (fun x hx => hx) (fun x hx => .inl hx) (fun _ => rfl) (fun h0 => by rw [hL] at h0; cases h0)
    rename_i hL
    split at h
    · exact h.elim
    · split at h
      · rename_i G t hG hd
        obtain ⟨A, N, h1, h2, h6⟩ := pureVC.sound (c := c) hT h
        split at h6
        rotate_left
        · exact h6.elim
        rename_i h3
        refine glue _ _ (gd' G A) N h6 (fun x hx => List.mem_cons_of_mem _ hx) (fun x hx => ?_) (fun h0 => by rw [hL] at h0; cases h0) fun _ => ⟨⟨⟨o, hoi, t, hd, Nat.le_of_ble_eq_true h3, G, A, _, hG, h1, fun q b hq => ?_, fun h => h2 (.inl h), rfl, rfl⟩⟩, List.mem_cons_self⟩
        · rcases List.mem_cons.1 hx with h4 | h4
          · exact .inr ⟨hL, h4⟩
          · exact .inl h4
        · rcases ancO_get hq with h4 | ⟨k, A', N', h4, h5⟩
          · exact .inl h4
          · exact .inr ⟨k, A', N', List.mem_cons_of_mem _ h4, h5⟩
      · exact h.elim

/-- None of the new names stands where it must not. -/
def disjN (N' : List (Nat × Ob)) : List (Nat × Ob) → Bool
  | [] => true
  | (q, _) :: r => (get? N' q).isNone && disjN N' r
theorem disjN_get {N' : List (Nat × Ob)} {q : Nat} {b : Ob} : ∀ {N : List (Nat × Ob)}, disjN N' N = true → get? N q = some b → get? N' q = none
  | [], _, h => by cases h
  | (k, o) :: r, hl, h => by
    simp only [disjN, Bool.and_eq_true, Option.isNone_iff_eq_none] at hl
    simp only [get?] at h
    split at h
    · rename_i hb
      have := Nat.eq_of_beq_eq_true hb
      subst this
      exact hl.1
    · exact disjN_get hl.2 h
def newOk1 (M : List Nat) (i : Nat) (N : List (Nat × Ob)) : List (Nat × AV × List (Nat × Ob)) → Bool
  | [] => true
  | (k, A, N') :: r => (Nat.beq k i || disjN N' N && (freeB ⟨[(0, A)], N'⟩ N || (M.getD k 0).testBit i)) && newOk1 M i N r
def newOkA (M : List Nat) (Γ0 : Sy) (all : List (Nat × AV × List (Nat × Ob))) : List (Nat × AV × List (Nat × Ob)) → Bool
  | [] => true
  | (i, _, N) :: r => (match N with
    | [] => true
    | _ => freeB Γ0 N && newOk1 M i N all) && newOkA M Γ0 all r
theorem newOk1_get {M : List Nat} {i : Nat} {N : List (Nat × Ob)} : ∀ {l : List (Nat × AV × List (Nat × Ob))} {k : Nat} {A : AV} {N' : List (Nat × Ob)}, newOk1 M i N l = true → (k, A, N') ∈ l → k = i ∨ disjN N' N = true ∧ ((M.getD k 0).testBit i = true ∨ freeB ⟨[(0, A)], N'⟩ N = true)
  | [], k, A, N', _, h => by cases h
  | (k0, A0, N0) :: r, k, A, N', hl, h => by
    simp only [newOk1, Bool.and_eq_true, Bool.or_eq_true] at hl
    rcases List.mem_cons.1 h with e | h
    · cases e
      rcases hl.1 with h1 | ⟨h0, h1 | h1⟩
      · exact .inl (Nat.eq_of_beq_eq_true h1)
      · exact .inr ⟨h0, .inr h1⟩
      · exact .inr ⟨h0, .inl h1⟩
    · exact newOk1_get hl.2 h
theorem newOkA_get {M : List Nat} {Γ0 : Sy} {all : List (Nat × AV × List (Nat × Ob))} : ∀ {l : List (Nat × AV × List (Nat × Ob))} {i : Nat} {A : AV} {N : List (Nat × Ob)}, newOkA M Γ0 all l = true → (i, A, N) ∈ l → N = [] ∨ freeB Γ0 N = true ∧ newOk1 M i N all = true
  | [], i, A, N, _, h => by cases h
  | (i0, A0, N0) :: r, i, A, N, hl, h => by
    simp only [newOkA, Bool.and_eq_true] at hl
    rcases List.mem_cons.1 h with e | h
    · cases e
      have h1 := hl.1
      split at h1
      · exact .inl rfl
      · simp only [Bool.and_eq_true] at h1
        exact .inr h1
    · exact newOkA_get hl.2 h

/-- In whatever order; the first m operations may make what is new. -/
theorem region_new {P : Program} {T : List (Nat × TE)} {Fz : List Nat} (hT : TOk P T) (hmx : P.follows .mixedOrders = true) {c : Cx} {ops : Array Oper} {M L : List Nat} {m : Nat} (hd : drawOk ops M L m = true)
    (hf : floatOk ops L (Array.replicate ops.size false) = true) (hsel : Region.noSelect ops = true) (honce : listOnce ops.size L = true) {K : Sy → Prop} {Γ : Sy}
    (h : floatVC T c.n ops L Γ fun Γ1 => preVC P T Fz c.n (dstsOf ops) M L Γ1.own ops.toList 0 m Γ1 [] fun Γ2 acc l => match newOkA M Γ1 acc acc with
      | true => opsVC P T Fz c.n (dstsOf ops) L l m 0 Γ2 K
      | false => False)
    {Q : Exit → Act → World → Prop} (hQp : ∀ x a w, ¬ Q (.panic x) a w) {g : Nat → Value} {a : Act} {w : World} (hst : St c Γ g a w) (hfull : c.full w (Oset Γ.own g)) (hQ : ∀ Γ' g' a' w', K Γ' → St c Γ' g' a' w' → Q .normal a' w') {id : Nat} : (Code.region id ops true).wp P Q a w := by
  have F := drawOk.facts hd
  have hLlt : ∀ k, memN k L = true → k < ops.size := by
    have : ∀ (L : List Nat), listOnce ops.size L = true → ∀ k, memN k L = true → k < ops.size := by
      intro L
      induction L with
      | nil => intro _ k hk; cases hk
      | cons i r ih =>
        intro h1 k hk
        simp only [listOnce, Bool.and_eq_true] at h1
        simp only [memN, Bool.or_eq_true] at hk
        rcases hk with hk | hk
        · rw [← Nat.eq_of_beq_eq_true hk]; exact Nat.le_of_ble_eq_true h1.1.1
        · exact ih h1.2 k hk
    exact this L honce
  -- the floats first
  have hLlen : L.length ≤ ops.size := by
    have := cnt_listAll (L := L) (l := Array.replicate ops.size false) honce (by simp) (fun i hi => by simp [hLlt i hi])
    simp [cnt, List.filter_replicate] at this
    omega
  refine wp_region_held (S := c.S) hmx ?_
  have hgo := floats (P := P) (w := { w with drawn := w.drawn + 1 }) hT hsel hQp hfull L (Array.replicate ops.size false) Γ a (ops.size - L.length) rfl hf h (hst.keepW (Keep.drew w))
  rw [Nat.sub_add_cancel hLlen] at hgo
  refine hgo fun Γ a h hst => ?_
  clear hgo
  obtain ⟨Γa, acc, av, nv, a1, a2, a3, a5, a4⟩ := preVC.trace hT m ops.toList 0 Γ [] (by simp) h
  rw [Nat.zero_add] at a2
  split at a2
  rotate_left
  · exact a2.elim
  rename_i hacc
  obtain ⟨Γb, b1, b2, b3⟩ := opsVC.trace hT _ 0 m _ rfl a2
  let Γs : Nat → Sy := fun j => if j < m then Γa j else Γb j
  have ea : ∀ j, j ≤ m → Γs j = Γa j := fun j hj => by
    simp only [Γs]
    split
    · rfl
    · have : j = m := by omega
      rw [this, b1]
  have eb : ∀ j, m ≤ j → Γs j = Γb j := fun j hj => by simp only [Γs]; rw [if_neg (by omega)]
  have e1 : Γs 0 = Γ := by rw [ea 0 (Nat.zero_le _), a1]
  have e2 : K (Γs ops.size) := by rw [eb _ F.hm]; exact b2
  have e3L : ∀ j, j < ops.size → memN j L = true → Γs (j + 1) = Γs j := fun j hj hjL => by
    by_cases hjm : j < m
    · rw [ea j (by omega), ea (j + 1) (by omega)]
      exact (a4 j (Nat.zero_le _) (by omega)).1 hjL
    · rw [eb j (by omega), eb (j + 1) (by omega)]
      exact (b3 j (by omega) hj).1 hjL
  have e3 : ∀ j, m ≤ j → j < ops.size → memN j L = false → StepOk P c ops j (Γs j) (Γs (j + 1)) := fun j hjm hj hjL => by
    rw [eb j hjm, eb (j + 1) (by omega)]
    exact ((b3 j hjm hj).2 hjL).2 (by omega)
  have pre : ∀ j, j < m → memN j L = false → Nonempty (NewOk P c ops Γ.own (M.getD j 0) acc j (Γs j) (Γs (j + 1)) (av j) (nv j)) ∧ (j, av j, nv j) ∈ acc := fun j hj hjL => by
    rw [ea j (by omega), ea (j + 1) (by omega)]
    exact (a4 j (Nat.zero_le _) (by omega)).2 hjL
  let pk : ∀ j, j < m → memN j L = false → NewOk P c ops Γ.own (M.getD j 0) acc j (Γs j) (Γs (j + 1)) (av j) (nv j) := fun j hj hjL => Classical.choice (pre j hj hjL).1
  have accOf : ∀ k A N, (k, A, N) ∈ acc → k < m ∧ memN k L = false ∧ N = nv k := by
    intro k A N hx
    rcases a5 _ hx with h1 | ⟨j, _, h2, h3, h4⟩
    · cases h1
    · cases h4
      exact ⟨by omega, h3, rfl⟩
  let tb : Nat → Nat × AV := fun j => if hj : j < m ∧ memN j L = false then ((pk j hj.1 hj.2).t, av j) else (0, .any)
  have htb : ∀ j (hj : j < m) (hjL : memN j L = false), tb j = ((pk j hj hjL).t, av j) := fun j hj hjL => by simp [tb, hj, hjL]
  let no : Nat → List (Nat × Ob) := nv
  -- the new names
  have newFree : ∀ j (hj : j < m) (hjL : memN j L = false) q b, get? (no j) q = some b → Γ.free q := by
    intro j hj hjL q b hq
    rcases newOkA_get hacc (pre j hj hjL).2 with h1 | ⟨h1, h2⟩
    · have hq' : get? (nv j) q = some b := hq
      rw [h1] at hq'; cases hq'
    · exact freeB_free h1 q b hq
  have newDisj : ∀ j k (hj : j < m) (hjL : memN j L = false) (hk : k < m) (hkL : memN k L = false), k ≠ j → ∀ q b, get? (no j) q = some b → get? (no k) q = none := by
    intro j k hj hjL hk hkL hkj q b hq
    rcases newOkA_get hacc (pre j hj hjL).2 with h1 | ⟨h1, h2⟩
    · have hq' : get? (nv j) q = some b := hq
      rw [h1] at hq'; cases hq'
    · rcases newOk1_get h2 (pre k hk hkL).2 with h3 | ⟨h3, _⟩
      · exact absurd h3 hkj
      · exact disjN_get h3 hq
  have newApart : ∀ j k (hj : j < m) (hjL : memN j L = false) (hk : k < m) (hkL : memN k L = false), k ≠ j → (M.getD k 0).testBit j = false → ∀ q b, get? (no j) q = some b → (tb k).2.hasKey q = false ∧ (∀ p o, get? (no k) p = some o → o.hasKey q = false) ∧ get? (no k) q = none := by
    intro j k hj hjL hk hkL hkj hM q b hq
    rcases newOkA_get hacc (pre j hj hjL).2 with h1 | ⟨h1, h2⟩
    · have hq' : get? (nv j) q = some b := hq
      rw [h1] at hq'; cases hq'
    · rcases newOk1_get h2 (pre k hk hkL).2 with h3 | ⟨_, h3 | h3⟩
      · exact absurd h3 hkj
      · rw [hM] at h3; cases h3
      · have h4 := freeB_free h3 q b hq
        rw [htb k hk hkL]
        exact ⟨h4.1 0 _ rfl, h4.2.1, h4.2.2⟩
  let E : Nat → Bool := fun k => !(memN k L)
  -- the text's states
  have text : ∀ j, j ≤ m → Γs j = ⟨fD tb E Γ.tmps j, fO no E Γ.own j⟩ := by
    intro j
    induction j with
    | zero => intro _; rw [e1]; rfl
    | succ j ih =>
      intro hj
      have ih' := ih (by omega)
      cases hjL : memN j L with
      | true =>
        rw [e3L j (by have := F.hm; omega) hjL, ih']
        simp [fD, fO, E, hjL]
      | false =>
        have h1 := congrArg Sy.tmps ih'
        have h2 := congrArg Sy.own ih'
        have h3 := (pk j (by omega) hjL).hΓ
        rw [h3]
        have hEj : E j = true := by simp [E, hjL]
        simp only [fD, fO, hEj, if_true, htb j (by omega) hjL]
        dsimp only at h1 h2
        rw [← h2]
        congr 1
        rw [← h1]
  -- over those of L nothing happens
  have skip : ∀ q i, q ≤ i → i ≤ ops.size → (∀ k, q ≤ k → k < i → memN k L = true) → Γs i = Γs q := by
    intro q i hqi
    induction i with
    | zero => intro _ _; have : q = 0 := by omega
              rw [this]
    | succ i ih =>
      intro hi hk
      by_cases e : q = i + 1
      · rw [e]
      · rw [e3L i (by omega) (hk i (by omega) (by omega))]
        exact ih (by omega) (by omega) (fun k h1 h2 => hk k h1 (by omega))
  let dn : Array Bool → Nat → Bool := fun listed j => listed.getD j false && E j
  have key : ∀ (fuel : Nat) (listed : Array Bool) (g : Nat → Value) (a : Act) (w : World), listed.size = ops.size → cnt listed = fuel → (∀ k, memN k L = true → listed[k]? = some true) →
      (∀ j i, listed[j]? = some true → (M.getD j 0).testBit i = true → listed.getD i false = true) →
      (((∀ j, m ≤ j → j < ops.size → memN j L = false → listed[j]? = some false) ∧ St c ⟨fD tb (dn listed) Γ.tmps m, fO no (dn listed) Γ.own m⟩ g a w) ∨
        ∃ q, m ≤ q ∧ q ≤ ops.size ∧ (∀ j, j < q → listed[j]? = some true) ∧ (∀ j, q ≤ j → j < ops.size → memN j L = false → listed[j]? = some false) ∧ St c (Γs q) g a w) →
      wpAnyH P .any ops Q c.S fuel listed a w := by
    intro fuel
    induction fuel with
    | zero =>
      intro listed g a w hsz hc hLl hcl hs
      have hall := cnt_zero hc
      have hrd : Region.ready .any ops listed = [] := by
        refine List.eq_nil_iff_forall_not_mem.2 fun i hi => ?_
        obtain ⟨h1, h2, _⟩ := ready_mem.1 hi
        have := hall i (by omega)
        simp [Array.getD_eq_getD_getElem?, this] at h2
      refine ⟨hrd, ?_⟩
      have fin : ∀ q, q ≤ ops.size → (∀ j, q ≤ j → j < ops.size → memN j L = false → listed[j]? = some false) → St c (Γs q) g a w → Q .normal a w := by
        intro q hq h1 h2
        have : Γs ops.size = Γs q := skip q ops.size hq (Nat.le_refl _) (fun k h3 h4 => by
          cases hk : memN k L with
          | true => rfl
          | false => have h5 := h1 k h3 h4 hk; rw [hall k (by omega)] at h5; cases h5)
        exact hQ _ g a w e2 (by rw [this]; exact h2)
      rcases hs with ⟨h1, h2⟩ | ⟨q, h1, h2, h3, h4, h5⟩
      · refine fin m F.hm h1 ?_
        rw [text m (Nat.le_refl _)]
        have hm := F.hm
        refine h2.congr (fun t => ?_) (fun q => ?_)
        · refine (fD_text (j := m) (Nat.le_refl _) (fun k hk _ => ?_)).symm
          simp [dn, Array.getD_eq_getD_getElem?, hall k (by omega), hk]
        · dsimp only
          rw [fO_congr (D := dn listed) (E := E) fun k hk => by simp [dn, Array.getD_eq_getD_getElem?, hall k (by omega)]]
      · exact fin q h2 h4 h5
    | succ fuel ih =>
      intro listed g a w hsz hc hLl hcl hs
      refine ⟨fun hrd => ?_, fun i hi => ?_⟩
      · -- something is ready
        obtain ⟨i, h1, h2⟩ := cnt_pos (listed := listed) (by omega)
        have hi : i < ops.size := by rw [← hsz]; exact (Array.getElem?_eq_some_iff.1 h1).1
        have : i ∈ Region.ready .any ops listed := ready_mem.2 ⟨hi, by simp [Array.getD_eq_getD_getElem?, h1], fun o ho e he hb => by
          have := h2 e.on (F.edge i o ho e he hb)
          simp [Array.getD_eq_getD_getElem?, this]⟩
        rw [hrd] at this; cases this
      · obtain ⟨hi, hli, hpre⟩ := ready_mem.1 hi
        have hlf : listed[i]? = some false := by
          have : i < listed.size := by omega
          simp only [Array.getD_eq_getD_getElem?] at hli
          cases hb : listed[i]? with
          | none => rw [hb] at hli; cases hli
          | some b => rw [hb] at hli; simp at hli; rw [hli]
        have hlf' : listed.getD i false = false := by simp [Array.getD_eq_getD_getElem?, hlf]
        have hiL : memN i L = false := by
          cases hb : memN i L with
          | false => rfl
          | true => rw [hLl i hb] at hlf; cases hlf
        have hoi : ops[i]? = some ops[i] := by simp [hi]
        have hmask : ∀ k, (M.getD i 0).testBit k = true → listed.getD k false = true := by
          intro k hk
          obtain ⟨e, he, hb, h1⟩ := F.mask i _ k hoi hk
          have h2 := hpre _ hoi e he hb
          rcases h1 with rfl | h1
          · exact h2
          · refine hcl e.on k ?_ h1
            simp only [Array.getD_eq_getD_getElem?] at h2
            cases hb' : listed[e.on]? with
            | none => rw [hb'] at h2; cases h2
            | some b => rw [hb'] at h2; simp at h2; rw [h2]
        have hsz' : (listed.setIfInBounds i true).size = ops.size := by simp [hsz]
        have hc' : cnt (listed.setIfInBounds i true) = fuel := by have := cnt_set hlf; omega
        have hget : ∀ k, (listed.setIfInBounds i true)[k]? = if k = i then some true else listed[k]? := by
          intro k
          by_cases hk : k = i
          · subst hk; simp [hsz, hi]
          · rw [if_neg hk, Array.getElem?_setIfInBounds_ne (Ne.symm hk)]
        have hgetD : ∀ k, (listed.setIfInBounds i true).getD k false = if k = i then true else listed.getD k false := by
          intro k
          simp only [Array.getD_eq_getD_getElem?, hget]
          split <;> rfl
        have hLl' : ∀ k, memN k L = true → (listed.setIfInBounds i true)[k]? = some true := by
          intro k hk
          rw [hget]
          split
          · rfl
          · exact hLl k hk
        have hcl' : ∀ j k, (listed.setIfInBounds i true)[j]? = some true → (M.getD j 0).testBit k = true → (listed.setIfInBounds i true).getD k false = true := by
          intro j k hj hk
          rw [hgetD]
          split
          · rfl
          · rw [hget] at hj
            split at hj
            · rename_i e; rw [e] at hk; exact hmask k hk
            · exact hcl j k hj hk
        have toGet : ∀ k, listed.getD k false = true → listed[k]? = some true := by
          intro k hk
          simp only [Array.getD_eq_getD_getElem?] at hk
          cases hb' : listed[k]? with
          | none => rw [hb'] at hk; cases hk
          | some b => rw [hb'] at hk; simp at hk; rw [hk]
        -- which phase
        have phase2 : ∀ q, m ≤ q → q ≤ ops.size → (∀ j, j < q → listed[j]? = some true) → (∀ j, q ≤ j → j < ops.size → memN j L = false → listed[j]? = some false) → St c (Γs q) g a w → wpOp P ops Q i (fun a' w' => c.S w' ∧ wpAnyH P .any ops Q c.S fuel (listed.setIfInBounds i true) a' w') a w := by
          intro q h1 h2 h3 h4 h5
          have hge : q ≤ i := by
            rcases Nat.lt_or_ge i q with h6 | h6
            · rw [h3 i h6] at hlf; cases hlf
            · exact h6
          have hbet : ∀ k, q ≤ k → k < i → memN k L = true := by
            intro k hk1 hk2
            cases hk : memN k L with
            | true => rfl
            | false =>
              have h7 := hmask k (F.tail k i hk hiL hk2 (by omega) hi)
              have h8 := h4 k hk1 (by omega) hk
              simp [Array.getD_eq_getD_getElem?, h8] at h7
          have hsk := skip q i hge (by omega) hbet
          refine e3 i (by omega) hi hiL Q g a w _ (by rw [hsk]; exact h5) fun g' a' w' h6 => ⟨h6.s, ?_⟩
          refine ih _ g' a' w' hsz' hc' hLl' hcl' (.inr ⟨i + 1, by omega, by omega, fun j hj => ?_, fun j hj hj2 hjL => ?_, h6⟩)
          · rw [hget]
            split
            · rfl
            · rcases Nat.lt_or_ge j q with h7 | h7
              · exact h3 j h7
              · exact hLl j (hbet j h7 (by omega))
          · rw [hget, if_neg (by omega)]
            exact h4 j (by omega) hj2 hjL
        rcases hs with ⟨h1, h2⟩ | ⟨q, h1, h2, h3, h4, h5⟩
        · by_cases him : i < m
          · -- one of the first ones
            have dstOf : ∀ k (hk : k < m) (hkL : memN k L = false), ops[k]? = some (pk k hk hkL).o ∧ (pk k hk hkL).o.dst = some (tb k).1 := fun k hk hkL => ⟨(pk k hk hkL).ho, by rw [(pk k hk hkL).ht, htb k hk hkL]⟩
            have hlook : ∀ t, t ∈ (ops[i]).looksAt ops → get? (fD tb (dn listed) Γ.tmps m) t = get? (Γs i).tmps t := by
              intro t ht
              rw [text i (by omega)]
              refine fD_text (by omega) fun k hk hkt => ?_
              cases hkL : memN k L with
              | true => simp [dn, E, hkL]
              | false =>
                have hks : k < ops.size := by have := F.hm; omega
                have hok : ops[k]? = some ops[k] := by simp [hks]
                have hdk : (ops[k]).dst = some t := by
                  obtain ⟨h6, h7⟩ := dstOf k hk hkL
                  rw [Option.some.inj (hok.symm.trans h6), h7, hkt]
                have hE : E k = true := by simp [E, hkL]
                rcases Nat.lt_trichotomy k i with h6 | h6 | h6
                · have : listed.getD k false = true := by
                    rcases F.pre k i _ _ hkL hiL h6 him hok hoi with h7 | h7
                    · exact hmask k h7
                    · exact absurd ht ((Oper.apart_spec h7).1 t hdk)
                  simp only [dn, this, hE, h6, decide_true, Bool.and_self]
                · subst h6
                  simp only [dn, hlf', Bool.false_and, Nat.lt_irrefl, decide_false]
                · have : listed.getD k false = false := by
                    cases hb : listed.getD k false with
                    | false => rfl
                    | true =>
                      rcases F.pre i k _ _ hiL hkL h6 hk hoi hok with h7 | h7
                      · have h8 := hcl k i (toGet k hb) h7
                        rw [hlf'] at h8; cases h8
                      · exact absurd ht ((Oper.apart_spec h7).2.2 t hdk)
                  have h7 : decide (k < i) = false := by simp; omega
                  simp only [dn, this, Bool.false_and, h7]
            have hpo : (pk i him hiL).o = ops[i] := Option.some.inj ((pk i him hiL).ho.symm.trans hoi)
            have hanc : ∀ k (hk : k < m) (hkL : memN k L = false), k ≠ i → dn listed k = true → (M.getD k 0).testBit i = false := by
              intro k hk hkL hki hDk
              cases hb : (M.getD k 0).testBit i with
              | false => rfl
              | true =>
                simp only [dn, Bool.and_eq_true] at hDk
                have h8 := hcl k i (toGet k hDk.1) hb
                rw [hlf'] at h8; cases h8
            have dnL : ∀ k, dn listed k = true → memN k L = false := by
              intro k hDk
              simp only [dn, Bool.and_eq_true, E, Bool.not_eq_true'] at hDk
              exact hDk.2
            have hdni : dn listed i = false := by simp only [dn, hlf', Bool.false_and]
            have hki : ∀ k, dn listed k = true → k ≠ i := fun k hDk e => by rw [e, hdni] at hDk; cases hDk
            have hpk := pk i him hiL
            have hstep := add_step (P := P) (c := c) (ops := ops) (j := i) (Γ := ⟨(Γs i).tmps, (pk i him hiL).own1⟩) (Γ' := ⟨fD tb (dn listed) Γ.tmps m, fO no (dn listed) Γ.own m⟩) (N := no i) (pk i him hiL).ho (pk i him hiL).ht (pk i him hiL).hn
              (by rw [guardOf_congr (Γ := Γs i) (by rw [hpo]; exact hlook)]; exact (pk i him hiL).hG) (pk i him hiL).hA (pk i him hiL).hN (look_congr (Γ := ⟨(Γs i).tmps, (pk i him hiL).own1⟩) (by rw [hpo]; exact hlook))
              (fun q b hq => by
                dsimp only at hq ⊢
                rcases (pk i him hiL).hown q b hq with h8 | ⟨k, A', N', h8, h9, h10⟩
                · rw [fO_old fun k' hk' hDk' => ?_]
                  · exact h8
                  · cases hq' : get? (no k') q with
                    | none => rfl
                    | some b' => have := (newFree k' hk' (dnL k' hDk') q b' hq').2.2; rw [h8] at this; cases this
                · obtain ⟨hk, hkL, rfl⟩ := accOf k A' N' h8
                  have hDk : dn listed k = true := by
                    have h11 := hmask k h9
                    have h12 : E k = true := by simp [E, hkL]
                    simp only [dn, h11, h12, Bool.and_self]
                  exact fO_has hk hDk h10 fun k' hk' hDk' hne => newDisj k k' hk hkL hk' (dnL k' hDk') hne q b h10)
              (fun q b hq => by
                have hf := newFree i him hiL q b hq
                refine ⟨fun t A hA => ?_, fun p o hp => ?_, ?_⟩
                · have hgo : ∀ n, n ≤ m → get? (fD tb (dn listed) Γ.tmps n) t = some A → A.hasKey q = false := by
                    intro n
                    induction n with
                    | zero => intro _ h8; exact hf.1 t A h8
                    | succ n ihn =>
                      intro hnm h8
                      simp only [fD] at h8
                      split at h8
                      · rename_i hDn
                        rw [get?_set] at h8
                        split at h8
                        · cases h8
                          exact (newApart i n him hiL (by omega) (dnL n hDn) (hki n hDn) (hanc n (by omega) (dnL n hDn) (hki n hDn) hDn) q b hq).1
                        · exact ihn (by omega) h8
                      · exact ihn (by omega) h8
                  exact hgo m (Nat.le_refl _) hA
                · rcases fO_get hp with ⟨k, hk, hDk, h8⟩ | h8
                  · exact (newApart i k him hiL hk (dnL k hDk) (hki k hDk) (hanc k hk (dnL k hDk) (hki k hDk) hDk) q b hq).2.1 p o h8
                  · exact hf.2.1 p o h8
                · exact fO_none hf.2.2 fun k hk hDk => (newApart i k him hiL hk (dnL k hDk) (hki k hDk) (hanc k hk (dnL k hDk) (hki k hDk) hDk) q b hq).2.2)
            refine hstep Q g a w _ h2 fun g' a' w' h6 => ⟨h6.s, ?_⟩
            refine ih _ g' a' w' hsz' hc' hLl' hcl' (.inl ⟨fun j hj hj2 hjL => by rw [hget, if_neg (by omega)]; exact h1 j hj hj2 hjL, ?_⟩)
            have hdn' : dn (listed.setIfInBounds i true) i = true := by
              have : E i = true := by simp [E, hiL]
              simp only [dn, hgetD, if_true, this, Bool.and_self]
            refine h6.congr (fun t => ?_) (fun q => fO_add hdn' hdni (fun k hk => by simp only [dn, hgetD, if_neg hk]) q him fun k hk hki' hDk b hq => newDisj i k him hiL hk (dnL k hDk) hki' q b hq)
            have hEi : E i = true := by simp [E, hiL]
            have h7 := fD_add (tb := tb) (l0 := Γ.tmps) (j := i) (D := dn listed) (D' := dn (listed.setIfInBounds i true)) (by simp only [dn, hgetD, if_true, hEi, Bool.and_self]) (fun k hk => by simp only [dn, hgetD, if_neg hk]) (m := m) t him (by simp only [dn, hlf', Bool.false_and]) (fun k hk hki hkt hDk => by
              rcases Nat.lt_or_ge k i with h8 | h8
              · exact h8
              · have hik : i < k := by omega
                simp only [dn, Bool.and_eq_true] at hDk
                have hkL : memN k L = false := by
                  have := hDk.2
                  simp only [E, Bool.not_eq_true'] at this
                  exact this
                obtain ⟨hok, hd2⟩ := dstOf k hk hkL
                obtain ⟨hoi', hd1⟩ := dstOf i him hiL
                rcases F.pre i k _ _ hiL hkL hik hk hoi' hok with h9 | h9
                · have h10 := hcl k i (toGet k hDk.1) h9
                  rw [hlf'] at h10; cases h10
                · exact absurd (by rw [hd2, hkt]) ((Oper.apart_spec h9).2.1 _ hd1))
            rw [h7, get?_set, htb i him hiL, ← (pk i him hiL).hav]
          · -- the rest has begun
            have hall : ∀ j, j < m → listed[j]? = some true := by
              intro j hj
              cases hjL : memN j L with
              | true => exact hLl j hjL
              | false => exact toGet j (hmask j (F.tail j i hjL hiL (by omega) (by omega) hi))
            refine phase2 m (Nat.le_refl _) F.hm hall h1 ?_
            rw [text m (Nat.le_refl _)]
            refine h2.congr (fun t => ?_) (fun q => ?_)
            · refine (fD_text (j := m) (Nat.le_refl _) (fun k hk _ => ?_)).symm
              simp [dn, Array.getD_eq_getD_getElem?, hall k hk, hk]
            · dsimp only
              rw [fO_congr (D := dn listed) (E := E) fun k hk => by simp [dn, Array.getD_eq_getD_getElem?, hall k hk]]
        · exact phase2 q h1 h2 h3 h4 h5
  have hcn := cnt_listAll (L := L) (l := Array.replicate ops.size false) honce (by simp) (fun i hi => by simp [hLlt i hi])
  have hcr : cnt (Array.replicate ops.size false) = ops.size := by simp [cnt, List.filter_replicate]
  refine key (ops.size - L.length) (listAll L (Array.replicate ops.size false)) g a _ (by rw [listAll_size]; simp) (by omega) (fun k hk => by rw [listAll_get (by simpa using hLlt k hk), hk]; rfl) ?_ (.inl ⟨fun j _ hj hjL => by rw [listAll_get (by simpa using hj), hjL]; simp [hj], ?_⟩)
  · -- what is listed has all before it
    exact listAll_closed F hf
  · have hdn0 : ∀ n, n < ops.size → dn (listAll L (Array.replicate ops.size false)) n = false := by
      intro n hn
      simp only [dn, Array.getD_eq_getD_getElem?]
      rw [listAll_get (by simp; omega)]
      cases hL : memN n L with
      | true => simp [E, hL]
      | false => simp [show n < ops.size by omega]
    refine hst.congr (fun t => ?_) (fun q => fO_old fun k hk hDk => by rw [hdn0 k (by have := F.hm; omega)] at hDk; cases hDk)
    have : ∀ n, n ≤ ops.size → fD tb (dn (listAll L (Array.replicate ops.size false))) Γ.tmps n = Γ.tmps := by
      intro n
      induction n with
      | zero => intro _; rfl
      | succ n ih =>
        intro hn
        simp only [fD]
        rw [if_neg, ih (by omega)]
        simp only [dn, Array.getD_eq_getD_getElem?]
        rw [listAll_get (by simp; omega)]
        cases hL : memN n L with
        | true => simp [E, hL]
        | false => simp [show n < ops.size by omega]
    rw [this m F.hm]
/-- Those of L first; of the rest the first m in whatever order. -/
theorem W.drawNew {P : Program} {n : Nat} {Q : Exit → Sy → Prop} {Γ : Sy} {T : List (Nat × TE)} (hT : TOk P T) (F : List Nat) (hmx : P.follows .mixedOrders = true) (M L : List Nat) (m : Nat) {id : Nat} {ops : Array Oper}
    (hd : (drawOk ops M L m && floatOk ops L (Array.replicate ops.size false) && Region.noSelect ops && listOnce ops.size L) = true)
    (h : floatVC T n ops L Γ fun Γ1 => preVC P T F n (dstsOf ops) M L Γ1.own ops.toList 0 m Γ1 [] fun Γ2 acc l => match newOkA M Γ1 acc acc with
      | true => opsVC P T F n (dstsOf ops) L l m 0 Γ2 (Q .normal)
      | false => False) : W P n (.region id ops true) Γ Q := by
  simp only [Bool.and_eq_true] at hd
  obtain ⟨⟨⟨h1, h2⟩, h3⟩, h4⟩ := hd
  refine ⟨fun c g a w hn hst => ?_⟩
  obtain ⟨K, hK1, hK2⟩ := keepAll w (Oset Γ.own g)
  let c' : Cx := { c with K := K }
  have hst' : St c' Γ g a w := ⟨hst.defers, hst.size, hst.keep, hst.o0, hst.tmps, hK1, hst.hp⟩
  have hcK : ∀ b x, c.K b = some x → K b = some x := fun b x hb => hK2 b _ _ _ (hst.kept b x hb).1 (hst.kept b x hb).2
  have key : (Code.region id ops true).wp P (fun e a' w' => match e with | .normal => ∃ Γ' g', Q .normal Γ' ∧ St c Γ' g' a' w' | _ => False) a w := by
    subst hn
    exact region_new (c := c') hT hmx h1 h2 h3 h4 (K := Q .normal) h (fun _ _ _ h => h) hst' hK2
      fun Γ' g' a' w' h1 h2 => ⟨Γ', g', h1, ⟨h2.defers, h2.size, h2.keep, h2.o0, h2.tmps, fun b x hb => h2.kept b x (hcK b x hb), h2.hp⟩⟩
  refine wp_mono key fun e a' w' hq => ?_
  cases e with
  | normal => exact hq
  | _ => exact hq.elim
end Go.Vc

/- A valid river made of any numbers. No condition. -/
namespace Go.Proofs.Ytohfemfgnohhdaa
open Go Go.Vc
set_option linter.unusedVariables false
set_option linter.unusedSimpArgs false

def foldI (v n : Int) : Int := (v.tmod n + n).tmod n
theorem foldI_range {v n : Int} (hn : 0 < n) : 0 ≤ foldI v n ∧ foldI v n < n := by
  have h1 := Int.lt_tmod_of_pos v hn
  have h2 := Int.tmod_lt_of_pos v hn
  have h3 : 0 ≤ v.tmod n + n := by omega
  exact ⟨Int.tmod_nonneg n h3, Int.tmod_lt_of_pos _ hn⟩
theorem foldI_id {v n : Int} (h0 : 0 ≤ v) (hn : v < n) : foldI v n = v := by
  unfold foldI
  rw [Int.tmod_eq_of_lt h0 hn, Int.tmod_eq_emod_of_nonneg (by omega), Int.add_emod_right, Int.emod_eq_of_lt h0 hn]
theorem fold_at (v n : Int) (hn : 0 < n) (hn2 : n ≤ 1000000) : FnAt Try.prog false 25 [.lit (.int .i64 v), .lit (.int .i64 n)] (.lit (.int .i64 (foldI v n))) [] := by
  have h1 := Int.lt_tmod_of_pos v hn
  have h2 := Int.tmod_lt_of_pos v hn
  refine FnAt.of_body tys_ok Try.func25 (by rfl) rfl Try.ntmps25 (by rw [Try.results25]) (by simp) ?_
  
  repeat' (first
    | refine W.seq ?_
    | refine W.block ?_
    | (refine W.region tys_ok [] ?_; conv => whnf)
    | (refine W.drawAll tys_ok [] mixed rfl ?_; conv => whnf)
    | (refine W.ret ?_; conv => whnf)
    | (refine W.skip ?_; conv => whnf)
    | (refine W.exit ?_; conv => whnf)

    | (refine W.cond rfl (fun hb => ?_) (fun hb => ?_) <;> (try simp only [minL, maxL, pickB, getD_int, getD_sl, getD_bool, len_int, len_sl, len_bool, decide_eq_true_eq, decide_eq_false_iff_not, Bool.and_eq_true, Bool.or_eq_true, Bool.and_eq_false_iff, Bool.or_eq_false_iff, Bool.not_eq_true', Bool.not_eq_false', Int.toNat_natCast, Int.ofNat_lt, Int.ofNat_le, not_true_eq_false, not_false_eq_true, or_false, false_or, and_true, true_and, or_true, true_or, and_false, false_and] at hb) <;> (try (first | (cases hb; done) | exact absurd hb (by decide) | (exfalso; omega))))
    | ((with_reducible refine And.intro ?_ ?_); (focus ((repeat' (first | (with_reducible rfl) | (with_reducible refine And.intro ?_ ?_) | omega | rfl | exact Or.inl rfl | exact Or.inr rfl | (focus ((try simp only [minL, maxL, pickB, getD_int, getD_sl, getD_bool, len_int, len_sl, len_bool, decide_eq_true_eq, decide_eq_false_iff_not, Bool.and_eq_true, Bool.or_eq_true, Bool.and_eq_false_iff, Bool.or_eq_false_iff, Bool.not_eq_true', Bool.not_eq_false', Int.toNat_natCast, Int.ofNat_lt, Int.ofNat_le, not_true_eq_false, not_false_eq_true, or_false, false_or, and_true, true_and, or_true, true_or, and_false, false_and, InK, Path.imp, List.length_replicate, List.length_set, List.length_append, List.length_cons, List.length_nil] at *); omega)) | (refine app_le rfl ?_; omega))); done)); (conv => whnf))
    | ((with_reducible refine And.intro (Side.out ?_) ?_); rotate_left; (conv => whnf))
    | (refine Exists.intro _ (And.intro rfl (And.intro rfl (And.intro ?_ ?_))) <;> (conv => whnf) <;> repeat' (first
    | exact trivial
    | rfl
    | (refine And.intro (fun h => h) (Or.inl ?_))
    | (refine And.intro (fun _ => rfl) (Or.inl ?_))
    | (refine And.intro (fun h => Bool.noConfusion h) (Or.inl ?_))
    | (with_reducible refine And.intro (fun _ => rfl) ?_)
    | ((with_reducible refine And.intro ?_ ?_) <;> conv => whnf)
    | (refine congrArg (Value.int _) ?_)
    | (refine congrArg (SV.arr _) ?_)
    | (refine congrArg Value.bool ?_)
    | (exact fun h => Bool.noConfusion h)))); all_goals (try unfold Side)
  all_goals try (repeat' (first | (with_reducible rfl) | (with_reducible refine And.intro ?_ ?_) | omega | rfl | exact Or.inl rfl | exact Or.inr rfl | (focus ((try simp only [minL, maxL, pickB, getD_int, getD_sl, getD_bool, len_int, len_sl, len_bool, decide_eq_true_eq, decide_eq_false_iff_not, Bool.and_eq_true, Bool.or_eq_true, Bool.and_eq_false_iff, Bool.or_eq_false_iff, Bool.not_eq_true', Bool.not_eq_false', Int.toNat_natCast, Int.ofNat_lt, Int.ofNat_le, not_true_eq_false, not_false_eq_true, or_false, false_or, and_true, true_and, or_true, true_or, and_false, false_and, InK, Path.imp, List.length_replicate, List.length_set, List.length_append, List.length_cons, List.length_nil] at *); omega)) | (refine app_le rfl ?_; omega)))

/-- The least so far. -/
def runMin (last : Int) : List Int → List Int
  | [] => []
  | x :: r => min last (foldI x 1001) :: runMin (min last (foldI x 1001)) r
def lastMin (last : Int) : List Int → Int
  | [] => last
  | x :: r => lastMin (min last (foldI x 1001)) r
theorem runMin_len : ∀ {l : List Int} {a : Int}, (runMin a l).length = l.length
  | [], _ => rfl
  | x :: r, a => by simp [runMin, runMin_len (l := r)]
theorem runMin_snoc {x : Int} : ∀ {l : List Int} {a : Int}, runMin a (l ++ [x]) = runMin a l ++ [min (lastMin a l) (foldI x 1001)]
  | [], a => rfl
  | y :: r, a => by simp only [List.cons_append, runMin, lastMin, runMin_snoc (l := r)]
theorem lastMin_snoc {x : Int} : ∀ {l : List Int} {a : Int}, lastMin a (l ++ [x]) = min (lastMin a l) (foldI x 1001)
  | [], a => rfl
  | y :: r, a => by simp only [List.cons_append, lastMin, lastMin_snoc (l := r)]
theorem lastMin_range : ∀ {l : List Int} {a : Int}, 0 ≤ a → a ≤ 1000 → 0 ≤ lastMin a l ∧ lastMin a l ≤ 1000
  | [], a, h0, h1 => ⟨h0, h1⟩
  | x :: r, a, h0, h1 => by
    have := foldI_range (v := x) (n := 1001) (by omega)
    exact lastMin_range (l := r) (by omega) (by omega)
theorem runMin_ok : ∀ {l : List Int} {a : Int}, 0 ≤ a → a ≤ 1000 → (∀ j, j < (runMin a l).length → 0 ≤ (runMin a l).getD j 0 ∧ (runMin a l).getD j 0 ≤ a) ∧ ∀ j, j + 1 < (runMin a l).length → (runMin a l).getD (j + 1) 0 ≤ (runMin a l).getD j 0
  | [], a, _, _ => ⟨fun j hj => by simp [runMin] at hj, fun j hj => by simp [runMin] at hj⟩
  | x :: r, a, h0, h1 => by
    have hf := foldI_range (v := x) (n := 1001) (by omega)
    obtain ⟨h2, h3⟩ := runMin_ok (l := r) (a := min a (foldI x 1001)) (by omega) (by omega)
    refine ⟨fun j hj => ?_, fun j hj => ?_⟩
    · cases j with
      | zero => simp only [runMin, List.getD_cons_zero]; omega
      | succ j =>
        simp only [runMin, List.length_cons] at hj
        have := h2 j (by omega)
        simp only [runMin, List.getD_cons_succ]; omega
    · simp only [runMin, List.length_cons] at hj
      cases j with
      | zero =>
        have := h2 0 (by omega)
        simp only [runMin, List.getD_cons_succ, List.getD_cons_zero]; omega
      | succ j =>
        have := h3 j (by omega)
        simp only [runMin, List.getD_cons_succ]; exact this
def madeR (gs : List (List Int)) (i : Nat) : List Int := runMin 1000 ((gs.getD i []).take 20)
def madeG (gs : List (List Int)) (n : Nat) : List (List Int) := (List.range n).map (madeR gs)
def madeV (fl : List Int) (i : Nat) : Int := if i < fl.length then foldI (fl.getD i 0) 31 else 0
def madeF (fl : List Int) (n : Nat) : List Int := (List.range n).map (madeV fl)
theorem madeF_len {fl : List Int} {n : Nat} : (madeF fl n).length = n := by simp [madeF]
theorem madeG_len {gs : List (List Int)} {n : Nat} : (madeG gs n).length = n := by simp [madeG]
theorem madeF_get {fl : List Int} {n i : Nat} (h : i < n) : (madeF fl n).getD i 0 = madeV fl i := by
  rw [madeF, List.getD_eq_getElem?_getD, List.getElem?_map, List.getElem?_range h]; rfl
theorem madeG_get {gs : List (List Int)} {n i : Nat} (h : i < n) : (madeG gs n).getD i [] = madeR gs i := by
  rw [madeG, List.getD_eq_getElem?_getD, List.getElem?_map, List.getElem?_range h]; rfl
theorem madeV_range {fl : List Int} {i : Nat} : 0 ≤ madeV fl i ∧ madeV fl i ≤ 30 := by
  unfold madeV
  split
  · have := foldI_range (v := fl.getD i 0) (n := 31) (by omega); omega
  · omega
theorem made_ok {fl : List Int} {gs : List (List Int)} {n : Nat} (h1 : 1 ≤ n) (h8 : n ≤ 8) : riverOk (madeF fl n) (madeG gs n) = true := by
  have hw : within (madeF fl n) 30 = true := by
    unfold within
    rw [Bool.not_eq_true', List.any_eq_false]
    intro x hx
    obtain ⟨i, _, rfl⟩ := List.mem_map.1 hx
    have := madeV_range (fl := fl) (i := i)
    simp only [Bool.or_eq_true, decide_eq_true_eq]
    omega
  have hg : (madeG gs n).all gOk = true := by
    refine List.all_eq_true.2 fun l hl => ?_
    obtain ⟨i, _, rfl⟩ := List.mem_map.1 hl
    obtain ⟨h2, h3⟩ := runMin_ok (l := (gs.getD i []).take 20) (a := 1000) (by omega) (by omega)
    simp only [gOk, Bool.and_eq_true, decide_eq_true_eq]
    refine ⟨⟨?_, ?_⟩, ?_⟩
    · rw [madeR, runMin_len, List.length_take]; omega
    · unfold within
      rw [Bool.not_eq_true', List.any_eq_false]
      intro x hx
      obtain ⟨j, hj, rfl⟩ := List.getElem_of_mem hx
      have := h2 j hj
      have e : (madeR gs i)[j] = (runMin 1000 ((gs.getD i []).take 20)).getD j 0 := by
        show (madeR gs i)[j] = (madeR gs i).getD j 0
        rw [List.getD_eq_getElem?_getD, List.getElem?_eq_getElem hj]; rfl
      simp only [Bool.or_eq_true, decide_eq_true_eq]
      omega
    · exact desc_iff.2 h3
  simp only [riverOk, madeF_len, madeG_len, hw, hg, Bool.and_true, decide_true, Bool.and_eq_true, decide_eq_true_eq]
  exact ⟨h1, h8⟩
set_option maxHeartbeats 2000000 in
theorem made_at (fl : List Int) (gs : List (List Int)) (most : Nat) (h1 : 1 ≤ most) (h8 : most ≤ 8) :
    FnAt Try.prog false 33 [.agg [.arr (.int .i64) fl, .arr (.sl (.int .i64)) gs], .lit (.int .i64 most)] (.tup [.own 0, .own 1]) [(0, .row 3 (.int .i64) true (madeF fl (max 1 (min fl.length most)))), (1, .row 22 (.sl (.int .i64)) true (madeG gs (max 1 (min fl.length most))))] := by
  obtain ⟨n, hn⟩ : ∃ n : Nat, n = max 1 (min fl.length most) := ⟨_, rfl⟩
  have hn8 : n ≤ 8 := by omega
  rw [← hn]
  refine FnAt.of_body tys_ok Try.func33 (by rfl) rfl Try.ntmps33 (by rw [Try.results33]) (by simp) ?_
  
  repeat' (first
    | refine W.seq ?_
    | refine W.block ?_
    | (refine W.region tys_ok [] ?_; conv => whnf)
    | (refine W.drawAll tys_ok [] mixed rfl ?_; conv => whnf)
    | (refine W.ret ?_; conv => whnf)
    | (refine W.skip ?_; conv => whnf)
    | (refine W.exit ?_; conv => whnf)

    | (refine W.cond rfl (fun hb => ?_) (fun hb => ?_) <;> (try simp only [minL, maxL, pickB, getD_int, getD_sl, getD_bool, len_int, len_sl, len_bool, decide_eq_true_eq, decide_eq_false_iff_not, Bool.and_eq_true, Bool.or_eq_true, Bool.and_eq_false_iff, Bool.or_eq_false_iff, Bool.not_eq_true', Bool.not_eq_false', Int.toNat_natCast, Int.ofNat_lt, Int.ofNat_le, not_true_eq_false, not_false_eq_true, or_false, false_or, and_true, true_and, or_true, true_or, and_false, false_and] at hb) <;> (try (first | (cases hb; done) | exact absurd hb (by decide) | (exfalso; omega))))
    | ((with_reducible refine And.intro ?_ ?_); (focus ((repeat' (first | (with_reducible rfl) | (with_reducible refine And.intro ?_ ?_) | omega | rfl | exact Or.inl rfl | exact Or.inr rfl | (focus ((try simp only [minL, maxL, pickB, getD_int, getD_sl, getD_bool, len_int, len_sl, len_bool, decide_eq_true_eq, decide_eq_false_iff_not, Bool.and_eq_true, Bool.or_eq_true, Bool.and_eq_false_iff, Bool.or_eq_false_iff, Bool.not_eq_true', Bool.not_eq_false', Int.toNat_natCast, Int.ofNat_lt, Int.ofNat_le, not_true_eq_false, not_false_eq_true, or_false, false_or, and_true, true_and, or_true, true_or, and_false, false_and, InK, Path.imp, List.length_replicate, List.length_set, List.length_append, List.length_cons, List.length_nil] at *); omega)) | (refine app_le rfl ?_; omega))); done)); (conv => whnf))
    | ((with_reducible refine And.intro (Side.out ?_) ?_); rotate_left; (conv => whnf))
    | (refine Exists.intro _ (And.intro rfl (And.intro rfl (And.intro ?_ ?_))) <;> (conv => whnf) <;> repeat' (first
    | exact trivial
    | rfl
    | (refine And.intro (fun h => h) (Or.inl ?_))
    | (refine And.intro (fun _ => rfl) (Or.inl ?_))
    | (refine And.intro (fun h => Bool.noConfusion h) (Or.inl ?_))
    | (with_reducible refine And.intro (fun _ => rfl) ?_)
    | ((with_reducible refine And.intro ?_ ?_) <;> conv => whnf)
    | (refine congrArg (Value.int _) ?_)
    | (refine congrArg (SV.arr _) ?_)
    | (refine congrArg Value.bool ?_)
    | (exact fun h => Bool.noConfusion h)))); all_goals (try unfold Side)
  all_goals try (repeat' (first | (with_reducible rfl) | (with_reducible refine And.intro ?_ ?_) | omega | rfl | exact Or.inl rfl | exact Or.inr rfl | (focus ((try simp only [minL, maxL, pickB, getD_int, getD_sl, getD_bool, len_int, len_sl, len_bool, decide_eq_true_eq, decide_eq_false_iff_not, Bool.and_eq_true, Bool.or_eq_true, Bool.and_eq_false_iff, Bool.or_eq_false_iff, Bool.not_eq_true', Bool.not_eq_false', Int.toNat_natCast, Int.ofNat_lt, Int.ofNat_le, not_true_eq_false, not_false_eq_true, or_false, false_or, and_true, true_and, or_true, true_or, and_false, false_and, InK, Path.imp, List.length_replicate, List.length_set, List.length_append, List.length_cons, List.length_nil] at *); omega)) | (refine app_le rfl ?_; omega)))
  refine W.loop (fun i : Nat => ⟨[(2, .padr 3000 0), (6, .lit (.int .i64 n)), (7, .own 79000), (8, .own 83000), (9, .lit (.int .i64 i))],
      [(3000, .box [.st false (.arr (.int .i64) fl), .st false (.arr (.sl (.int .i64)) gs)]), (79000, .row 3 (.int .i64) true (madeF fl i)), (83000, .row 22 (.sl (.int .i64)) true (madeG gs i))]⟩)
    (fun i => i ≤ n) (fun i => n - i) 0 ?_ ?_
  · refine ⟨Nat.zero_le _, ?_⟩
    refine ⟨rfl, ?_, ?_⟩ <;> (conv => whnf) <;> repeat' (first
    | exact trivial
    | rfl
    | (refine And.intro (fun h => h) (Or.inl ?_))
    | (refine And.intro (fun _ => rfl) (Or.inl ?_))
    | (refine And.intro (fun h => Bool.noConfusion h) (Or.inl ?_))
    | (with_reducible refine And.intro (fun _ => rfl) ?_)
    | ((with_reducible refine And.intro ?_ ?_) <;> conv => whnf)
    | (refine congrArg (Value.int _) ?_)
    | (refine congrArg (SV.arr _) ?_)
    | (refine congrArg Value.bool ?_)
    | (exact fun h => Bool.noConfusion h))
    show max (1 : Int) (min (fl.length : Int) (most : Int)) = (n : Int)
    omega
  · intro i hi
    have hfl' : @List.length (Ty.int .i64).T (madeF fl i) = i := madeF_len
    have hgl' : @List.length (Ty.sl (.int .i64)).T (madeG gs i) = i := madeG_len
    have hfs : madeF fl (i + 1) = madeF fl i ++ [madeV fl i] := by simp [madeF, List.range_succ]
    have hgs : madeG gs (i + 1) = madeG gs i ++ [madeR gs i] := by simp [madeG, List.range_succ]
    by_cases hin : i < n
    · have hf := fold_at (fl.getD i 0) 31 (by omega) (by omega)
      obtain ⟨r, hr⟩ : ∃ r, r = (gs.getD i []).take 20 := ⟨_, rfl⟩
      have hrm : madeR gs i = runMin 1000 r := by rw [hr]; rfl
      have hrl : r.length = min 20 (gs.getD i []).length := by rw [hr, List.length_take]
      have hro : ¬ i < gs.length → (gs.getD i []).length = 0 := fun h => by rw [List.getD_eq_getElem?_getD, List.getElem?_eq_none (by omega)]; rfl
      repeat' (first
    | refine W.seq ?_
    | refine W.block ?_
    | (refine W.region tys_ok [] ?_; conv => whnf)
    | (refine W.drawAll tys_ok [] mixed rfl ?_; conv => whnf)
    | (refine W.ret ?_; conv => whnf)
    | (refine W.skip ?_; conv => whnf)
    | (refine W.exit ?_; conv => whnf)
    | (refine ⟨false, _, _, _, _, rfl, Path.imp_of (hf), rfl, rfl, rfl, ?_⟩; conv => whnf)

    | (refine W.cond rfl (fun hb => ?_) (fun hb => ?_) <;> (try simp only [minL, maxL, pickB, getD_int, getD_sl, getD_bool, len_int, len_sl, len_bool, decide_eq_true_eq, decide_eq_false_iff_not, Bool.and_eq_true, Bool.or_eq_true, Bool.and_eq_false_iff, Bool.or_eq_false_iff, Bool.not_eq_true', Bool.not_eq_false', Int.toNat_natCast, Int.ofNat_lt, Int.ofNat_le, not_true_eq_false, not_false_eq_true, or_false, false_or, and_true, true_and, or_true, true_or, and_false, false_and] at hb) <;> (try (first | (cases hb; done) | exact absurd hb (by decide) | (exfalso; omega))))
    | ((with_reducible refine And.intro ?_ ?_); (focus ((repeat' (first | (with_reducible rfl) | (with_reducible refine And.intro ?_ ?_) | omega | rfl | exact Or.inl rfl | exact Or.inr rfl | (focus ((try simp only [minL, maxL, pickB, getD_int, getD_sl, getD_bool, len_int, len_sl, len_bool, decide_eq_true_eq, decide_eq_false_iff_not, Bool.and_eq_true, Bool.or_eq_true, Bool.and_eq_false_iff, Bool.or_eq_false_iff, Bool.not_eq_true', Bool.not_eq_false', Int.toNat_natCast, Int.ofNat_lt, Int.ofNat_le, not_true_eq_false, not_false_eq_true, or_false, false_or, and_true, true_and, or_true, true_or, and_false, false_and, InK, Path.imp, List.length_replicate, List.length_set, List.length_append, List.length_cons, List.length_nil] at *); omega)) | (refine app_le rfl ?_; omega))); done)); (conv => whnf))
    | ((with_reducible refine And.intro (Side.out ?_) ?_); rotate_left; (conv => whnf))
    | (refine Exists.intro _ (And.intro rfl (And.intro rfl (And.intro ?_ ?_))) <;> (conv => whnf) <;> repeat' (first
    | exact trivial
    | rfl
    | (refine And.intro (fun h => h) (Or.inl ?_))
    | (refine And.intro (fun _ => rfl) (Or.inl ?_))
    | (refine And.intro (fun h => Bool.noConfusion h) (Or.inl ?_))
    | (with_reducible refine And.intro (fun _ => rfl) ?_)
    | ((with_reducible refine And.intro ?_ ?_) <;> conv => whnf)
    | (refine congrArg (Value.int _) ?_)
    | (refine congrArg (SV.arr _) ?_)
    | (refine congrArg Value.bool ?_)
    | (exact fun h => Bool.noConfusion h)))); all_goals (try unfold Side)
      all_goals try (repeat' (first | (with_reducible rfl) | (with_reducible refine And.intro ?_ ?_) | omega | rfl | exact Or.inl rfl | exact Or.inr rfl | (focus ((try simp only [minL, maxL, pickB, getD_int, getD_sl, getD_bool, len_int, len_sl, len_bool, decide_eq_true_eq, decide_eq_false_iff_not, Bool.and_eq_true, Bool.or_eq_true, Bool.and_eq_false_iff, Bool.or_eq_false_iff, Bool.not_eq_true', Bool.not_eq_false', Int.toNat_natCast, Int.ofNat_lt, Int.ofNat_le, not_true_eq_false, not_false_eq_true, or_false, false_or, and_true, true_and, or_true, true_or, and_false, false_and, InK, Path.imp, List.length_replicate, List.length_set, List.length_append, List.length_cons, List.length_nil] at *); omega)) | (refine app_le rfl ?_; omega)))
      iterate 2
        · rename_i hb
          refine W.loop (fun k : Nat => ⟨[(2, .padr 3000 0), (6, .lit (.int .i64 n)), (7, .own 79000), (8, .own 83000), (9, .lit (.int .i64 i)), (10, .lit (.int .i64 (madeV fl i))), (11, .own 75000), (12, .lit (.int .i64 (lastMin 1000 (r.take k)))), (13, .lit (.int .i64 k))],
              [(3000, .box [.st false (.arr (.int .i64) fl), .st false (.arr (.sl (.int .i64)) gs)]), (79000, .row 3 (.int .i64) true (madeF fl i)), (83000, .row 22 (.sl (.int .i64)) true (madeG gs i)), (75000, .row 3 (.int .i64) true (runMin 1000 (r.take k)))]⟩)
            (fun k => k ≤ r.length) (fun k => r.length - k) 0 ?_ ?_
          · refine ⟨Nat.zero_le _, ?_⟩
            refine ⟨rfl, ?_, ?_⟩ <;> (conv => whnf) <;> repeat' (first
    | exact trivial
    | rfl
    | (refine And.intro (fun h => h) (Or.inl ?_))
    | (refine And.intro (fun _ => rfl) (Or.inl ?_))
    | (refine And.intro (fun h => Bool.noConfusion h) (Or.inl ?_))
    | (with_reducible refine And.intro (fun _ => rfl) ?_)
    | ((with_reducible refine And.intro ?_ ?_) <;> conv => whnf)
    | (refine congrArg (Value.int _) ?_)
    | (refine congrArg (SV.arr _) ?_)
    | (refine congrArg Value.bool ?_)
    | (exact fun h => Bool.noConfusion h))
            simp only [madeV, hb, if_true, if_false]
          · intro k hk
            have hml : @List.length (Ty.int .i64).T (runMin 1000 (r.take k)) = k := by
              show (runMin 1000 (r.take k)).length = k
              rw [runMin_len, List.length_take]; omega
            have hlm := lastMin_range (l := r.take k) (a := 1000) (by omega) (by omega)
            by_cases hkr : k < r.length
            · have hig : i < gs.length := by
                by_cases h : i < gs.length
                · exact h
                · have := hro h; omega
              have hkg : k < (gs.getD i []).length := by omega
              have hf2 := fold_at ((gs.getD i []).getD k 0) 1001 (by omega) (by omega)
              have hrk : r.getD k 0 = (gs.getD i []).getD k 0 := by rw [hr, getD_take (by omega)]
              have hts : r.take (k + 1) = r.take k ++ [(gs.getD i []).getD k 0] := by rw [take_getD (d := 0) hkr, hrk]
              repeat' (first
    | refine W.seq ?_
    | refine W.block ?_
    | (refine W.region tys_ok [] ?_; conv => whnf)
    | (refine W.drawAll tys_ok [] mixed rfl ?_; conv => whnf)
    | (refine W.ret ?_; conv => whnf)
    | (refine W.skip ?_; conv => whnf)
    | (refine W.exit ?_; conv => whnf)
    | (refine ⟨false, _, _, _, _, rfl, Path.imp_of (hf2), rfl, rfl, rfl, ?_⟩; conv => whnf)

    | (refine W.cond rfl (fun hb => ?_) (fun hb => ?_) <;> (try simp only [minL, maxL, pickB, getD_int, getD_sl, getD_bool, len_int, len_sl, len_bool, decide_eq_true_eq, decide_eq_false_iff_not, Bool.and_eq_true, Bool.or_eq_true, Bool.and_eq_false_iff, Bool.or_eq_false_iff, Bool.not_eq_true', Bool.not_eq_false', Int.toNat_natCast, Int.ofNat_lt, Int.ofNat_le, not_true_eq_false, not_false_eq_true, or_false, false_or, and_true, true_and, or_true, true_or, and_false, false_and] at hb) <;> (try (first | (cases hb; done) | exact absurd hb (by decide) | (exfalso; omega))))
    | ((with_reducible refine And.intro ?_ ?_); (focus ((repeat' (first | (with_reducible rfl) | (with_reducible refine And.intro ?_ ?_) | omega | rfl | exact Or.inl rfl | exact Or.inr rfl | (focus ((try simp only [minL, maxL, pickB, getD_int, getD_sl, getD_bool, len_int, len_sl, len_bool, decide_eq_true_eq, decide_eq_false_iff_not, Bool.and_eq_true, Bool.or_eq_true, Bool.and_eq_false_iff, Bool.or_eq_false_iff, Bool.not_eq_true', Bool.not_eq_false', Int.toNat_natCast, Int.ofNat_lt, Int.ofNat_le, not_true_eq_false, not_false_eq_true, or_false, false_or, and_true, true_and, or_true, true_or, and_false, false_and, InK, Path.imp, List.length_replicate, List.length_set, List.length_append, List.length_cons, List.length_nil] at *); omega)) | (refine app_le rfl ?_; omega))); done)); (conv => whnf))
    | ((with_reducible refine And.intro (Side.out ?_) ?_); rotate_left; (conv => whnf))
    | (refine Exists.intro _ (And.intro rfl (And.intro rfl (And.intro ?_ ?_))) <;> (conv => whnf) <;> repeat' (first
    | exact trivial
    | rfl
    | (refine And.intro (fun h => h) (Or.inl ?_))
    | (refine And.intro (fun _ => rfl) (Or.inl ?_))
    | (refine And.intro (fun h => Bool.noConfusion h) (Or.inl ?_))
    | (with_reducible refine And.intro (fun _ => rfl) ?_)
    | ((with_reducible refine And.intro ?_ ?_) <;> conv => whnf)
    | (refine congrArg (Value.int _) ?_)
    | (refine congrArg (SV.arr _) ?_)
    | (refine congrArg Value.bool ?_)
    | (exact fun h => Bool.noConfusion h)))); all_goals (try unfold Side)
              all_goals try (repeat' (first | (with_reducible rfl) | (with_reducible refine And.intro ?_ ?_) | omega | rfl | exact Or.inl rfl | exact Or.inr rfl | (focus ((try simp only [minL, maxL, pickB, getD_int, getD_sl, getD_bool, len_int, len_sl, len_bool, decide_eq_true_eq, decide_eq_false_iff_not, Bool.and_eq_true, Bool.or_eq_true, Bool.and_eq_false_iff, Bool.or_eq_false_iff, Bool.not_eq_true', Bool.not_eq_false', Int.toNat_natCast, Int.ofNat_lt, Int.ofNat_le, not_true_eq_false, not_false_eq_true, or_false, false_or, and_true, true_and, or_true, true_or, and_false, false_and, InK, Path.imp, List.length_replicate, List.length_set, List.length_append, List.length_cons, List.length_nil] at *); omega)) | (refine app_le rfl ?_; omega)))
              refine ⟨k + 1, ⟨by omega, by omega⟩, ?_⟩
              rw [hts, lastMin_snoc, runMin_snoc]
              refine ⟨rfl, ?_, ?_⟩ <;> (conv => whnf) <;> repeat' (first
    | exact trivial
    | rfl
    | (refine And.intro (fun h => h) (Or.inl ?_))
    | (refine And.intro (fun _ => rfl) (Or.inl ?_))
    | (refine And.intro (fun h => Bool.noConfusion h) (Or.inl ?_))
    | (with_reducible refine And.intro (fun _ => rfl) ?_)
    | ((with_reducible refine And.intro ?_ ?_) <;> conv => whnf)
    | (refine congrArg (Value.int _) ?_)
    | (refine congrArg (SV.arr _) ?_)
    | (refine congrArg Value.bool ?_)
    | (exact fun h => Bool.noConfusion h))
            · have hke : k = r.length := by omega
              subst hke
              rw [List.take_length]
              repeat' (first
    | refine W.seq ?_
    | refine W.block ?_
    | (refine W.resub (x := Code.region 15 _ _) (Γ' := ⟨[(2, .padr 3000 0), (6, .lit (.int .i64 n)), (7, .own 79000), (8, .own 83000), (9, .lit (.int .i64 i)), (10, .lit (.int .i64 (madeV fl i))), (11, .st true (.arr (.int .i64) (madeR gs i)))], [(3000, .box [.st false (.arr (.int .i64) fl), .st false (.arr (.sl (.int .i64)) gs)]), (79000, .row 3 (.int .i64) true (madeF fl i)), (83000, .row 22 (.sl (.int .i64)) true (madeG gs i))]⟩) ?_ (W.region tys_ok [] ?_); rotate_left; (conv => whnf))
    | (refine W.region tys_ok [] ?_; conv => whnf)
    | (refine W.drawAll tys_ok [] mixed rfl ?_; conv => whnf)
    | (refine W.ret ?_; conv => whnf)
    | (refine W.skip ?_; conv => whnf)
    | (refine W.exit ?_; conv => whnf)

    | (refine W.cond rfl (fun hb => ?_) (fun hb => ?_) <;> (try simp only [minL, maxL, pickB, getD_int, getD_sl, getD_bool, len_int, len_sl, len_bool, decide_eq_true_eq, decide_eq_false_iff_not, Bool.and_eq_true, Bool.or_eq_true, Bool.and_eq_false_iff, Bool.or_eq_false_iff, Bool.not_eq_true', Bool.not_eq_false', Int.toNat_natCast, Int.ofNat_lt, Int.ofNat_le, not_true_eq_false, not_false_eq_true, or_false, false_or, and_true, true_and, or_true, true_or, and_false, false_and] at hb) <;> (try (first | (cases hb; done) | exact absurd hb (by decide) | (exfalso; omega))))
    | ((with_reducible refine And.intro ?_ ?_); (focus ((repeat' (first | (with_reducible rfl) | (with_reducible refine And.intro ?_ ?_) | omega | rfl | exact Or.inl rfl | exact Or.inr rfl | (focus ((try simp only [minL, maxL, pickB, getD_int, getD_sl, getD_bool, len_int, len_sl, len_bool, decide_eq_true_eq, decide_eq_false_iff_not, Bool.and_eq_true, Bool.or_eq_true, Bool.and_eq_false_iff, Bool.or_eq_false_iff, Bool.not_eq_true', Bool.not_eq_false', Int.toNat_natCast, Int.ofNat_lt, Int.ofNat_le, not_true_eq_false, not_false_eq_true, or_false, false_or, and_true, true_and, or_true, true_or, and_false, false_and, InK, Path.imp, List.length_replicate, List.length_set, List.length_append, List.length_cons, List.length_nil] at *); omega)) | (refine app_le rfl ?_; omega))); done)); (conv => whnf))
    | ((with_reducible refine And.intro (Side.out ?_) ?_); rotate_left; (conv => whnf))
    | (refine Exists.intro _ (And.intro rfl (And.intro rfl (And.intro ?_ ?_))) <;> (conv => whnf) <;> repeat' (first
    | exact trivial
    | rfl
    | (refine And.intro (fun h => h) (Or.inl ?_))
    | (refine And.intro (fun _ => rfl) (Or.inl ?_))
    | (refine And.intro (fun h => Bool.noConfusion h) (Or.inl ?_))
    | (with_reducible refine And.intro (fun _ => rfl) ?_)
    | ((with_reducible refine And.intro ?_ ?_) <;> conv => whnf)
    | (refine congrArg (Value.int _) ?_)
    | (refine congrArg (SV.arr _) ?_)
    | (refine congrArg Value.bool ?_)
    | (exact fun h => Bool.noConfusion h)))); all_goals (try unfold Side)
              all_goals try (repeat' (first | (with_reducible rfl) | (with_reducible refine And.intro ?_ ?_) | omega | rfl | exact Or.inl rfl | exact Or.inr rfl | (focus ((try simp only [minL, maxL, pickB, getD_int, getD_sl, getD_bool, len_int, len_sl, len_bool, decide_eq_true_eq, decide_eq_false_iff_not, Bool.and_eq_true, Bool.or_eq_true, Bool.and_eq_false_iff, Bool.or_eq_false_iff, Bool.not_eq_true', Bool.not_eq_false', Int.toNat_natCast, Int.ofNat_lt, Int.ofNat_le, not_true_eq_false, not_false_eq_true, or_false, false_or, and_true, true_and, or_true, true_or, and_false, false_and, InK, Path.imp, List.length_replicate, List.length_set, List.length_append, List.length_cons, List.length_nil] at *); omega)) | (refine app_le rfl ?_; omega)))
              · refine ⟨i + 1, ⟨by omega, by omega⟩, ?_⟩
                rw [hfs, hgs]
                refine ⟨rfl, ?_, ?_⟩ <;> (conv => whnf) <;> repeat' (first
    | exact trivial
    | rfl
    | (refine And.intro (fun h => h) (Or.inl ?_))
    | (refine And.intro (fun _ => rfl) (Or.inl ?_))
    | (refine And.intro (fun h => Bool.noConfusion h) (Or.inl ?_))
    | (with_reducible refine And.intro (fun _ => rfl) ?_)
    | ((with_reducible refine And.intro ?_ ?_) <;> conv => whnf)
    | (refine congrArg (Value.int _) ?_)
    | (refine congrArg (SV.arr _) ?_)
    | (refine congrArg Value.bool ?_)
    | (exact fun h => Bool.noConfusion h))
              · refine ⟨rfl, ?_, ?_⟩ <;> (conv => whnf) <;> repeat' (first
    | exact trivial
    | rfl
    | (refine And.intro (fun h => h) (Or.inl ?_))
    | (refine And.intro (fun _ => rfl) (Or.inl ?_))
    | (refine And.intro (fun h => Bool.noConfusion h) (Or.inl ?_))
    | (with_reducible refine And.intro (fun _ => rfl) ?_)
    | ((with_reducible refine And.intro ?_ ?_) <;> conv => whnf)
    | (refine congrArg (Value.int _) ?_)
    | (refine congrArg (SV.arr _) ?_)
    | (refine congrArg Value.bool ?_)
    | (exact fun h => Bool.noConfusion h))
                exact hrm.symm
    · have hie : i = n := by omega
      subst hie
      repeat' (first
    | refine W.seq ?_
    | refine W.block ?_
    | (refine W.region tys_ok [] ?_; conv => whnf)
    | (refine W.drawAll tys_ok [] mixed rfl ?_; conv => whnf)
    | (refine W.ret ?_; conv => whnf)
    | (refine W.skip ?_; conv => whnf)
    | (refine W.exit ?_; conv => whnf)

    | (refine W.cond rfl (fun hb => ?_) (fun hb => ?_) <;> (try simp only [minL, maxL, pickB, getD_int, getD_sl, getD_bool, len_int, len_sl, len_bool, decide_eq_true_eq, decide_eq_false_iff_not, Bool.and_eq_true, Bool.or_eq_true, Bool.and_eq_false_iff, Bool.or_eq_false_iff, Bool.not_eq_true', Bool.not_eq_false', Int.toNat_natCast, Int.ofNat_lt, Int.ofNat_le, not_true_eq_false, not_false_eq_true, or_false, false_or, and_true, true_and, or_true, true_or, and_false, false_and] at hb) <;> (try (first | (cases hb; done) | exact absurd hb (by decide) | (exfalso; omega))))
    | ((with_reducible refine And.intro ?_ ?_); (focus ((repeat' (first | (with_reducible rfl) | (with_reducible refine And.intro ?_ ?_) | omega | rfl | exact Or.inl rfl | exact Or.inr rfl | (focus ((try simp only [minL, maxL, pickB, getD_int, getD_sl, getD_bool, len_int, len_sl, len_bool, decide_eq_true_eq, decide_eq_false_iff_not, Bool.and_eq_true, Bool.or_eq_true, Bool.and_eq_false_iff, Bool.or_eq_false_iff, Bool.not_eq_true', Bool.not_eq_false', Int.toNat_natCast, Int.ofNat_lt, Int.ofNat_le, not_true_eq_false, not_false_eq_true, or_false, false_or, and_true, true_and, or_true, true_or, and_false, false_and, InK, Path.imp, List.length_replicate, List.length_set, List.length_append, List.length_cons, List.length_nil] at *); omega)) | (refine app_le rfl ?_; omega))); done)); (conv => whnf))
    | ((with_reducible refine And.intro (Side.out ?_) ?_); rotate_left; (conv => whnf))
    | (refine Exists.intro _ (And.intro rfl (And.intro rfl (And.intro ?_ ?_))) <;> (conv => whnf) <;> repeat' (first
    | exact trivial
    | rfl
    | (refine And.intro (fun h => h) (Or.inl ?_))
    | (refine And.intro (fun _ => rfl) (Or.inl ?_))
    | (refine And.intro (fun h => Bool.noConfusion h) (Or.inl ?_))
    | (with_reducible refine And.intro (fun _ => rfl) ?_)
    | ((with_reducible refine And.intro ?_ ?_) <;> conv => whnf)
    | (refine congrArg (Value.int _) ?_)
    | (refine congrArg (SV.arr _) ?_)
    | (refine congrArg Value.bool ?_)
    | (exact fun h => Bool.noConfusion h)))); all_goals (try unfold Side)
      all_goals try (repeat' (first | (with_reducible rfl) | (with_reducible refine And.intro ?_ ?_) | omega | rfl | exact Or.inl rfl | exact Or.inr rfl | (focus ((try simp only [minL, maxL, pickB, getD_int, getD_sl, getD_bool, len_int, len_sl, len_bool, decide_eq_true_eq, decide_eq_false_iff_not, Bool.and_eq_true, Bool.or_eq_true, Bool.and_eq_false_iff, Bool.or_eq_false_iff, Bool.not_eq_true', Bool.not_eq_false', Int.toNat_natCast, Int.ofNat_lt, Int.ofNat_le, not_true_eq_false, not_false_eq_true, or_false, false_or, and_true, true_and, or_true, true_or, and_false, false_and, InK, Path.imp, List.length_replicate, List.length_set, List.length_append, List.length_cons, List.length_nil] at *); omega)) | (refine app_le rfl ?_; omega)))
end Go.Proofs.Ytohfemfgnohhdaa
/- WaterBest: the law returns true. No condition. -/
namespace Go.Proofs.Ytohfemfgnohhdaa
open Go Go.Vc
set_option linter.unusedVariables false
set_option linter.unusedSimpArgs false

def clip : List (List Int) → List Int → List Int
  | g :: gs, u :: us => min u g.length :: clip gs us
  | _, us => us
theorem clip_len : ∀ {gs : List (List Int)} {us : List Int}, (clip gs us).length = us.length
  | g :: gs, u :: us => by simp [clip, clip_len (gs := gs) (us := us)]
  | [], us => by simp [clip]
  | _ :: _, [] => by simp [clip]
theorem clip_get : ∀ {gs : List (List Int)} {us : List Int} {i : Nat}, i < gs.length → i < us.length → (clip gs us).getD i 0 = min (us.getD i 0) ((gs.getD i []).length : Int)
  | g :: gs, u :: us, 0, _, _ => by simp [clip]
  | g :: gs, u :: us, i + 1, h, h' => by simpa [clip] using clip_get (gs := gs) (us := us) (i := i) (by simpa using h) (by simpa using h')
theorem clip_worth : ∀ {gs : List (List Int)} {us : List Int}, worthL gs (clip gs us) = worthL gs us
  | g :: gs, u :: us => by
    simp only [clip, worthL, clip_worth (gs := gs) (us := us)]
    by_cases h : u ≤ (g.length : Int)
    · rw [show min u (g.length : Int) = u from by omega]
    · rw [show min u (g.length : Int) = g.length from by omega, List.take_of_length_le (by omega : g.length ≤ u.toNat)]
      simp
  | [], us => by simp [clip]
  | _ :: _, [] => by simp [clip]
theorem poss_le : ∀ {fl us vs : List Int} {w v : Int}, w ≤ v → us.length = fl.length → vs.length = fl.length → (∀ i, i < fl.length → vs.getD i 0 ≤ us.getD i 0) → poss w fl us = true → poss v fl vs = true
  | [], [], [], w, v, _, _, _, _, _ => rfl
  | f :: fl, u :: us, x :: vs, w, v, hw, h1, h2, h3, hp => by
    simp only [poss, Bool.and_eq_true, Bool.not_eq_true', decide_eq_false_iff_not] at hp ⊢
    have h0 := h3 0 (by simp)
    simp only [List.getD_cons_zero] at h0
    refine ⟨by omega, poss_le (us := us) (w := w + f - u) (by omega) (by simpa using h1) (by simpa using h2) (fun i hi => ?_) hp.2⟩
    have := h3 (i + 1) (by simpa using hi)
    simpa using this
  | f :: fl, [], _, _, _, _, h, _, _, _ => by simp at h
  | f :: fl, _ :: _, [], _, _, _, _, h, _, _ => by simp at h
  | [], _ :: _, _, _, _, _, h, _, _, _ => by simp at h
  | [], [], _ :: _, _, _, _, _, h, _, _ => by simp at h
/-- No possible use is worth more. -/
theorem riv_upper {fl : List Int} {gs : List (List Int)} (h : Riv fl gs) {vs : List Int} (hl : vs.length = fl.length) (h0 : ∀ i, i < vs.length → 0 ≤ vs.getD i 0) (hp : poss 0 fl vs = true) : worthL gs vs ≤ val fl gs := by
  have hlen := h.len
  have e := fun i (hi : i < vs.length) => clip_get (gs := gs) (us := vs) (i := i) (by omega) hi
  have hb := (best_of h (vs := clip gs vs) (by rw [clip_len]; exact hl) (fun i hi => by
    rw [clip_len] at hi
    have := h0 i hi
    have := h.g.lens i (by omega)
    rw [e i hi]
    omega) (poss_le (Int.le_refl 0) hl (by rw [clip_len]; exact hl) (fun i hi => by
    rw [e i (by omega)]
    omega) hp)).1
  rwa [clip_worth] at hb
theorem badW_good {fl : List Int} {gs : List (List Int)} {us : List Int} (hok : riverOk fl gs = true) (hl : us.length = fl.length) (h0 : ∀ i, i < us.length → 0 ≤ us.getD i 0) (hp : poss 0 fl us = true) : badW fl gs us = 0 := by
  have hn : neg us = false := by
    cases hn : neg us with
    | false => rfl
    | true =>
      obtain ⟨i, h1, h2⟩ := neg_true hn
      have := h0 i h1
      omega
  simp only [badW, hok, hl, hn, hp, cond_true, decide_true, Bool.not_true, Bool.or_false, cond_false]
theorem made_ex (fl : List Int) (gs : List (List Int)) (most : Nat) (h1 : 1 ≤ most) (h8 : most ≤ 8) : ∃ (F : List Int) (G : List (List Int)), FnAt Try.prog false 33 [.agg [.arr (.int .i64) fl, .arr (.sl (.int .i64)) gs], .lit (.int .i64 most)] (.tup [.own 0, .own 1]) [(0, .row 3 (.int .i64) true F), (1, .row 22 (.sl (.int .i64)) true G)] ∧ riverOk F G = true ∧ F.length ≤ most ∧ F.length ≤ 1000 ∧ G.length ≤ 1000 ∧ ∀ i, i < G.length → (G.getD i []).length ≤ 1000 := by
  have hok := made_ok (fl := fl) (gs := gs) (n := max 1 (min fl.length most)) (by omega) (by omega)
  have h := (riverOk.riv hok)
  have h2 := h.g.len
  have h3 := h.len
  rw [madeF_len] at h3
  exact ⟨_, _, made_at fl gs most h1 h8, hok, by rw [madeF_len]; omega, by rw [madeF_len]; omega, by omega, fun i hi => by have := h.g.lens i hi; omega⟩
theorem Best_good {fl : List Int} {gs : List (List Int)} (hok : riverOk fl gs = true) (h1 : fl.length ≤ 1000) (h2 : gs.length ≤ 1000) (h3 : ∀ i, i < gs.length → (gs.getD i []).length ≤ 1000) :
    FnAt Try.prog false 16 [.arr (.int .i64) fl, .arr (.sl (.int .i64)) gs] (.tup [.own 0, .lit (.int .i64 (val fl gs)), .lit (.int .i64 0)]) [(0, .row 3 (.int .i64) true (bestL fl gs))] := by
  have h := Best_ok fl gs h1 h2 h3
  rw [hok] at h
  exact h
theorem pre_snoc {us : List Int} {v : Int} {m : Nat} : pre (us ++ [v]) m = if m < us.length then pre us m else us.sum + v := by
  unfold pre
  split
  · rw [List.take_append_of_le_length (by omega)]
  · rw [List.take_of_length_le (by simp; omega), List.sum_append]
    simp
theorem pre_all {us : List Int} {m : Nat} (h : us.length ≤ m + 1) : pre us m = us.sum := by
  unfold pre
  rw [List.take_of_length_le h]
theorem take_sum_pre {us : List Int} {m : Nat} : (us.take (m + 1)).sum = pre us m := rfl
/-- A use that is being chosen. -/
structure UseJ (F : List Int) (i : Nat) (us : List Int) (left : Int) : Prop where
  len : us.length = i
  eq : left = (F.take i).sum - us.sum
  l0 : 0 ≤ left
  l1 : left ≤ 30 * i
  u0 : ∀ j, j < i → 0 ≤ us.getD j 0
  pre : ∀ m, m < i → Go.Proofs.Ytohfemfgnohhdaa.pre us m ≤ Go.Proofs.Ytohfemfgnohhdaa.pre F m
theorem UseJ.step {F : List Int} {i : Nat} {us : List Int} {left v : Int} (h : UseJ F i us left) (hi : i < F.length) (hf : 0 ≤ F.getD i 0 ∧ F.getD i 0 ≤ 30) (h0 : 0 ≤ v) (hv : v ≤ left + F.getD i 0) : UseJ F (i + 1) (us ++ [v]) (left + F.getD i 0 - v) := by
  have h1 := h.len
  have h2 := h.eq
  have h3 := h.l1
  have hs := sum_take_succ hi
  refine ⟨by simp [h1], by rw [hs, List.sum_append]; simp; omega, by omega, by omega, fun j hj => ?_, fun m hm => ?_⟩
  · by_cases e : j < i
    · rw [List.getD_eq_getElem?_getD, List.getElem?_append_left (by omega), ← List.getD_eq_getElem?_getD]; exact h.u0 j e
    · rw [List.getD_eq_getElem?_getD, List.getElem?_append_right (by omega), show j - us.length = 0 from by omega]; exact h0
  · rw [pre_snoc]
    split
    · exact h.pre m (by omega)
    · have : m = i := by omega
      subst this
      show us.sum + v ≤ (F.take (m + 1)).sum
      omega
theorem UseJ.poss {F us : List Int} {left : Int} (h : UseJ F F.length us left) : poss 0 F us = true :=
  (poss_iff h.len).2 fun m hm => by rw [h.len] at hm; have := h.pre m hm; omega
set_option maxHeartbeats 2000000 in
theorem WaterBest_at (fl : List Int) (gs : List (List Int)) (y : List Int) : FnAt Try.prog false 8 [.agg [.arr (.int .i64) fl, .arr (.sl (.int .i64)) gs], .arr (.int .i64) y] (.lit (.bool true)) [] := by
  obtain ⟨F, G, hmade, hok, hm8, hl1, hl2, hl3⟩ := made_ex fl gs 8 (by omega) (by omega)
  have hR := riverOk.riv hok
  have hl := hR.len
  have hF30 := (riverOk.river hok).val
  have hB := Best_good hok hl1 hl2 hl3
  have hbl := hR.best_len
  have hbv := hR.best_val
  have hW := Worth_eq (badW_good hok hbl (fun i hi => (hbv i hi).1) hR.best_poss) (w := val F G) rfl hl1 hl2 hl3 (by omega)
  refine FnAt.of_body tys_ok Try.func8 (by rfl) rfl Try.ntmps8 (by rw [Try.results8]) (by simp) ?_
  
  repeat' (first
    | refine W.seq ?_
    | refine W.block ?_
    | (refine W.region tys_ok [] ?_; conv => whnf)
    | (refine W.drawAll tys_ok [] mixed rfl ?_; conv => whnf)
    | (refine W.ret ?_; conv => whnf)
    | (refine W.skip ?_; conv => whnf)
    | (refine W.exit ?_; conv => whnf)
    | (refine ⟨false, _, _, _, _, rfl, Path.imp_of (hmade), rfl, rfl, rfl, ?_⟩; conv => whnf)
    | (refine ⟨false, _, _, _, _, rfl, Path.imp_of (hB), rfl, rfl, rfl, ?_⟩; conv => whnf)
    | (refine ⟨false, _, _, _, _, rfl, Path.imp_of (hW), rfl, rfl, rfl, ?_⟩; conv => whnf)
    | (refine ⟨false, _, _, _, _, rfl, Path.imp_of (lives_at), rfl, rfl, rfl, ?_⟩; conv => whnf)

    | (refine W.cond rfl (fun hb => ?_) (fun hb => ?_) <;> (try simp only [minL, maxL, pickB, getD_int, getD_sl, getD_bool, len_int, len_sl, len_bool, decide_eq_true_eq, decide_eq_false_iff_not, Bool.and_eq_true, Bool.or_eq_true, Bool.and_eq_false_iff, Bool.or_eq_false_iff, Bool.not_eq_true', Bool.not_eq_false', Int.toNat_natCast, Int.ofNat_lt, Int.ofNat_le, not_true_eq_false, not_false_eq_true, or_false, false_or, and_true, true_and, or_true, true_or, and_false, false_and] at hb) <;> (try (first | (cases hb; done) | exact absurd hb (by decide) | (exfalso; omega))))
    | ((with_reducible refine And.intro ?_ ?_); (focus ((repeat' (first | (with_reducible rfl) | (with_reducible refine And.intro ?_ ?_) | omega | rfl | exact Or.inl rfl | exact Or.inr rfl | (focus ((try simp only [minL, maxL, pickB, getD_int, getD_sl, getD_bool, len_int, len_sl, len_bool, decide_eq_true_eq, decide_eq_false_iff_not, Bool.and_eq_true, Bool.or_eq_true, Bool.and_eq_false_iff, Bool.or_eq_false_iff, Bool.not_eq_true', Bool.not_eq_false', Int.toNat_natCast, Int.ofNat_lt, Int.ofNat_le, not_true_eq_false, not_false_eq_true, or_false, false_or, and_true, true_and, or_true, true_or, and_false, false_and, InK, Path.imp, List.length_replicate, List.length_set, List.length_append, List.length_cons, List.length_nil] at *); omega)) | (refine app_le rfl ?_; omega))); done)); (conv => whnf))
    | ((with_reducible refine And.intro (Side.out ?_) ?_); rotate_left; (conv => whnf))
    | (refine Exists.intro _ (And.intro rfl (And.intro rfl (And.intro ?_ ?_))) <;> (conv => whnf) <;> repeat' (first
    | exact trivial
    | rfl
    | (refine And.intro (fun h => h) (Or.inl ?_))
    | (refine And.intro (fun _ => rfl) (Or.inl ?_))
    | (refine And.intro (fun h => Bool.noConfusion h) (Or.inl ?_))
    | (with_reducible refine And.intro (fun _ => rfl) ?_)
    | ((with_reducible refine And.intro ?_ ?_) <;> conv => whnf)
    | (refine congrArg (Value.int _) ?_)
    | (refine congrArg (SV.arr _) ?_)
    | (refine congrArg Value.bool ?_)
    | (exact fun h => Bool.noConfusion h)))); all_goals (try unfold Side)
  all_goals try (repeat' (first | (with_reducible rfl) | (with_reducible refine And.intro ?_ ?_) | omega | rfl | exact Or.inl rfl | exact Or.inr rfl | (focus ((try simp only [minL, maxL, pickB, getD_int, getD_sl, getD_bool, len_int, len_sl, len_bool, decide_eq_true_eq, decide_eq_false_iff_not, Bool.and_eq_true, Bool.or_eq_true, Bool.and_eq_false_iff, Bool.or_eq_false_iff, Bool.not_eq_true', Bool.not_eq_false', Int.toNat_natCast, Int.ofNat_lt, Int.ofNat_le, not_true_eq_false, not_false_eq_true, or_false, false_or, and_true, true_and, or_true, true_or, and_false, false_and, InK, Path.imp, List.length_replicate, List.length_set, List.length_append, List.length_cons, List.length_nil] at *); omega)) | (refine app_le rfl ?_; omega)))
  have hbl' : @List.length (Ty.int .i64).T (bestL F G) = F.length := hbl
  refine W.loop (fun i : Nat => ⟨[(1, .st false (.arr (.int .i64) y)), (5, .own 15000), (6, .own 15001), (7, .own 19000), (8, .lit (.int .i64 (val F G))), (12, .lit (.int .i64 i))],
      [(15000, .row 3 (.int .i64) true F), (15001, .row 22 (.sl (.int .i64)) true G), (19000, .row 3 (.int .i64) true (bestL F G))]⟩)
    (fun i => i ≤ F.length) (fun i => F.length - i) 0 ?_ ?_
  · refine ⟨Nat.zero_le _, ?_⟩
    refine ⟨rfl, ?_, ?_⟩ <;> (conv => whnf) <;> repeat' (first
    | exact trivial
    | rfl
    | (refine And.intro (fun h => h) (Or.inl ?_))
    | (refine And.intro (fun _ => rfl) (Or.inl ?_))
    | (refine And.intro (fun h => Bool.noConfusion h) (Or.inl ?_))
    | (with_reducible refine And.intro (fun _ => rfl) ?_)
    | ((with_reducible refine And.intro ?_ ?_) <;> conv => whnf)
    | (refine congrArg (Value.int _) ?_)
    | (refine congrArg (SV.arr _) ?_)
    | (refine congrArg Value.bool ?_)
    | (exact fun h => Bool.noConfusion h))
  · intro i hi
    by_cases hil : i < F.length
    · have hv := hbv i (by omega)
      repeat' (first
    | refine W.seq ?_
    | refine W.block ?_
    | (refine W.region tys_ok [] ?_; conv => whnf)
    | (refine W.drawAll tys_ok [] mixed rfl ?_; conv => whnf)
    | (refine W.ret ?_; conv => whnf)
    | (refine W.skip ?_; conv => whnf)
    | (refine W.exit ?_; conv => whnf)

    | (refine W.cond rfl (fun hb => ?_) (fun hb => ?_) <;> (try simp only [minL, maxL, pickB, getD_int, getD_sl, getD_bool, len_int, len_sl, len_bool, decide_eq_true_eq, decide_eq_false_iff_not, Bool.and_eq_true, Bool.or_eq_true, Bool.and_eq_false_iff, Bool.or_eq_false_iff, Bool.not_eq_true', Bool.not_eq_false', Int.toNat_natCast, Int.ofNat_lt, Int.ofNat_le, not_true_eq_false, not_false_eq_true, or_false, false_or, and_true, true_and, or_true, true_or, and_false, false_and] at hb) <;> (try (first | (cases hb; done) | exact absurd hb (by decide) | (exfalso; omega))))
    | ((with_reducible refine And.intro ?_ ?_); (focus ((repeat' (first | (with_reducible rfl) | (with_reducible refine And.intro ?_ ?_) | omega | rfl | exact Or.inl rfl | exact Or.inr rfl | (focus ((try simp only [minL, maxL, pickB, getD_int, getD_sl, getD_bool, len_int, len_sl, len_bool, decide_eq_true_eq, decide_eq_false_iff_not, Bool.and_eq_true, Bool.or_eq_true, Bool.and_eq_false_iff, Bool.or_eq_false_iff, Bool.not_eq_true', Bool.not_eq_false', Int.toNat_natCast, Int.ofNat_lt, Int.ofNat_le, not_true_eq_false, not_false_eq_true, or_false, false_or, and_true, true_and, or_true, true_or, and_false, false_and, InK, Path.imp, List.length_replicate, List.length_set, List.length_append, List.length_cons, List.length_nil] at *); omega)) | (refine app_le rfl ?_; omega))); done)); (conv => whnf))
    | ((with_reducible refine And.intro (Side.out ?_) ?_); rotate_left; (conv => whnf))
    | (refine Exists.intro _ (And.intro rfl (And.intro rfl (And.intro ?_ ?_))) <;> (conv => whnf) <;> repeat' (first
    | exact trivial
    | rfl
    | (refine And.intro (fun h => h) (Or.inl ?_))
    | (refine And.intro (fun _ => rfl) (Or.inl ?_))
    | (refine And.intro (fun h => Bool.noConfusion h) (Or.inl ?_))
    | (with_reducible refine And.intro (fun _ => rfl) ?_)
    | ((with_reducible refine And.intro ?_ ?_) <;> conv => whnf)
    | (refine congrArg (Value.int _) ?_)
    | (refine congrArg (SV.arr _) ?_)
    | (refine congrArg Value.bool ?_)
    | (exact fun h => Bool.noConfusion h)))); all_goals (try unfold Side)
      all_goals try (repeat' (first | (with_reducible rfl) | (with_reducible refine And.intro ?_ ?_) | omega | rfl | exact Or.inl rfl | exact Or.inr rfl | (focus ((try simp only [minL, maxL, pickB, getD_int, getD_sl, getD_bool, len_int, len_sl, len_bool, decide_eq_true_eq, decide_eq_false_iff_not, Bool.and_eq_true, Bool.or_eq_true, Bool.and_eq_false_iff, Bool.or_eq_false_iff, Bool.not_eq_true', Bool.not_eq_false', Int.toNat_natCast, Int.ofNat_lt, Int.ofNat_le, not_true_eq_false, not_false_eq_true, or_false, false_or, and_true, true_and, or_true, true_or, and_false, false_and, InK, Path.imp, List.length_replicate, List.length_set, List.length_append, List.length_cons, List.length_nil] at *); omega)) | (refine app_le rfl ?_; omega)))
      refine ⟨i + 1, ⟨by omega, by omega⟩, ?_⟩
      refine ⟨rfl, ?_, ?_⟩ <;> (conv => whnf) <;> repeat' (first
    | exact trivial
    | rfl
    | (refine And.intro (fun h => h) (Or.inl ?_))
    | (refine And.intro (fun _ => rfl) (Or.inl ?_))
    | (refine And.intro (fun h => Bool.noConfusion h) (Or.inl ?_))
    | (with_reducible refine And.intro (fun _ => rfl) ?_)
    | ((with_reducible refine And.intro ?_ ?_) <;> conv => whnf)
    | (refine congrArg (Value.int _) ?_)
    | (refine congrArg (SV.arr _) ?_)
    | (refine congrArg Value.bool ?_)
    | (exact fun h => Bool.noConfusion h))
    · have hie : i = F.length := by omega
      subst hie
      repeat' (first
    | refine W.seq ?_
    | refine W.block ?_
    | (refine W.region tys_ok [] ?_; conv => whnf)
    | (refine W.drawAll tys_ok [] mixed rfl ?_; conv => whnf)
    | (refine W.ret ?_; conv => whnf)
    | (refine W.skip ?_; conv => whnf)
    | (refine W.exit ?_; conv => whnf)

    | (refine W.cond rfl (fun hb => ?_) (fun hb => ?_) <;> (try simp only [minL, maxL, pickB, getD_int, getD_sl, getD_bool, len_int, len_sl, len_bool, decide_eq_true_eq, decide_eq_false_iff_not, Bool.and_eq_true, Bool.or_eq_true, Bool.and_eq_false_iff, Bool.or_eq_false_iff, Bool.not_eq_true', Bool.not_eq_false', Int.toNat_natCast, Int.ofNat_lt, Int.ofNat_le, not_true_eq_false, not_false_eq_true, or_false, false_or, and_true, true_and, or_true, true_or, and_false, false_and] at hb) <;> (try (first | (cases hb; done) | exact absurd hb (by decide) | (exfalso; omega))))
    | ((with_reducible refine And.intro ?_ ?_); (focus ((repeat' (first | (with_reducible rfl) | (with_reducible refine And.intro ?_ ?_) | omega | rfl | exact Or.inl rfl | exact Or.inr rfl | (focus ((try simp only [minL, maxL, pickB, getD_int, getD_sl, getD_bool, len_int, len_sl, len_bool, decide_eq_true_eq, decide_eq_false_iff_not, Bool.and_eq_true, Bool.or_eq_true, Bool.and_eq_false_iff, Bool.or_eq_false_iff, Bool.not_eq_true', Bool.not_eq_false', Int.toNat_natCast, Int.ofNat_lt, Int.ofNat_le, not_true_eq_false, not_false_eq_true, or_false, false_or, and_true, true_and, or_true, true_or, and_false, false_and, InK, Path.imp, List.length_replicate, List.length_set, List.length_append, List.length_cons, List.length_nil] at *); omega)) | (refine app_le rfl ?_; omega))); done)); (conv => whnf))
    | ((with_reducible refine And.intro (Side.out ?_) ?_); rotate_left; (conv => whnf))
    | (refine Exists.intro _ (And.intro rfl (And.intro rfl (And.intro ?_ ?_))) <;> (conv => whnf) <;> repeat' (first
    | exact trivial
    | rfl
    | (refine And.intro (fun h => h) (Or.inl ?_))
    | (refine And.intro (fun _ => rfl) (Or.inl ?_))
    | (refine And.intro (fun h => Bool.noConfusion h) (Or.inl ?_))
    | (with_reducible refine And.intro (fun _ => rfl) ?_)
    | ((with_reducible refine And.intro ?_ ?_) <;> conv => whnf)
    | (refine congrArg (Value.int _) ?_)
    | (refine congrArg (SV.arr _) ?_)
    | (refine congrArg Value.bool ?_)
    | (exact fun h => Bool.noConfusion h)))); all_goals (try unfold Side)
      all_goals try (repeat' (first | (with_reducible rfl) | (with_reducible refine And.intro ?_ ?_) | omega | rfl | exact Or.inl rfl | exact Or.inr rfl | (focus ((try simp only [minL, maxL, pickB, getD_int, getD_sl, getD_bool, len_int, len_sl, len_bool, decide_eq_true_eq, decide_eq_false_iff_not, Bool.and_eq_true, Bool.or_eq_true, Bool.and_eq_false_iff, Bool.or_eq_false_iff, Bool.not_eq_true', Bool.not_eq_false', Int.toNat_natCast, Int.ofNat_lt, Int.ofNat_le, not_true_eq_false, not_false_eq_true, or_false, false_or, and_true, true_and, or_true, true_or, and_false, false_and, InK, Path.imp, List.length_replicate, List.length_set, List.length_append, List.length_cons, List.length_nil] at *); omega)) | (refine app_le rfl ?_; omega)))
      refine W.loop (fun x : Nat × List Int × Int => ⟨[(1, .st false (.arr (.int .i64) y)), (5, .own 15000), (6, .own 15001), (8, .lit (.int .i64 (val F G))), (13, .own 70000), (14, .lit (.int .i64 x.2.2)), (15, .lit (.int .i64 x.1))],
          [(15000, .row 3 (.int .i64) true F), (15001, .row 22 (.sl (.int .i64)) true G), (70000, .row 3 (.int .i64) true x.2.1)]⟩)
        (fun x => x.1 ≤ F.length ∧ UseJ F x.1 x.2.1 x.2.2) (fun x => F.length - x.1) (0, [], 0) ?_ ?_
      · refine ⟨⟨Nat.zero_le _, ⟨rfl, rfl, Int.le_refl _, Int.le_refl _, fun j hj => by omega, fun j hj => by omega⟩⟩, ?_⟩
        refine ⟨rfl, ?_, ?_⟩ <;> (conv => whnf) <;> repeat' (first
    | exact trivial
    | rfl
    | (refine And.intro (fun h => h) (Or.inl ?_))
    | (refine And.intro (fun _ => rfl) (Or.inl ?_))
    | (refine And.intro (fun h => Bool.noConfusion h) (Or.inl ?_))
    | (with_reducible refine And.intro (fun _ => rfl) ?_)
    | ((with_reducible refine And.intro ?_ ?_) <;> conv => whnf)
    | (refine congrArg (Value.int _) ?_)
    | (refine congrArg (SV.arr _) ?_)
    | (refine congrArg Value.bool ?_)
    | (exact fun h => Bool.noConfusion h))
      · rintro ⟨i, us, left⟩ ⟨hi, hJ⟩
        dsimp only at hi hJ ⊢
        have hul : @List.length (Ty.int .i64).T us = i := hJ.len
        have hl0 := hJ.l0
        have hlj := hJ.l1
        by_cases hil : i < F.length
        · have hv := hF30 i hil
          have hf := fold_at (y.getD i 0) (left + F.getD i 0 + 1) (by omega) (by omega)
          have hfr := foldI_range (v := y.getD i 0) (n := left + F.getD i 0 + 1) (by omega)
          repeat' (first
    | refine W.seq ?_
    | refine W.block ?_
    | (refine W.region tys_ok [] ?_; conv => whnf)
    | (refine W.drawAll tys_ok [] mixed rfl ?_; conv => whnf)
    | (refine W.ret ?_; conv => whnf)
    | (refine W.skip ?_; conv => whnf)
    | (refine W.exit ?_; conv => whnf)
    | (refine ⟨false, _, _, _, _, rfl, Path.imp_of (hf), rfl, rfl, rfl, ?_⟩; conv => whnf)

    | (refine W.cond rfl (fun hb => ?_) (fun hb => ?_) <;> (try simp only [minL, maxL, pickB, getD_int, getD_sl, getD_bool, len_int, len_sl, len_bool, decide_eq_true_eq, decide_eq_false_iff_not, Bool.and_eq_true, Bool.or_eq_true, Bool.and_eq_false_iff, Bool.or_eq_false_iff, Bool.not_eq_true', Bool.not_eq_false', Int.toNat_natCast, Int.ofNat_lt, Int.ofNat_le, not_true_eq_false, not_false_eq_true, or_false, false_or, and_true, true_and, or_true, true_or, and_false, false_and] at hb) <;> (try (first | (cases hb; done) | exact absurd hb (by decide) | (exfalso; omega))))
    | ((with_reducible refine And.intro ?_ ?_); (focus ((repeat' (first | (with_reducible rfl) | (with_reducible refine And.intro ?_ ?_) | omega | rfl | exact Or.inl rfl | exact Or.inr rfl | (focus ((try simp only [minL, maxL, pickB, getD_int, getD_sl, getD_bool, len_int, len_sl, len_bool, decide_eq_true_eq, decide_eq_false_iff_not, Bool.and_eq_true, Bool.or_eq_true, Bool.and_eq_false_iff, Bool.or_eq_false_iff, Bool.not_eq_true', Bool.not_eq_false', Int.toNat_natCast, Int.ofNat_lt, Int.ofNat_le, not_true_eq_false, not_false_eq_true, or_false, false_or, and_true, true_and, or_true, true_or, and_false, false_and, InK, Path.imp, List.length_replicate, List.length_set, List.length_append, List.length_cons, List.length_nil] at *); omega)) | (refine app_le rfl ?_; omega))); done)); (conv => whnf))
    | ((with_reducible refine And.intro (Side.out ?_) ?_); rotate_left; (conv => whnf))
    | (refine Exists.intro _ (And.intro rfl (And.intro rfl (And.intro ?_ ?_))) <;> (conv => whnf) <;> repeat' (first
    | exact trivial
    | rfl
    | (refine And.intro (fun h => h) (Or.inl ?_))
    | (refine And.intro (fun _ => rfl) (Or.inl ?_))
    | (refine And.intro (fun h => Bool.noConfusion h) (Or.inl ?_))
    | (with_reducible refine And.intro (fun _ => rfl) ?_)
    | ((with_reducible refine And.intro ?_ ?_) <;> conv => whnf)
    | (refine congrArg (Value.int _) ?_)
    | (refine congrArg (SV.arr _) ?_)
    | (refine congrArg Value.bool ?_)
    | (exact fun h => Bool.noConfusion h)))); all_goals (try unfold Side)
          all_goals try (repeat' (first | (with_reducible rfl) | (with_reducible refine And.intro ?_ ?_) | omega | rfl | exact Or.inl rfl | exact Or.inr rfl | (focus ((try simp only [minL, maxL, pickB, getD_int, getD_sl, getD_bool, len_int, len_sl, len_bool, decide_eq_true_eq, decide_eq_false_iff_not, Bool.and_eq_true, Bool.or_eq_true, Bool.and_eq_false_iff, Bool.or_eq_false_iff, Bool.not_eq_true', Bool.not_eq_false', Int.toNat_natCast, Int.ofNat_lt, Int.ofNat_le, not_true_eq_false, not_false_eq_true, or_false, false_or, and_true, true_and, or_true, true_or, and_false, false_and, InK, Path.imp, List.length_replicate, List.length_set, List.length_append, List.length_cons, List.length_nil] at *); omega)) | (refine app_le rfl ?_; omega)))
          · refine ⟨(i + 1, us ++ [foldI (y.getD i 0) (left + F.getD i 0 + 1)], left + F.getD i 0 - foldI (y.getD i 0) (left + F.getD i 0 + 1)), ⟨⟨?_, hJ.step hil hv (by omega) (by omega)⟩, ?_⟩, ?_⟩
            · exact hil
            · dsimp only; omega
            · refine ⟨rfl, ?_, ?_⟩ <;> (conv => whnf) <;> repeat' (first
    | exact trivial
    | rfl
    | (refine And.intro (fun h => h) (Or.inl ?_))
    | (refine And.intro (fun _ => rfl) (Or.inl ?_))
    | (refine And.intro (fun h => Bool.noConfusion h) (Or.inl ?_))
    | (with_reducible refine And.intro (fun _ => rfl) ?_)
    | ((with_reducible refine And.intro ?_ ?_) <;> conv => whnf)
    | (refine congrArg (Value.int _) ?_)
    | (refine congrArg (SV.arr _) ?_)
    | (refine congrArg Value.bool ?_)
    | (exact fun h => Bool.noConfusion h))
          · refine ⟨(i + 1, us ++ [0], left + F.getD i 0 - 0), ⟨⟨?_, hJ.step hil hv (by omega) (by omega)⟩, ?_⟩, ?_⟩
            · exact hil
            · dsimp only; omega
            · refine ⟨rfl, ?_, ?_⟩ <;> (conv => whnf) <;> repeat' (first
    | exact trivial
    | rfl
    | (refine And.intro (fun h => h) (Or.inl ?_))
    | (refine And.intro (fun _ => rfl) (Or.inl ?_))
    | (refine And.intro (fun h => Bool.noConfusion h) (Or.inl ?_))
    | (with_reducible refine And.intro (fun _ => rfl) ?_)
    | ((with_reducible refine And.intro ?_ ?_) <;> conv => whnf)
    | (refine congrArg (Value.int _) ?_)
    | (refine congrArg (SV.arr _) ?_)
    | (refine congrArg Value.bool ?_)
    | (exact fun h => Bool.noConfusion h))
        · have hie : i = F.length := by omega
          subst hie
          have hup := riv_upper hR hJ.len (fun i hi => hJ.u0 i (by rw [hJ.len] at hi; exact hi)) hJ.poss
          have hW2 := Worth_eq (badW_good hok hJ.len (fun i hi => hJ.u0 i (by rw [hJ.len] at hi; exact hi)) hJ.poss) (w := worthL G us) rfl hl1 hl2 hl3 (by rw [hJ.len]; omega)
          repeat' (first
    | refine W.seq ?_
    | refine W.block ?_
    | (refine W.region tys_ok [] ?_; conv => whnf)
    | (refine W.drawAll tys_ok [] mixed rfl ?_; conv => whnf)
    | (refine W.ret ?_; conv => whnf)
    | (refine W.skip ?_; conv => whnf)
    | (refine W.exit ?_; conv => whnf)
    | (refine ⟨false, _, _, _, _, rfl, Path.imp_of (hW2), rfl, rfl, rfl, ?_⟩; conv => whnf)

    | (refine W.cond rfl (fun hb => ?_) (fun hb => ?_) <;> (try simp only [minL, maxL, pickB, getD_int, getD_sl, getD_bool, len_int, len_sl, len_bool, decide_eq_true_eq, decide_eq_false_iff_not, Bool.and_eq_true, Bool.or_eq_true, Bool.and_eq_false_iff, Bool.or_eq_false_iff, Bool.not_eq_true', Bool.not_eq_false', Int.toNat_natCast, Int.ofNat_lt, Int.ofNat_le, not_true_eq_false, not_false_eq_true, or_false, false_or, and_true, true_and, or_true, true_or, and_false, false_and] at hb) <;> (try (first | (cases hb; done) | exact absurd hb (by decide) | (exfalso; omega))))
    | ((with_reducible refine And.intro ?_ ?_); (focus ((repeat' (first | (with_reducible rfl) | (with_reducible refine And.intro ?_ ?_) | omega | rfl | exact Or.inl rfl | exact Or.inr rfl | (focus ((try simp only [minL, maxL, pickB, getD_int, getD_sl, getD_bool, len_int, len_sl, len_bool, decide_eq_true_eq, decide_eq_false_iff_not, Bool.and_eq_true, Bool.or_eq_true, Bool.and_eq_false_iff, Bool.or_eq_false_iff, Bool.not_eq_true', Bool.not_eq_false', Int.toNat_natCast, Int.ofNat_lt, Int.ofNat_le, not_true_eq_false, not_false_eq_true, or_false, false_or, and_true, true_and, or_true, true_or, and_false, false_and, InK, Path.imp, List.length_replicate, List.length_set, List.length_append, List.length_cons, List.length_nil] at *); omega)) | (refine app_le rfl ?_; omega))); done)); (conv => whnf))
    | ((with_reducible refine And.intro (Side.out ?_) ?_); rotate_left; (conv => whnf))
    | (refine Exists.intro _ (And.intro rfl (And.intro rfl (And.intro ?_ ?_))) <;> (conv => whnf) <;> repeat' (first
    | exact trivial
    | rfl
    | (refine And.intro (fun h => h) (Or.inl ?_))
    | (refine And.intro (fun _ => rfl) (Or.inl ?_))
    | (refine And.intro (fun h => Bool.noConfusion h) (Or.inl ?_))
    | (with_reducible refine And.intro (fun _ => rfl) ?_)
    | ((with_reducible refine And.intro ?_ ?_) <;> conv => whnf)
    | (refine congrArg (Value.int _) ?_)
    | (refine congrArg (SV.arr _) ?_)
    | (refine congrArg Value.bool ?_)
    | (exact fun h => Bool.noConfusion h)))); all_goals (try unfold Side)
          all_goals try (repeat' (first | (with_reducible rfl) | (with_reducible refine And.intro ?_ ?_) | omega | rfl | exact Or.inl rfl | exact Or.inr rfl | (focus ((try simp only [minL, maxL, pickB, getD_int, getD_sl, getD_bool, len_int, len_sl, len_bool, decide_eq_true_eq, decide_eq_false_iff_not, Bool.and_eq_true, Bool.or_eq_true, Bool.and_eq_false_iff, Bool.or_eq_false_iff, Bool.not_eq_true', Bool.not_eq_false', Int.toNat_natCast, Int.ofNat_lt, Int.ofNat_le, not_true_eq_false, not_false_eq_true, or_false, false_or, and_true, true_and, or_true, true_or, and_false, false_and, InK, Path.imp, List.length_replicate, List.length_set, List.length_append, List.length_cons, List.length_nil] at *); omega)) | (refine app_le rfl ?_; omega)))
end Go.Proofs.Ytohfemfgnohhdaa
/- Prices and marginal gains: the mathematics; WaterMarginal. No condition. -/
namespace Go.Proofs.Ytohfemfgnohhdaa
open Go Go.Vc
set_option linter.unusedVariables false
set_option linter.unusedSimpArgs false

theorem pre_step (us : List Int) (m : Nat) : pre us (m + 1) = pre us m + us.getD (m + 1) 0 := by
  unfold pre
  exact sum_take_inc us (m + 1)
/-- The last place at which v has more. -/
theorem last_more {us vs : List Int} : ∀ {j : Nat}, pre us j < pre vs j → ∃ k, k ≤ j ∧ us.getD k 0 < vs.getD k 0 ∧ ∀ l, k ≤ l → l ≤ j → pre vs j - pre us j ≤ pre vs l - pre us l
  | 0, h => by
    refine ⟨0, Nat.le_refl _, ?_, fun l h1 h2 => ?_⟩
    · unfold pre at h
      have e : ∀ xs : List Int, (xs.take (0 + 1)).sum = xs.getD 0 0 := fun xs => by rw [sum_take_inc]; simp
      rw [e, e] at h
      exact h
    · have : l = 0 := by omega
      subst this; omega
  | j + 1, h => by
    have h1 := pre_step us j
    have h2 := pre_step vs j
    by_cases hj : us.getD (j + 1) 0 < vs.getD (j + 1) 0
    · refine ⟨j + 1, Nat.le_refl _, hj, fun l h1 h2 => ?_⟩
      have : l = j + 1 := by omega
      subst this; omega
    · obtain ⟨k, h3, h4, h5⟩ := last_more (us := us) (vs := vs) (j := j) (by omega)
      refine ⟨k, by omega, h4, fun l h6 h7 => ?_⟩
      by_cases e : l = j + 1
      · subst e; omega
      · have := h5 l h6 (by omega); omega
theorem worth_dec {gs : List (List Int)} {us : List Int} {j : Nat} (hl : us.length = gs.length) (hj : j < us.length) (h : 1 ≤ us.getD j 0) :
    worthL gs us = worthL gs (us.set j (us.getD j 0 - 1)) + gk gs j (us.getD j 0 - 1) := by
  have h1 := worth_set (gs := gs) (us := us.set j (us.getD j 0 - 1)) (i := j) (by simpa using hl) (by simpa using hj) (by rw [set_getD hj, if_pos rfl]; omega)
  rw [set_set_back hj, set_getD hj, if_pos rfl] at h1
  exact h1
/-- The least number at which something holds. -/
theorem least_nat (p : Nat → Prop) : ∀ n, p n → ∃ m, m ≤ n ∧ p m ∧ ∀ k, k < m → ¬ p k := by
  intro n
  induction n using Nat.strongRecOn with
  | _ n ih =>
    intro hn
    by_cases h : ∃ k, k < n ∧ p k
    · obtain ⟨k, h1, h2⟩ := h
      obtain ⟨m, h3, h4, h5⟩ := ih k h1 h2
      exact ⟨m, by omega, h4, h5⟩
    · exact ⟨n, Nat.le_refl _, hn, fun k hk hp => h ⟨k, hk, hp⟩⟩
section
variable {fl : List Int} {gs : List (List Int)} (h : Riv fl gs) (hs : ∀ i, i < fl.length → fl.getD i 0 ≤ 30)
include h hs
theorem price_nonneg (i : Nat) (hi : i < fl.length) : val fl gs ≤ val (fl.set i (fl.getD i 0 + 1)) gs := by
  have hm := h.more hs i
  have hb := h.best_len
  refine riv_upper hm (vs := bestL fl gs) (by rw [List.length_set]; exact hb) (fun j hj => (h.best_val j hj).1) ?_
  refine (poss_iff (by rw [List.length_set]; exact hb)).2 fun m hmm => ?_
  have := (poss_iff hb).1 h.best_poss m hmm
  rw [pre_set hi]
  split <;> omega
theorem price_falls (i : Nat) (hi : i + 1 < fl.length) : val (fl.set (i + 1) (fl.getD (i + 1) 0 + 1)) gs ≤ val (fl.set i (fl.getD i 0 + 1)) gs := by
  have hm := h.more hs i
  have hm1 := h.more hs (i + 1)
  have hb := hm1.best_len
  rw [List.length_set] at hb
  refine riv_upper hm (vs := bestL _ gs) (by rw [List.length_set]; exact hb) (fun j hj => (hm1.best_val j hj).1) ?_
  refine (poss_iff (by rw [List.length_set]; exact hb)).2 fun m hmm => ?_
  have := (poss_iff (by rw [List.length_set]; exact hb)).1 hm1.best_poss m hmm
  rw [pre_set (by omega)] at this ⊢
  split at this <;> split <;> omega
theorem price_ge (i : Nat) (hi : i < fl.length) : gk gs i ((bestL fl gs).getD i 0) ≤ val (fl.set i (fl.getD i 0 + 1)) gs - val fl gs := by
  have hm := h.more hs i
  have hb := h.best_len
  have hlen := h.len
  have hu := (h.best_val i (by omega)).1
  have hw := worth_set (gs := gs) (us := bestL fl gs) (i := i) (by omega) (by omega) hu
  have hup := riv_upper hm (vs := (bestL fl gs).set i ((bestL fl gs).getD i 0 + 1)) (by rw [List.length_set, List.length_set]; exact hb) (fun j hj => by
    rw [List.length_set] at hj
    rw [set_getD (by omega)]
    have := (h.best_val j hj).1
    split <;> omega) ((poss_iff (by rw [List.length_set, List.length_set]; exact hb)).2 fun m hmm => by
    rw [List.length_set] at hmm
    have := (poss_iff hb).1 h.best_poss m hmm
    rw [pre_set (by omega), pre_set hi]
    split <;> omega)
  have e : worthL gs (bestL fl gs) = val fl gs := rfl
  omega
theorem price_le (i : Nat) (hi : i < fl.length) (hpos : 0 < (bestL fl gs).getD i 0) : val (fl.set i (fl.getD i 0 + 1)) gs - val fl gs ≤ gk gs i ((bestL fl gs).getD i 0 - 1) := by
  have hm := h.more hs i
  have hlen := h.len
  have hF := h.falls
  obtain ⟨u, hu⟩ : ∃ u, u = bestL fl gs := ⟨_, rfl⟩
  obtain ⟨v, hv⟩ : ∃ v, v = bestL (fl.set i (fl.getD i 0 + 1)) gs := ⟨_, rfl⟩
  have hul : u.length = fl.length := by rw [hu]; exact h.best_len
  have hvl : v.length = fl.length := by rw [hv, hm.best_len, List.length_set]
  have hu0 : ∀ j, j < u.length → 0 ≤ u.getD j 0 := fun j hj => by rw [hu] at hj ⊢; exact (h.best_val j hj).1
  have hv0 : ∀ j, j < v.length → 0 ≤ v.getD j 0 := fun j hj => by rw [hv] at hj ⊢; exact (hm.best_val j hj).1
  have hup : ∀ m, m < u.length → pre u m ≤ 0 + pre fl m := by rw [hu]; exact (poss_iff h.best_len).1 h.best_poss
  have hvp : ∀ m, m < v.length → pre v m ≤ 0 + pre (fl.set i (fl.getD i 0 + 1)) m := by rw [hv]; exact (poss_iff (by rw [hm.best_len])).1 hm.best_poss
  have eu : worthL gs u = val fl gs := by rw [hu]; rfl
  have ev : worthL gs v = val (fl.set i (fl.getD i 0 + 1)) gs := by rw [hv]; rfl
  rw [← hu] at hpos ⊢
  rw [← ev, ← eu]
  have upper : ∀ ws : List Int, ws.length = fl.length → (∀ j, j < ws.length → 0 ≤ ws.getD j 0) → (∀ m, m < ws.length → pre ws m ≤ pre fl m) → worthL gs ws ≤ worthL gs u := fun ws h1 h2 h3 => by
    rw [eu]
    exact riv_upper h h1 h2 ((poss_iff h1).2 fun m hmm => by have := h3 m hmm; omega)
  have gpos : ∀ a k, 0 ≤ gk gs a k := fun a k => hF.pos a _
  by_cases hB : ∃ m, m < v.length ∧ pre fl m < pre v m
  rotate_left
  · have := upper v hvl hv0 fun m hmm => Classical.byContradiction fun hc => hB ⟨m, hmm, by omega⟩
    have := gpos i (u.getD i 0 - 1)
    omega
  obtain ⟨m0, hm0⟩ := hB
  obtain ⟨j, _, ⟨hj1, hj2⟩, hj3⟩ := least_nat (fun m => m < v.length ∧ pre fl m < pre v m) m0 hm0
  have hjv : pre v j = pre fl j + 1 ∧ i ≤ j := by
    have := hvp j hj1
    rw [pre_set hi] at this
    split at this <;> omega
  obtain ⟨hjv, hij⟩ := hjv
  obtain ⟨k, hk1, hk2, hk3⟩ := last_more (us := u) (vs := v) (j := j) (by have := hup j (by omega); omega)
  have huk := hu0 k (by omega)
  have hvw := worth_dec (gs := gs) (us := v) (j := k) (by omega) (by omega) (by omega)
  have hv1 := upper (v.set k (v.getD k 0 - 1)) (by rw [List.length_set]; exact hvl) (fun l hl => by
    rw [List.length_set] at hl
    rw [set_getD (by omega)]
    have := hv0 l hl
    split <;> omega) (fun m hmm => by
    rw [List.length_set] at hmm
    rw [pre_set (by omega)]
    have h1 := hvp m hmm
    rw [pre_set hi] at h1
    by_cases hmj : m < j
    · have := hj3 m hmj
      have h2 : pre v m ≤ pre fl m := Classical.byContradiction fun hc => this ⟨hmm, by omega⟩
      split <;> omega
    · rw [if_pos (by omega)] at h1
      rw [if_pos (by omega)]
      omega)
  by_cases hki : k = i
  · subst hki
    have h2 := hF.le k (show (u.getD k 0 - 1).toNat ≤ (v.getD k 0 - 1).toNat by omega)
    have h3 : gk gs k (v.getD k 0 - 1) ≤ gk gs k (u.getD k 0 - 1) := h2
    omega
  · have hud := worth_dec (gs := gs) (us := u) (j := i) (by omega) (by omega) (by omega)
    have e1 : (u.set i (u.getD i 0 - 1)).getD k 0 = u.getD k 0 := by rw [set_getD (by omega), if_neg hki]
    have hua := worth_set (gs := gs) (us := u.set i (u.getD i 0 - 1)) (i := k) (by rw [List.length_set]; omega) (by rw [List.length_set]; omega) (by rw [e1]; exact huk)
    have hu1 := upper ((u.set i (u.getD i 0 - 1)).set k ((u.set i (u.getD i 0 - 1)).getD k 0 + 1)) (by rw [List.length_set, List.length_set]; exact hul) (fun l hl => by
      rw [List.length_set, List.length_set] at hl
      rw [set_getD (by rw [List.length_set]; omega), set_getD (by omega), set_getD (by omega)]
      have := hu0 l hl
      by_cases c1 : l = k
      · rw [if_pos c1, if_neg hki]; omega
      · rw [if_neg c1]; split <;> omega) (fun m hmm => by
      rw [List.length_set, List.length_set] at hmm
      rw [pre_set (by rw [List.length_set]; omega), pre_set (by omega)]
      have h1 := hup m hmm
      by_cases hc : k ≤ m ∧ m < i
      · have h2 := hk3 m hc.1 (by omega)
        have h3 := hup j (by omega)
        have h4 := hj3 m (by omega)
        have h5 : pre v m ≤ pre fl m := Classical.byContradiction fun hc => h4 ⟨by omega, by omega⟩
        rw [if_neg (by omega), if_pos hc.1]
        omega
      · split
        · split <;> omega
        · split <;> omega)
    rw [e1] at hua
    have h2 := hF.le k (show (u.getD k 0).toNat ≤ (v.getD k 0 - 1).toNat by omega)
    have h3 : gk gs k (v.getD k 0 - 1) ≤ gk gs k (u.getD k 0) := h2
    rw [e1] at hu1
    omega
end
theorem pricesT_get {fl : List Int} {gs : List (List Int)} {n i : Nat} (hi : i < n) : (pricesT fl gs n).getD i 0 = val (fl.set i (fl.getD i 0 + 1)) gs - val fl gs := by
  rw [pricesT, List.getD_eq_getElem?_getD, List.getElem?_map, List.getElem?_range hi]; rfl
set_option maxRecDepth 20000 in
set_option maxHeartbeats 4000000 in
theorem WaterMarginal_at (fl : List Int) (gs : List (List Int)) : FnAt Try.prog false 9 [.agg [.arr (.int .i64) fl, .arr (.sl (.int .i64)) gs]] (.lit (.bool true)) [] := by
  obtain ⟨F, G, hmade, hok, hm8, hl1, hl2, hl3⟩ := made_ex fl gs 8 (by omega) (by omega)
  have hR := riverOk.riv hok
  have hl := hR.len
  have hF30 : ∀ i, i < F.length → F.getD i 0 ≤ 30 := fun i hi => ((riverOk.river hok).val i hi).2
  have hB := Best_good hok hl1 hl2 hl3
  have hP := Prices_good hok hl1 hl2 hl3
  have hbl := hR.best_len
  have hbv := hR.best_val
  obtain ⟨p, hp⟩ : ∃ p, p = pricesT F G F.length := ⟨_, rfl⟩
  obtain ⟨u, hu⟩ : ∃ u, u = bestL F G := ⟨_, rfl⟩
  have hpl' : @List.length (Ty.int .i64).T p = @List.length (Ty.int .i64).T F := by rw [hp]; exact pricesT_len
  have hul' : @List.length (Ty.int .i64).T u = @List.length (Ty.int .i64).T F := by rw [hu]; exact hbl
  have hpg : ∀ i, i < F.length → p.getD i 0 = val (F.set i (F.getD i 0 + 1)) G - val F G := fun i hi => by rw [hp]; exact pricesT_get hi
  have hq1 := price_nonneg hR hF30
  have hq2 := price_falls hR hF30
  have hq3 := price_ge hR hF30
  have hq4 := price_le hR hF30
  rw [← hp] at hP
  rw [← hu] at hB hbl hbv hq3 hq4
  refine FnAt.of_body tys_ok Try.func9 (by rfl) rfl Try.ntmps9 (by rw [Try.results9]) (by simp) ?_
  
  repeat' (first
    | refine W.seq ?_
    | refine W.block ?_
    | (refine W.region tys_ok [] ?_; conv => whnf)
    | (refine W.drawAll tys_ok [] mixed rfl ?_; conv => whnf)
    | (refine W.ret ?_; conv => whnf)
    | (refine W.skip ?_; conv => whnf)
    | (refine W.exit ?_; conv => whnf)
    | (refine ⟨false, _, _, _, _, rfl, Path.imp_of (hmade), rfl, rfl, rfl, ?_⟩; conv => whnf)
    | (refine ⟨false, _, _, _, _, rfl, Path.imp_of (hB), rfl, rfl, rfl, ?_⟩; conv => whnf)
    | (refine ⟨false, _, _, _, _, rfl, Path.imp_of (hP), rfl, rfl, rfl, ?_⟩; conv => whnf)
    | (refine ⟨false, _, _, _, _, rfl, Path.imp_of (lives_at), rfl, rfl, rfl, ?_⟩; conv => whnf)

    | (refine W.cond rfl (fun hb => ?_) (fun hb => ?_) <;> (try simp only [minL, maxL, pickB, getD_int, getD_sl, getD_bool, len_int, len_sl, len_bool, decide_eq_true_eq, decide_eq_false_iff_not, Bool.and_eq_true, Bool.or_eq_true, Bool.and_eq_false_iff, Bool.or_eq_false_iff, Bool.not_eq_true', Bool.not_eq_false', Bool.true_eq_false, Bool.false_eq_true, Int.toNat_natCast, Int.ofNat_lt, Int.ofNat_le, not_true_eq_false, not_false_eq_true, or_false, false_or, and_true, true_and, or_true, true_or, and_false, false_and] at hb) <;> (try (first | (cases hb; done) | exact absurd hb (by decide) | (exfalso; omega))))
    | ((with_reducible refine And.intro ?_ ?_); (focus ((repeat' (first | (with_reducible rfl) | (with_reducible refine And.intro ?_ ?_) | omega | rfl | exact Or.inl rfl | exact Or.inr rfl | (focus ((try simp only [minL, maxL, pickB, getD_int, getD_sl, getD_bool, len_int, len_sl, len_bool, decide_eq_true_eq, decide_eq_false_iff_not, Bool.and_eq_true, Bool.or_eq_true, Bool.and_eq_false_iff, Bool.or_eq_false_iff, Bool.not_eq_true', Bool.not_eq_false', Bool.true_eq_false, Bool.false_eq_true, Int.toNat_natCast, Int.ofNat_lt, Int.ofNat_le, not_true_eq_false, not_false_eq_true, or_false, false_or, and_true, true_and, or_true, true_or, and_false, false_and, InK, Path.imp, List.length_replicate, List.length_set, List.length_append, List.length_cons, List.length_nil] at *); omega)) | (refine app_le rfl ?_; omega))); done)); (conv => whnf))
    | ((with_reducible refine And.intro (Side.out ?_) ?_); rotate_left; (conv => whnf))
    | (refine Exists.intro _ (And.intro rfl (And.intro rfl (And.intro ?_ ?_))) <;> (conv => whnf) <;> repeat' (first
    | exact trivial
    | rfl
    | (refine And.intro (fun h => h) (Or.inl ?_))
    | (refine And.intro (fun _ => rfl) (Or.inl ?_))
    | (refine And.intro (fun h => Bool.noConfusion h) (Or.inl ?_))
    | (with_reducible refine And.intro (fun _ => rfl) ?_)
    | ((with_reducible refine And.intro ?_ ?_) <;> conv => whnf)
    | (refine congrArg (Value.int _) ?_)
    | (refine congrArg (SV.arr _) ?_)
    | (refine congrArg Value.bool ?_)
    | (exact fun h => Bool.noConfusion h)))); all_goals (try unfold Side)
  all_goals try (repeat' (first | (with_reducible rfl) | (with_reducible refine And.intro ?_ ?_) | omega | rfl | exact Or.inl rfl | exact Or.inr rfl | (focus ((try simp only [minL, maxL, pickB, getD_int, getD_sl, getD_bool, len_int, len_sl, len_bool, decide_eq_true_eq, decide_eq_false_iff_not, Bool.and_eq_true, Bool.or_eq_true, Bool.and_eq_false_iff, Bool.or_eq_false_iff, Bool.not_eq_true', Bool.not_eq_false', Bool.true_eq_false, Bool.false_eq_true, Int.toNat_natCast, Int.ofNat_lt, Int.ofNat_le, not_true_eq_false, not_false_eq_true, or_false, false_or, and_true, true_and, or_true, true_or, and_false, false_and, InK, Path.imp, List.length_replicate, List.length_set, List.length_append, List.length_cons, List.length_nil] at *); omega)) | (refine app_le rfl ?_; omega)))
  refine W.loop (fun i : Nat => ⟨[(3, .own 14000), (4, .own 14001), (5, .own 20000), (8, .own 27000), (10, .lit (.int .i64 i))],
      [(14000, .row 3 (.int .i64) true F), (14001, .row 22 (.sl (.int .i64)) true G), (20000, .row 3 (.int .i64) true u), (27000, .row 3 (.int .i64) true p)]⟩)
    (fun i => i ≤ F.length) (fun i => F.length - i) 0 ?_ ?_
  · refine ⟨Nat.zero_le _, ?_⟩
    refine ⟨rfl, ?_, ?_⟩ <;> (conv => whnf) <;> repeat' (first
    | exact trivial
    | rfl
    | (refine And.intro (fun h => h) (Or.inl ?_))
    | (refine And.intro (fun _ => rfl) (Or.inl ?_))
    | (refine And.intro (fun h => Bool.noConfusion h) (Or.inl ?_))
    | (with_reducible refine And.intro (fun _ => rfl) ?_)
    | ((with_reducible refine And.intro ?_ ?_) <;> conv => whnf)
    | (refine congrArg (Value.int _) ?_)
    | (refine congrArg (SV.arr _) ?_)
    | (refine congrArg Value.bool ?_)
    | (exact fun h => Bool.noConfusion h))
  · intro i hi
    by_cases hil : i < F.length
    · have hv := hbv i (by omega)
      have g1 := hpg i hil
      have g2 := hq1 i hil
      have g3 := hq3 i hil
      have g4 := hq4 i hil
      rw [← g1] at g3 g4
      have g5 : 0 < i → p.getD i 0 ≤ p.getD ((i : Int) - 1).toNat 0 := fun h0 => by
        rw [show ((i : Int) - 1).toNat = i - 1 from by omega, hpg i hil, hpg (i - 1) (by omega)]
        have := hq2 (i - 1) (by omega)
        rw [show i - 1 + 1 = i from by omega] at this
        omega
      simp only [gk] at g3 g4
      repeat' (first
    | refine W.seq ?_
    | refine W.block ?_
    | (refine W.region tys_ok [] ?_; conv => whnf)
    | (refine W.drawAll tys_ok [] mixed rfl ?_; conv => whnf)
    | (refine W.ret ?_; conv => whnf)
    | (refine W.skip ?_; conv => whnf)
    | (refine W.exit ?_; conv => whnf)

    | (refine W.cond rfl (fun hb => ?_) (fun hb => ?_) <;> (try simp only [minL, maxL, pickB, getD_int, getD_sl, getD_bool, len_int, len_sl, len_bool, decide_eq_true_eq, decide_eq_false_iff_not, Bool.and_eq_true, Bool.or_eq_true, Bool.and_eq_false_iff, Bool.or_eq_false_iff, Bool.not_eq_true', Bool.not_eq_false', Bool.true_eq_false, Bool.false_eq_true, Int.toNat_natCast, Int.ofNat_lt, Int.ofNat_le, not_true_eq_false, not_false_eq_true, or_false, false_or, and_true, true_and, or_true, true_or, and_false, false_and] at hb) <;> (try (first | (cases hb; done) | exact absurd hb (by decide) | (exfalso; omega))))
    | ((with_reducible refine And.intro ?_ ?_); (focus ((repeat' (first | (with_reducible rfl) | (with_reducible refine And.intro ?_ ?_) | omega | rfl | exact Or.inl rfl | exact Or.inr rfl | (focus ((try simp only [minL, maxL, pickB, getD_int, getD_sl, getD_bool, len_int, len_sl, len_bool, decide_eq_true_eq, decide_eq_false_iff_not, Bool.and_eq_true, Bool.or_eq_true, Bool.and_eq_false_iff, Bool.or_eq_false_iff, Bool.not_eq_true', Bool.not_eq_false', Bool.true_eq_false, Bool.false_eq_true, Int.toNat_natCast, Int.ofNat_lt, Int.ofNat_le, not_true_eq_false, not_false_eq_true, or_false, false_or, and_true, true_and, or_true, true_or, and_false, false_and, InK, Path.imp, List.length_replicate, List.length_set, List.length_append, List.length_cons, List.length_nil] at *); omega)) | (refine app_le rfl ?_; omega))); done)); (conv => whnf))
    | ((with_reducible refine And.intro (Side.out ?_) ?_); rotate_left; (conv => whnf))
    | (refine Exists.intro _ (And.intro rfl (And.intro rfl (And.intro ?_ ?_))) <;> (conv => whnf) <;> repeat' (first
    | exact trivial
    | rfl
    | (refine And.intro (fun h => h) (Or.inl ?_))
    | (refine And.intro (fun _ => rfl) (Or.inl ?_))
    | (refine And.intro (fun h => Bool.noConfusion h) (Or.inl ?_))
    | (with_reducible refine And.intro (fun _ => rfl) ?_)
    | ((with_reducible refine And.intro ?_ ?_) <;> conv => whnf)
    | (refine congrArg (Value.int _) ?_)
    | (refine congrArg (SV.arr _) ?_)
    | (refine congrArg Value.bool ?_)
    | (exact fun h => Bool.noConfusion h)))); all_goals (try unfold Side)
      all_goals try (repeat' (first | (with_reducible rfl) | (with_reducible refine And.intro ?_ ?_) | omega | rfl | exact Or.inl rfl | exact Or.inr rfl | (focus ((try simp only [minL, maxL, pickB, getD_int, getD_sl, getD_bool, len_int, len_sl, len_bool, decide_eq_true_eq, decide_eq_false_iff_not, Bool.and_eq_true, Bool.or_eq_true, Bool.and_eq_false_iff, Bool.or_eq_false_iff, Bool.not_eq_true', Bool.not_eq_false', Bool.true_eq_false, Bool.false_eq_true, Int.toNat_natCast, Int.ofNat_lt, Int.ofNat_le, not_true_eq_false, not_false_eq_true, or_false, false_or, and_true, true_and, or_true, true_or, and_false, false_and, InK, Path.imp, List.length_replicate, List.length_set, List.length_append, List.length_cons, List.length_nil] at *); omega)) | (refine app_le rfl ?_; omega)))
      refine ⟨i + 1, ⟨by omega, by omega⟩, ?_⟩
      refine ⟨rfl, ?_, ?_⟩ <;> (conv => whnf) <;> repeat' (first
    | exact trivial
    | rfl
    | (refine And.intro (fun h => h) (Or.inl ?_))
    | (refine And.intro (fun _ => rfl) (Or.inl ?_))
    | (refine And.intro (fun h => Bool.noConfusion h) (Or.inl ?_))
    | (with_reducible refine And.intro (fun _ => rfl) ?_)
    | ((with_reducible refine And.intro ?_ ?_) <;> conv => whnf)
    | (refine congrArg (Value.int _) ?_)
    | (refine congrArg (SV.arr _) ?_)
    | (refine congrArg Value.bool ?_)
    | (exact fun h => Bool.noConfusion h))
    · have hie : i = F.length := by omega
      subst hie
      repeat' (first
    | refine W.seq ?_
    | refine W.block ?_
    | (refine W.region tys_ok [] ?_; conv => whnf)
    | (refine W.drawAll tys_ok [] mixed rfl ?_; conv => whnf)
    | (refine W.ret ?_; conv => whnf)
    | (refine W.skip ?_; conv => whnf)
    | (refine W.exit ?_; conv => whnf)

    | (refine W.cond rfl (fun hb => ?_) (fun hb => ?_) <;> (try simp only [minL, maxL, pickB, getD_int, getD_sl, getD_bool, len_int, len_sl, len_bool, decide_eq_true_eq, decide_eq_false_iff_not, Bool.and_eq_true, Bool.or_eq_true, Bool.and_eq_false_iff, Bool.or_eq_false_iff, Bool.not_eq_true', Bool.not_eq_false', Bool.true_eq_false, Bool.false_eq_true, Int.toNat_natCast, Int.ofNat_lt, Int.ofNat_le, not_true_eq_false, not_false_eq_true, or_false, false_or, and_true, true_and, or_true, true_or, and_false, false_and] at hb) <;> (try (first | (cases hb; done) | exact absurd hb (by decide) | (exfalso; omega))))
    | ((with_reducible refine And.intro ?_ ?_); (focus ((repeat' (first | (with_reducible rfl) | (with_reducible refine And.intro ?_ ?_) | omega | rfl | exact Or.inl rfl | exact Or.inr rfl | (focus ((try simp only [minL, maxL, pickB, getD_int, getD_sl, getD_bool, len_int, len_sl, len_bool, decide_eq_true_eq, decide_eq_false_iff_not, Bool.and_eq_true, Bool.or_eq_true, Bool.and_eq_false_iff, Bool.or_eq_false_iff, Bool.not_eq_true', Bool.not_eq_false', Bool.true_eq_false, Bool.false_eq_true, Int.toNat_natCast, Int.ofNat_lt, Int.ofNat_le, not_true_eq_false, not_false_eq_true, or_false, false_or, and_true, true_and, or_true, true_or, and_false, false_and, InK, Path.imp, List.length_replicate, List.length_set, List.length_append, List.length_cons, List.length_nil] at *); omega)) | (refine app_le rfl ?_; omega))); done)); (conv => whnf))
    | ((with_reducible refine And.intro (Side.out ?_) ?_); rotate_left; (conv => whnf))
    | (refine Exists.intro _ (And.intro rfl (And.intro rfl (And.intro ?_ ?_))) <;> (conv => whnf) <;> repeat' (first
    | exact trivial
    | rfl
    | (refine And.intro (fun h => h) (Or.inl ?_))
    | (refine And.intro (fun _ => rfl) (Or.inl ?_))
    | (refine And.intro (fun h => Bool.noConfusion h) (Or.inl ?_))
    | (with_reducible refine And.intro (fun _ => rfl) ?_)
    | ((with_reducible refine And.intro ?_ ?_) <;> conv => whnf)
    | (refine congrArg (Value.int _) ?_)
    | (refine congrArg (SV.arr _) ?_)
    | (refine congrArg Value.bool ?_)
    | (exact fun h => Bool.noConfusion h)))); all_goals (try unfold Side)
      all_goals try (repeat' (first | (with_reducible rfl) | (with_reducible refine And.intro ?_ ?_) | omega | rfl | exact Or.inl rfl | exact Or.inr rfl | (focus ((try simp only [minL, maxL, pickB, getD_int, getD_sl, getD_bool, len_int, len_sl, len_bool, decide_eq_true_eq, decide_eq_false_iff_not, Bool.and_eq_true, Bool.or_eq_true, Bool.and_eq_false_iff, Bool.or_eq_false_iff, Bool.not_eq_true', Bool.not_eq_false', Bool.true_eq_false, Bool.false_eq_true, Int.toNat_natCast, Int.ofNat_lt, Int.ofNat_le, not_true_eq_false, not_false_eq_true, or_false, false_or, and_true, true_and, or_true, true_or, and_false, false_and, InK, Path.imp, List.length_replicate, List.length_set, List.length_append, List.length_cons, List.length_nil] at *); omega)) | (refine app_le rfl ?_; omega)))
end Go.Proofs.Ytohfemfgnohhdaa
