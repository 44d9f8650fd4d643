/- Joined of: W24 W25 W26 W27 W28 W29. No condition. -/
import Derived.Test.YtohfemfgnohhdaaJ4
import Derived.Test.YtohfemfgnohhdaaJ3

/- The document's best use: what the function returns. No condition. -/
namespace Go.Proofs.Ytohfemfgnohhdaa
open Go Go.Vc
set_option linter.unusedVariables false
set_option linter.unusedSimpArgs false

/-- The table from place c on. -/
def afterX (T : Nat) (fl : List Int) (gs : List (List Int)) (c : Nat) : List (List Int) := (List.range (fl.length + 1)).map fun j => if c ≤ j then tabF T (fl.drop j) (gs.drop j) else []
theorem afterX_len {T c : Nat} {fl : List Int} {gs : List (List Int)} : (afterX T fl gs c).length = fl.length + 1 := by simp [afterX]
theorem afterX_get {T c j : Nat} {fl : List Int} {gs : List (List Int)} (hj : j < fl.length + 1) : (afterX T fl gs c).getD j [] = if c ≤ j then tabF T (fl.drop j) (gs.drop j) else [] := by
  rw [List.getD_eq_getElem?_getD, afterX, List.getElem?_map, List.getElem?_range hj]; rfl
theorem afterX_start {T : Nat} {fl : List Int} {gs : List (List Int)} : (List.replicate (fl.length + 1) ([] : List Int)).set fl.length (List.replicate (T + 1) 0) = afterX T fl gs fl.length := by
  apply List.ext_getElem?
  intro j
  rw [List.getElem?_set, List.length_replicate, List.getElem?_replicate]
  by_cases h : j < fl.length + 1
  · rw [afterX, List.getElem?_map, List.getElem?_range h]
    by_cases e : fl.length = j
    · subst e
      rw [if_pos rfl, if_pos h]
      simp only [Option.map_some, Nat.le_refl, if_true, List.drop_length]
      rfl
    · rw [if_neg e, if_pos h]
      simp only [Option.map_some]
      rw [if_neg (by omega)]
  · rw [afterX, List.getElem?_map, List.getElem?_eq_none (by simp; omega), if_neg (by omega), if_neg h]
    rfl
theorem afterX_step {T c : Nat} {fl : List Int} {gs : List (List Int)} (hc : c < fl.length) : (afterX T fl gs (c + 1)).set c (tabF T (fl.drop c) (gs.drop c)) = afterX T fl gs c := by
  apply List.ext_getElem?
  intro j
  rw [List.getElem?_set, afterX_len]
  by_cases e : c = j
  · subst e
    rw [if_pos rfl, if_pos (by omega), afterX, List.getElem?_map, List.getElem?_range (by omega)]
    simp
  · rw [if_neg e]
    by_cases h : j < fl.length + 1
    · rw [afterX, afterX, List.getElem?_map, List.getElem?_map, List.getElem?_range h]
      simp only [Option.map_some]
      congr 1
      by_cases h2 : c + 1 ≤ j
      · rw [if_pos h2, if_pos (by omega)]
      · rw [if_neg h2, if_neg (by omega)]
    · rw [afterX, afterX, List.getElem?_map, List.getElem?_map, List.getElem?_eq_none (by simp; omega)]
      rfl
/-- The first entries of row c. -/
def rowP (T : Nat) (fl : List Int) (gs : List (List Int)) (c w : Nat) : List Int := (List.range w).map fun (w : Nat) => mostL (fl.getD c 0) (gs.getD c []) w (tabF T (fl.drop (c + 1)) (gs.drop (c + 1))) (cntL (fl.getD c 0) (gs.getD c []) w)
theorem rowP_len {T c w : Nat} {fl : List Int} {gs : List (List Int)} : (rowP T fl gs c w).length = w := by simp [rowP]
theorem rowP_full {T c : Nat} {fl : List Int} {gs : List (List Int)} (hc : c < fl.length) (hl : fl.length = gs.length) : rowP T fl gs c (T + 1) = tabF T (fl.drop c) (gs.drop c) := by
  rw [drop_getD 0 hc, drop_getD [] (by omega : c < gs.length)]
  rfl
theorem rowP_succ {T c w : Nat} {fl : List Int} {gs : List (List Int)} : rowP T fl gs c (w + 1) = rowP T fl gs c w ++ [mostL (fl.getD c 0) (gs.getD c []) w (tabF T (fl.drop (c + 1)) (gs.drop (c + 1))) (cntL (fl.getD c 0) (gs.getD c []) w)] := by
  simp [rowP, List.range_succ]
theorem tabF_bound {T : Nat} : ∀ {fs : List Int} {gs : List (List Int)}, OkG gs → ∀ k, 0 ≤ (tabF T fs gs).getD k 0 ∧ (tabF T fs gs).getD k 0 ≤ 20000 * gs.length
  | f :: fs, g :: gs, hG, k => by
    have ih := tabF_bound (T := T) (fs := fs) (gs := gs) hG.tail
    have hs := hG.take_sum 0
    simp only [List.getD_cons_zero] at hs
    simp only [tabF]
    rw [List.getD_eq_getElem?_getD, List.getElem?_map]
    by_cases h : k < T + 1
    · rw [List.getElem?_range h]
      simp only [Option.map_some, Option.getD_some, List.length_cons]
      have := mostL_bound (f := f) (w := (k : Int)) hs ih (cntL f g k)
      omega
    · rw [List.getElem?_eq_none (by simp; omega)]
      simp only [Option.map_none, Option.getD_none]
      omega
  | [], gs, hG, k => by
    simp only [tabF]
    rw [List.getD_eq_getElem?_getD, List.getElem?_replicate]
    split <;> simp only [Option.getD_some, Option.getD_none] <;> omega
  | _ :: _, [], hG, k => by
    simp only [tabF]
    rw [List.getD_eq_getElem?_getD, List.getElem?_replicate]
    split <;> simp
theorem OkG.drop {gs : List (List Int)} (h : OkG gs) (n : Nat) : OkG (gs.drop n) := by
  induction n generalizing gs with
  | zero => exact h
  | succ n ih =>
    cases gs with
    | nil => exact h
    | cons g gs => exact ih h.tail

theorem getD_drop {α : Type} {d : α} {xs : List α} {n i : Nat} : (xs.drop n).getD i d = xs.getD (n + i) d := by
  rw [List.getD_eq_getElem?_getD, List.getElem?_drop, ← List.getD_eq_getElem?_getD]
theorem take_getD {α : Type} {d : α} {xs : List α} {i : Nat} (h : i < xs.length) : xs.take (i + 1) = xs.take i ++ [xs.getD i d] := by
  rw [List.take_add_one, List.getD_eq_getElem?_getD, List.getElem?_eq_getElem h]; rfl
theorem Sfx.drop {fs : List Int} {gs : List (List Int)} (h : Sfx fs gs) (n : Nat) : Sfx (fs.drop n) (gs.drop n) := by
  refine ⟨by rw [List.length_drop, List.length_drop, h.len], fun i hi => ?_, fun i j => ?_⟩
  · rw [getD_drop]; rw [List.length_drop] at hi; exact h.f0 _ (by omega)
  · rw [getD_drop]; exact h.g0 _ _
theorem set_getD_self {α : Type} {xs : List α} {i : Nat} {d : α} (hi : i < xs.length) : xs.set i (xs.getD i d) = xs := by
  apply List.ext_getElem?
  intro j
  rw [List.getElem?_set]
  split
  · rename_i e
    subst e
    rw [List.getD_eq_getElem?_getD, List.getElem?_eq_getElem hi]; simp [hi]
  · rfl
set_option maxHeartbeats 2000000 in
theorem Best_ref (fl : List Int) (gs : List (List Int)) (h : Riv fl gs) :
    FnAt Try.prog false 19 [.arr (.int .i64) fl, .arr (.sl (.int .i64)) gs] (.tup [.own 0, .lit (.int .i64 (val fl gs))]) [(0, .row 3 (.int .i64) true (bestL fl gs))] := by
  have hl := h.len
  have hG := h.g
  have hG8 := hG.len
  have hfs := sum_bound (m := 1000) h.val
  obtain ⟨T, hT⟩ : ∃ T : Nat, fl.sum = (T : Int) := ⟨fl.sum.toNat, by omega⟩
  refine FnAt.of_body tys_ok Try.func19 (by rfl) rfl Try.ntmps19 (by rw [Try.results19]) (by simp) ?_
  
  repeat' (first
 | refine W.seq ?_
 | refine W.block ?_
 | (refine W.region tys_ok [] ?_; conv => whnf)
 | (refine W.drawAll tys_ok [] mixed rfl ?_; conv => whnf)
 | (refine W.ret ?_; conv => whnf)
 | (refine W.skip ?_; conv => whnf)
 | (refine W.exit ?_; conv => whnf)
 | (refine W.cond rfl (fun hb => ?_) (fun hb => ?_) <;> (try simp only [minL, maxL, pickB, getD_int, getD_sl, getD_bool, len_int, len_sl, len_bool, decide_eq_true_eq, decide_eq_false_iff_not, Bool.and_eq_true, Bool.or_eq_true, Bool.and_eq_false_iff, Bool.or_eq_false_iff, Bool.not_eq_true', Bool.not_eq_false', Int.toNat_natCast, Int.ofNat_lt, Int.ofNat_le, not_true_eq_false, not_false_eq_true, or_false, false_or, and_true, true_and, or_true, true_or, and_false, false_and] at hb) <;> (try (first | (cases hb; done) | exact absurd hb (by decide) | (exfalso; omega))))
 | ((with_reducible refine And.intro ?_ ?_); (focus ((repeat' (first | (with_reducible rfl) | (with_reducible refine And.intro ?_ ?_) | omega | rfl | exact Or.inl rfl | exact Or.inr rfl | (focus ((try simp only [minL, maxL, pickB, getD_int, getD_sl, getD_bool, len_int, len_sl, len_bool, decide_eq_true_eq, decide_eq_false_iff_not, Bool.and_eq_true, Bool.or_eq_true, Bool.and_eq_false_iff, Bool.or_eq_false_iff, Bool.not_eq_true', Bool.not_eq_false', Int.toNat_natCast, Int.ofNat_lt, Int.ofNat_le, not_true_eq_false, not_false_eq_true, or_false, false_or, and_true, true_and, or_true, true_or, and_false, false_and, InK, Path.imp, List.length_replicate, List.length_set, List.length_append, List.length_cons, List.length_nil] at *); omega)))); done)); (conv => whnf))
 | ((with_reducible refine And.intro (Side.out ?_) ?_); rotate_left; (conv => whnf))
 | (refine Exists.intro _ (And.intro rfl (And.intro rfl (And.intro ?_ ?_))) <;> (conv => whnf) <;> repeat' (first
 | exact trivial
 | rfl
 | (refine And.intro (fun h => h) (Or.inl ?_))
 | (refine And.intro (fun _ => rfl) (Or.inl ?_))
 | (refine And.intro (fun h => Bool.noConfusion h) (Or.inl ?_))
 | (with_reducible refine And.intro (fun _ => rfl) ?_)
 | ((with_reducible refine And.intro ?_ ?_) <;> conv => whnf)
 | (refine congrArg (Value.int _) ?_)
 | (refine congrArg (SV.arr _) ?_)
 | (refine congrArg Value.bool ?_)))); all_goals (try unfold Side)
  refine W.loop (fun i : Nat => ⟨[(0, .st false (.arr (.int .i64) fl)), (1, .st false (.arr (.sl (.int .i64)) gs)), (6, .lit (.int .i64 (fl.take i).sum)), (7, .lit (.int .i64 i))], []⟩)
    (fun i => i ≤ fl.length) (fun i => fl.length - i) 0 ?_ ?_
  · refine ⟨by simp, ?_⟩
    refine ⟨rfl, ?_, ?_⟩ <;> (conv => whnf) <;> repeat' (first
 | exact trivial
 | rfl
 | (refine And.intro (fun h => h) (Or.inl ?_))
 | (refine And.intro (fun _ => rfl) (Or.inl ?_))
 | (refine And.intro (fun h => Bool.noConfusion h) (Or.inl ?_))
 | (with_reducible refine And.intro (fun _ => rfl) ?_)
 | ((with_reducible refine And.intro ?_ ?_) <;> conv => whnf)
 | (refine congrArg (Value.int _) ?_)
 | (refine congrArg (SV.arr _) ?_)
 | (refine congrArg Value.bool ?_))
  intro i hi
  have hsi := sum_bound (m := 1000) (xs := fl.take i) fun j hj => by
    rw [List.length_take] at hj
    rw [getD_take (by omega)]
    exact h.val j (by omega)
  rw [List.length_take] at hsi
  by_cases hil : i < fl.length
  · have hvi := h.val i hil
    repeat' (first
 | refine W.seq ?_
 | refine W.block ?_
 | (refine W.region tys_ok [] ?_; conv => whnf)
 | (refine W.drawAll tys_ok [] mixed rfl ?_; conv => whnf)
 | (refine W.ret ?_; conv => whnf)
 | (refine W.skip ?_; conv => whnf)
 | (refine W.exit ?_; conv => whnf)
 | (refine W.cond rfl (fun hb => ?_) (fun hb => ?_) <;> (try simp only [minL, maxL, pickB, getD_int, getD_sl, getD_bool, len_int, len_sl, len_bool, decide_eq_true_eq, decide_eq_false_iff_not, Bool.and_eq_true, Bool.or_eq_true, Bool.and_eq_false_iff, Bool.or_eq_false_iff, Bool.not_eq_true', Bool.not_eq_false', Int.toNat_natCast, Int.ofNat_lt, Int.ofNat_le, not_true_eq_false, not_false_eq_true, or_false, false_or, and_true, true_and, or_true, true_or, and_false, false_and] at hb) <;> (try (first | (cases hb; done) | exact absurd hb (by decide) | (exfalso; omega))))
 | ((with_reducible refine And.intro ?_ ?_); (focus ((repeat' (first | (with_reducible rfl) | (with_reducible refine And.intro ?_ ?_) | omega | rfl | exact Or.inl rfl | exact Or.inr rfl | (focus ((try simp only [minL, maxL, pickB, getD_int, getD_sl, getD_bool, len_int, len_sl, len_bool, decide_eq_true_eq, decide_eq_false_iff_not, Bool.and_eq_true, Bool.or_eq_true, Bool.and_eq_false_iff, Bool.or_eq_false_iff, Bool.not_eq_true', Bool.not_eq_false', Int.toNat_natCast, Int.ofNat_lt, Int.ofNat_le, not_true_eq_false, not_false_eq_true, or_false, false_or, and_true, true_and, or_true, true_or, and_false, false_and, InK, Path.imp, List.length_replicate, List.length_set, List.length_append, List.length_cons, List.length_nil] at *); omega)))); done)); (conv => whnf))
 | ((with_reducible refine And.intro (Side.out ?_) ?_); rotate_left; (conv => whnf))
 | (refine Exists.intro _ (And.intro rfl (And.intro rfl (And.intro ?_ ?_))) <;> (conv => whnf) <;> repeat' (first
 | exact trivial
 | rfl
 | (refine And.intro (fun h => h) (Or.inl ?_))
 | (refine And.intro (fun _ => rfl) (Or.inl ?_))
 | (refine And.intro (fun h => Bool.noConfusion h) (Or.inl ?_))
 | (with_reducible refine And.intro (fun _ => rfl) ?_)
 | ((with_reducible refine And.intro ?_ ?_) <;> conv => whnf)
 | (refine congrArg (Value.int _) ?_)
 | (refine congrArg (SV.arr _) ?_)
 | (refine congrArg Value.bool ?_)))); all_goals (try unfold Side)
    all_goals try (repeat' (first | (with_reducible rfl) | (with_reducible refine And.intro ?_ ?_) | omega | rfl | exact Or.inl rfl | exact Or.inr rfl | (focus ((try simp only [minL, maxL, pickB, getD_int, getD_sl, getD_bool, len_int, len_sl, len_bool, decide_eq_true_eq, decide_eq_false_iff_not, Bool.and_eq_true, Bool.or_eq_true, Bool.and_eq_false_iff, Bool.or_eq_false_iff, Bool.not_eq_true', Bool.not_eq_false', Int.toNat_natCast, Int.ofNat_lt, Int.ofNat_le, not_true_eq_false, not_false_eq_true, or_false, false_or, and_true, true_and, or_true, true_or, and_false, false_and, InK, Path.imp, List.length_replicate, List.length_set, List.length_append, List.length_cons, List.length_nil] at *); omega))))
    refine ⟨i + 1, ⟨by omega, by omega⟩, ?_⟩
    refine ⟨rfl, ?_, ?_⟩ <;> (conv => whnf) <;> repeat' (first
 | exact trivial
 | rfl
 | (refine And.intro (fun h => h) (Or.inl ?_))
 | (refine And.intro (fun _ => rfl) (Or.inl ?_))
 | (refine And.intro (fun h => Bool.noConfusion h) (Or.inl ?_))
 | (with_reducible refine And.intro (fun _ => rfl) ?_)
 | ((with_reducible refine And.intro ?_ ?_) <;> conv => whnf)
 | (refine congrArg (Value.int _) ?_)
 | (refine congrArg (SV.arr _) ?_)
 | (refine congrArg Value.bool ?_))
    rw [sum_take_succ hil]
    rfl
  have hi' : i = fl.length := by omega
  subst hi'
  rw [List.take_length] at hsi ⊢
  rw [hT]
  repeat' (first
 | refine W.seq ?_
 | refine W.block ?_
 | (refine W.region tys_ok [0, 30] ?_; conv => whnf)
 | (refine W.drawAll tys_ok [0, 30] mixed rfl ?_; conv => whnf)
 | (refine W.ret ?_; conv => whnf)
 | (refine W.skip ?_; conv => whnf)
 | (refine W.exit ?_; conv => whnf)
 | (refine W.cond rfl (fun hb => ?_) (fun hb => ?_) <;> (try simp only [minL, maxL, pickB, getD_int, getD_sl, getD_bool, len_int, len_sl, len_bool, decide_eq_true_eq, decide_eq_false_iff_not, Bool.and_eq_true, Bool.or_eq_true, Bool.and_eq_false_iff, Bool.or_eq_false_iff, Bool.not_eq_true', Bool.not_eq_false', Int.toNat_natCast, Int.ofNat_lt, Int.ofNat_le, not_true_eq_false, not_false_eq_true, or_false, false_or, and_true, true_and, or_true, true_or, and_false, false_and] at hb) <;> (try (first | (cases hb; done) | exact absurd hb (by decide) | (exfalso; omega))))
 | ((with_reducible refine And.intro ?_ ?_); (focus ((repeat' (first | (with_reducible rfl) | (with_reducible refine And.intro ?_ ?_) | omega | rfl | exact Or.inl rfl | exact Or.inr rfl | (focus ((try simp only [minL, maxL, pickB, getD_int, getD_sl, getD_bool, len_int, len_sl, len_bool, decide_eq_true_eq, decide_eq_false_iff_not, Bool.and_eq_true, Bool.or_eq_true, Bool.and_eq_false_iff, Bool.or_eq_false_iff, Bool.not_eq_true', Bool.not_eq_false', Int.toNat_natCast, Int.ofNat_lt, Int.ofNat_le, not_true_eq_false, not_false_eq_true, or_false, false_or, and_true, true_and, or_true, true_or, and_false, false_and, InK, Path.imp, List.length_replicate, List.length_set, List.length_append, List.length_cons, List.length_nil] at *); omega)))); done)); (conv => whnf))
 | ((with_reducible refine And.intro (Side.out ?_) ?_); rotate_left; (conv => whnf))
 | (refine Exists.intro _ (And.intro rfl (And.intro rfl (And.intro ?_ ?_))) <;> (conv => whnf) <;> repeat' (first
 | exact trivial
 | rfl
 | (refine And.intro (fun h => h) (Or.inl ?_))
 | (refine And.intro (fun _ => rfl) (Or.inl ?_))
 | (refine And.intro (fun h => Bool.noConfusion h) (Or.inl ?_))
 | (with_reducible refine And.intro (fun _ => rfl) ?_)
 | ((with_reducible refine And.intro ?_ ?_) <;> conv => whnf)
 | (refine congrArg (Value.int _) ?_)
 | (refine congrArg (SV.arr _) ?_)
 | (refine congrArg Value.bool ?_)))); all_goals (try unfold Side)
  all_goals try (repeat' (first | (with_reducible rfl) | (with_reducible refine And.intro ?_ ?_) | omega | rfl | exact Or.inl rfl | exact Or.inr rfl | (focus ((try simp only [minL, maxL, pickB, getD_int, getD_sl, getD_bool, len_int, len_sl, len_bool, decide_eq_true_eq, decide_eq_false_iff_not, Bool.and_eq_true, Bool.or_eq_true, Bool.and_eq_false_iff, Bool.or_eq_false_iff, Bool.not_eq_true', Bool.not_eq_false', Int.toNat_natCast, Int.ofNat_lt, Int.ofNat_le, not_true_eq_false, not_false_eq_true, or_false, false_or, and_true, true_and, or_true, true_or, and_false, false_and, InK, Path.imp, List.length_replicate, List.length_set, List.length_append, List.length_cons, List.length_nil] at *); omega))))
  refine W.loop (fun x : Nat × List (List Int) => ⟨[(0, .st false (.arr (.int .i64) fl)), (1, .st false (.arr (.sl (.int .i64)) gs)), (6, .lit (.int .i64 (T : Int))), (8, .mown 31000), (9, .lit (.int .i64 ((x.1 : Int) - 1)))], [(31000, .mat 22 3 (.int .i64) true x.2 none)]⟩)
    (fun x => x.1 ≤ fl.length ∧ x.2 = afterX T fl gs x.1) (fun x => x.1) (fl.length, afterX T fl gs fl.length) ?_ ?_
  · refine ⟨⟨Nat.le_refl _, rfl⟩, ?_⟩
    refine ⟨rfl, ?_, ?_⟩ <;> (conv => whnf) <;> repeat' (first
 | exact trivial
 | rfl
 | (refine And.intro (fun h => h) (Or.inl ?_))
 | (refine And.intro (fun _ => rfl) (Or.inl ?_))
 | (refine And.intro (fun h => Bool.noConfusion h) (Or.inl ?_))
 | (with_reducible refine And.intro (fun _ => rfl) ?_)
 | ((with_reducible refine And.intro ?_ ?_) <;> conv => whnf)
 | (refine congrArg (Value.int _) ?_)
 | (refine congrArg (SV.arr _) ?_)
 | (refine congrArg Value.bool ?_))
    show (List.replicate (((fl.length : Nat) : Int) + 1).toNat ([] : List Int)).set ((fl.length : Nat) : Int).toNat (List.replicate ((T : Int) + 1).toNat (0 : Int)) = afterX T fl gs fl.length
    rw [show (((fl.length : Nat) : Int) + 1).toNat = fl.length + 1 from by omega, show ((fl.length : Nat) : Int).toNat = fl.length from by omega, show ((T : Int) + 1).toNat = T + 1 from by omega]
    exact afterX_start
  rintro ⟨c, xs⟩ ⟨hc, hxs⟩
  dsimp only at hc hxs ⊢
  have hxl : xs.length = fl.length + 1 := by rw [hxs, afterX_len]
  have hxl' : @List.length (List (Ty.int .i64).T) xs = fl.length + 1 := hxl
  cases c with
  | succ c =>
    have e0 : (((c + 1 : Nat) : Int) - 1).toNat = c := by omega
    have e1 : (((c + 1 : Nat) : Int) - 1 + 1).toNat = c + 1 := by omega
    repeat' (first
 | refine W.seq ?_
 | refine W.block ?_
 | (refine W.region tys_ok [] ?_; conv => whnf)
 | (refine W.drawAll tys_ok [] mixed rfl ?_; conv => whnf)
 | (refine W.ret ?_; conv => whnf)
 | (refine W.skip ?_; conv => whnf)
 | (refine W.exit ?_; conv => whnf)
 | (refine W.cond rfl (fun hb => ?_) (fun hb => ?_) <;> (try simp only [minL, maxL, pickB, getD_int, getD_sl, getD_bool, len_int, len_sl, len_bool, decide_eq_true_eq, decide_eq_false_iff_not, Bool.and_eq_true, Bool.or_eq_true, Bool.and_eq_false_iff, Bool.or_eq_false_iff, Bool.not_eq_true', Bool.not_eq_false', Int.toNat_natCast, Int.ofNat_lt, Int.ofNat_le, not_true_eq_false, not_false_eq_true, or_false, false_or, and_true, true_and, or_true, true_or, and_false, false_and] at hb) <;> (try (first | (cases hb; done) | exact absurd hb (by decide) | (exfalso; omega))))
 | ((with_reducible refine And.intro ?_ ?_); (focus ((repeat' (first | (with_reducible rfl) | (with_reducible refine And.intro ?_ ?_) | omega | rfl | exact Or.inl rfl | exact Or.inr rfl | (focus ((try simp only [minL, maxL, pickB, getD_int, getD_sl, getD_bool, len_int, len_sl, len_bool, decide_eq_true_eq, decide_eq_false_iff_not, Bool.and_eq_true, Bool.or_eq_true, Bool.and_eq_false_iff, Bool.or_eq_false_iff, Bool.not_eq_true', Bool.not_eq_false', Int.toNat_natCast, Int.ofNat_lt, Int.ofNat_le, not_true_eq_false, not_false_eq_true, or_false, false_or, and_true, true_and, or_true, true_or, and_false, false_and, InK, Path.imp, List.length_replicate, List.length_set, List.length_append, List.length_cons, List.length_nil] at *); omega)))); done)); (conv => whnf))
 | ((with_reducible refine And.intro (Side.out ?_) ?_); rotate_left; (conv => whnf))
 | (refine Exists.intro _ (And.intro rfl (And.intro rfl (And.intro ?_ ?_))) <;> (conv => whnf) <;> repeat' (first
 | exact trivial
 | rfl
 | (refine And.intro (fun h => h) (Or.inl ?_))
 | (refine And.intro (fun _ => rfl) (Or.inl ?_))
 | (refine And.intro (fun h => Bool.noConfusion h) (Or.inl ?_))
 | (with_reducible refine And.intro (fun _ => rfl) ?_)
 | ((with_reducible refine And.intro ?_ ?_) <;> conv => whnf)
 | (refine congrArg (Value.int _) ?_)
 | (refine congrArg (SV.arr _) ?_)
 | (refine congrArg Value.bool ?_)))); all_goals (try unfold Side)
    all_goals try (repeat' (first | (with_reducible rfl) | (with_reducible refine And.intro ?_ ?_) | omega | rfl | exact Or.inl rfl | exact Or.inr rfl | (focus ((try simp only [minL, maxL, pickB, getD_int, getD_sl, getD_bool, len_int, len_sl, len_bool, decide_eq_true_eq, decide_eq_false_iff_not, Bool.and_eq_true, Bool.or_eq_true, Bool.and_eq_false_iff, Bool.or_eq_false_iff, Bool.not_eq_true', Bool.not_eq_false', Int.toNat_natCast, Int.ofNat_lt, Int.ofNat_le, not_true_eq_false, not_false_eq_true, or_false, false_or, and_true, true_and, or_true, true_or, and_false, false_and, InK, Path.imp, List.length_replicate, List.length_set, List.length_append, List.length_cons, List.length_nil] at *); omega))))
    refine W.loop (fun x : Nat × List (List Int) => ⟨[(0, .st false (.arr (.int .i64) fl)), (1, .st false (.arr (.sl (.int .i64)) gs)), (6, .lit (.int .i64 (T : Int))), (8, .mown 31000), (9, .lit (.int .i64 (((c + 1 : Nat) : Int) - 1))), (10, .lit (.int .i64 (x.1 : Int)))],
        [(31000, .mat 22 3 (.int .i64) true x.2 none)]⟩)
      (fun x => x.1 ≤ T + 1 ∧ x.2 = xs.set c (rowP T fl gs c x.1)) (fun x => T + 1 - x.1) (0, xs) ?_ ?_
    · refine ⟨⟨by simp, ?_⟩, ?_⟩
      · have e2 : xs.getD c [] = [] := by rw [hxs, afterX_get (by omega), if_neg (by omega)]
        show xs = xs.set c []
        conv => rhs; rw [← e2]
        exact (set_getD_self (by omega)).symm
      · refine ⟨rfl, ?_, ?_⟩ <;> (conv => whnf) <;> repeat' (first
 | exact trivial
 | rfl
 | (refine And.intro (fun h => h) (Or.inl ?_))
 | (refine And.intro (fun _ => rfl) (Or.inl ?_))
 | (refine And.intro (fun h => Bool.noConfusion h) (Or.inl ?_))
 | (with_reducible refine And.intro (fun _ => rfl) ?_)
 | ((with_reducible refine And.intro ?_ ?_) <;> conv => whnf)
 | (refine congrArg (Value.int _) ?_)
 | (refine congrArg (SV.arr _) ?_)
 | (refine congrArg Value.bool ?_))
    · rintro ⟨w, ys⟩ ⟨hw, hys⟩
      dsimp only at hw hys ⊢
      have hyl : ys.length = fl.length + 1 := by rw [hys, List.length_set, hxl]
      have hyl' : @List.length (List (Ty.int .i64).T) ys = fl.length + 1 := hyl
      have hrow : ys.getD c [] = rowP T fl gs c w := by rw [hys, getD_set (by omega), if_pos rfl]
      have hrl : @List.length (Ty.int .i64).T (@List.getD (List (Ty.int .i64).T) ys (((c + 1 : Nat) : Int) - 1).toNat []) = w := by
        show (ys.getD (((c + 1 : Nat) : Int) - 1).toNat []).length = w
        rw [e0, hrow, rowP_len]
      have htab : ys.getD (c + 1) [] = tabF T (fl.drop (c + 1)) (gs.drop (c + 1)) := by rw [hys, getD_set (by omega), if_neg (by omega), hxs, afterX_get (by omega), if_pos (by omega)]
      by_cases hwT : w ≤ T
      · have hmost := most_at fl gs (((c + 1 : Nat) : Int) - 1) w (ys.getD (((c + 1 : Nat) : Int) - 1 + 1).toNat []) hG hl (fun i hi => h.val i hi) (by omega) (by omega) (by omega)
          (by rw [e1, htab, tabF_len]; omega) (by rw [e1, htab, tabF_len]; omega) (fun k => by
            rw [e1, htab]
            have := tabF_bound (T := T) (fs := fl.drop (c + 1)) (hG.drop (c + 1)) k
            have := (hG.drop (c + 1)).len
            omega)
        repeat' (first
 | refine W.seq ?_
 | refine W.block ?_
 | (refine W.drawTo (id := 14) tys_ok [] mixed [0, 1] 17 (by decide +kernel) ?_; conv => whnf)
 | (refine W.region tys_ok [] ?_; conv => whnf)
 | (refine W.drawAll tys_ok [] mixed rfl ?_; conv => whnf)
 | (refine W.ret ?_; conv => whnf)
 | (refine W.skip ?_; conv => whnf)
 | (refine W.exit ?_; conv => whnf)
 | (refine ⟨false, _, _, _, _, rfl, Path.imp_of (hmost), rfl, rfl, rfl, ?_⟩; conv => whnf)
 | (refine W.cond rfl (fun hb => ?_) (fun hb => ?_) <;> (try simp only [minL, maxL, pickB, getD_int, getD_sl, getD_bool, len_int, len_sl, len_bool, decide_eq_true_eq, decide_eq_false_iff_not, Bool.and_eq_true, Bool.or_eq_true, Bool.and_eq_false_iff, Bool.or_eq_false_iff, Bool.not_eq_true', Bool.not_eq_false', Int.toNat_natCast, Int.ofNat_lt, Int.ofNat_le, not_true_eq_false, not_false_eq_true, or_false, false_or, and_true, true_and, or_true, true_or, and_false, false_and] at hb) <;> (try (first | (cases hb; done) | exact absurd hb (by decide) | (exfalso; omega))))
 | ((with_reducible refine And.intro ?_ ?_); (focus ((repeat' (first | (with_reducible rfl) | (with_reducible refine And.intro ?_ ?_) | omega | rfl | exact Or.inl rfl | exact Or.inr rfl | (focus ((try simp only [minL, maxL, pickB, getD_int, getD_sl, getD_bool, len_int, len_sl, len_bool, decide_eq_true_eq, decide_eq_false_iff_not, Bool.and_eq_true, Bool.or_eq_true, Bool.and_eq_false_iff, Bool.or_eq_false_iff, Bool.not_eq_true', Bool.not_eq_false', Int.toNat_natCast, Int.ofNat_lt, Int.ofNat_le, not_true_eq_false, not_false_eq_true, or_false, false_or, and_true, true_and, or_true, true_or, and_false, false_and, InK, Path.imp, List.length_replicate, List.length_set, List.length_append, List.length_cons, List.length_nil] at *); omega)))); done)); (conv => whnf))
 | ((with_reducible refine And.intro (Side.out ?_) ?_); rotate_left; (conv => whnf))
 | (refine Exists.intro _ (And.intro rfl (And.intro rfl (And.intro ?_ ?_))) <;> (conv => whnf) <;> repeat' (first
 | exact trivial
 | rfl
 | (refine And.intro (fun h => h) (Or.inl ?_))
 | (refine And.intro (fun _ => rfl) (Or.inl ?_))
 | (refine And.intro (fun h => Bool.noConfusion h) (Or.inl ?_))
 | (with_reducible refine And.intro (fun _ => rfl) ?_)
 | ((with_reducible refine And.intro ?_ ?_) <;> conv => whnf)
 | (refine congrArg (Value.int _) ?_)
 | (refine congrArg (SV.arr _) ?_)
 | (refine congrArg Value.bool ?_)))); all_goals (try unfold Side)
        all_goals try (repeat' (first | (with_reducible rfl) | (with_reducible refine And.intro ?_ ?_) | omega | rfl | exact Or.inl rfl | exact Or.inr rfl | (focus ((try simp only [minL, maxL, pickB, getD_int, getD_sl, getD_bool, len_int, len_sl, len_bool, decide_eq_true_eq, decide_eq_false_iff_not, Bool.and_eq_true, Bool.or_eq_true, Bool.and_eq_false_iff, Bool.or_eq_false_iff, Bool.not_eq_true', Bool.not_eq_false', Int.toNat_natCast, Int.ofNat_lt, Int.ofNat_le, not_true_eq_false, not_false_eq_true, or_false, false_or, and_true, true_and, or_true, true_or, and_false, false_and, InK, Path.imp, List.length_replicate, List.length_set, List.length_append, List.length_cons, List.length_nil] at *); omega))))
        · refine ⟨(w + 1, xs.set c (rowP T fl gs c (w + 1))), ⟨⟨?_, rfl⟩, ?_⟩, ?_⟩
          · dsimp only; omega
          · dsimp only; omega
          · refine ⟨rfl, ?_, ?_⟩ <;> (conv => whnf) <;> repeat' (first
 | exact trivial
 | rfl
 | (refine And.intro (fun h => h) (Or.inl ?_))
 | (refine And.intro (fun _ => rfl) (Or.inl ?_))
 | (refine And.intro (fun h => Bool.noConfusion h) (Or.inl ?_))
 | (with_reducible refine And.intro (fun _ => rfl) ?_)
 | ((with_reducible refine And.intro ?_ ?_) <;> conv => whnf)
 | (refine congrArg (Value.int _) ?_)
 | (refine congrArg (SV.arr _) ?_)
 | (refine congrArg Value.bool ?_))
            show ys.set (((c + 1 : Nat) : Int) - 1).toNat (ys.getD (((c + 1 : Nat) : Int) - 1).toNat [] ++ ([_] : List Int)) = xs.set c (rowP T fl gs c (w + 1))
            rw [e0, e1, hrow, htab, hys, List.set_set, rowP_succ]
        · refine Nat.lt_of_lt_of_eq (m := fl.length + 1) (by omega) ?_
          exact (List.length_set.trans hyl').symm
        · refine ⟨by omega, Nat.lt_of_lt_of_eq (m := fl.length + 1) (by omega) ?_⟩
          exact (List.length_set.trans hyl').symm
        · show @List.length Int (ys.getD (((c + 1 : Nat) : Int) - 1).toNat []) + 1 ≤ 4294967296
          rw [e0, hrow, rowP_len]; omega
      · have hwe : w = T + 1 := by omega
        subst hwe
        repeat' (first
 | refine W.seq ?_
 | refine W.block ?_
 | (refine W.region tys_ok [] ?_; conv => whnf)
 | (refine W.drawAll tys_ok [] mixed rfl ?_; conv => whnf)
 | (refine W.ret ?_; conv => whnf)
 | (refine W.skip ?_; conv => whnf)
 | (refine W.exit ?_; conv => whnf)
 | (refine W.cond rfl (fun hb => ?_) (fun hb => ?_) <;> (try simp only [minL, maxL, pickB, getD_int, getD_sl, getD_bool, len_int, len_sl, len_bool, decide_eq_true_eq, decide_eq_false_iff_not, Bool.and_eq_true, Bool.or_eq_true, Bool.and_eq_false_iff, Bool.or_eq_false_iff, Bool.not_eq_true', Bool.not_eq_false', Int.toNat_natCast, Int.ofNat_lt, Int.ofNat_le, not_true_eq_false, not_false_eq_true, or_false, false_or, and_true, true_and, or_true, true_or, and_false, false_and] at hb) <;> (try (first | (cases hb; done) | exact absurd hb (by decide) | (exfalso; omega))))
 | ((with_reducible refine And.intro ?_ ?_); (focus ((repeat' (first | (with_reducible rfl) | (with_reducible refine And.intro ?_ ?_) | omega | rfl | exact Or.inl rfl | exact Or.inr rfl | (focus ((try simp only [minL, maxL, pickB, getD_int, getD_sl, getD_bool, len_int, len_sl, len_bool, decide_eq_true_eq, decide_eq_false_iff_not, Bool.and_eq_true, Bool.or_eq_true, Bool.and_eq_false_iff, Bool.or_eq_false_iff, Bool.not_eq_true', Bool.not_eq_false', Int.toNat_natCast, Int.ofNat_lt, Int.ofNat_le, not_true_eq_false, not_false_eq_true, or_false, false_or, and_true, true_and, or_true, true_or, and_false, false_and, InK, Path.imp, List.length_replicate, List.length_set, List.length_append, List.length_cons, List.length_nil] at *); omega)))); done)); (conv => whnf))
 | ((with_reducible refine And.intro (Side.out ?_) ?_); rotate_left; (conv => whnf))
 | (refine Exists.intro _ (And.intro rfl (And.intro rfl (And.intro ?_ ?_))) <;> (conv => whnf) <;> repeat' (first
 | exact trivial
 | rfl
 | (refine And.intro (fun h => h) (Or.inl ?_))
 | (refine And.intro (fun _ => rfl) (Or.inl ?_))
 | (refine And.intro (fun h => Bool.noConfusion h) (Or.inl ?_))
 | (with_reducible refine And.intro (fun _ => rfl) ?_)
 | ((with_reducible refine And.intro ?_ ?_) <;> conv => whnf)
 | (refine congrArg (Value.int _) ?_)
 | (refine congrArg (SV.arr _) ?_)
 | (refine congrArg Value.bool ?_)))); all_goals (try unfold Side)
        all_goals try (repeat' (first | (with_reducible rfl) | (with_reducible refine And.intro ?_ ?_) | omega | rfl | exact Or.inl rfl | exact Or.inr rfl | (focus ((try simp only [minL, maxL, pickB, getD_int, getD_sl, getD_bool, len_int, len_sl, len_bool, decide_eq_true_eq, decide_eq_false_iff_not, Bool.and_eq_true, Bool.or_eq_true, Bool.and_eq_false_iff, Bool.or_eq_false_iff, Bool.not_eq_true', Bool.not_eq_false', Int.toNat_natCast, Int.ofNat_lt, Int.ofNat_le, not_true_eq_false, not_false_eq_true, or_false, false_or, and_true, true_and, or_true, true_or, and_false, false_and, InK, Path.imp, List.length_replicate, List.length_set, List.length_append, List.length_cons, List.length_nil] at *); omega))))
        refine ⟨(c, ys), ⟨⟨?_, ?_⟩, ?_⟩, ?_⟩
        · dsimp only; omega
        · dsimp only
          rw [hys, rowP_full (by omega) hl, hxs, afterX_step (by omega)]
        · dsimp only; omega
        · refine ⟨rfl, ?_, ?_⟩ <;> (conv => whnf) <;> repeat' (first
 | exact trivial
 | rfl
 | (refine And.intro (fun h => h) (Or.inl ?_))
 | (refine And.intro (fun _ => rfl) (Or.inl ?_))
 | (refine And.intro (fun h => Bool.noConfusion h) (Or.inl ?_))
 | (with_reducible refine And.intro (fun _ => rfl) ?_)
 | ((with_reducible refine And.intro ?_ ?_) <;> conv => whnf)
 | (refine congrArg (Value.int _) ?_)
 | (refine congrArg (SV.arr _) ?_)
 | (refine congrArg Value.bool ?_))
          omega
  | zero =>
    repeat' (first
 | refine W.seq ?_
 | refine W.block ?_
 | (refine W.region tys_ok [] ?_; conv => whnf)
 | (refine W.drawAll tys_ok [] mixed rfl ?_; conv => whnf)
 | (refine W.ret ?_; conv => whnf)
 | (refine W.skip ?_; conv => whnf)
 | (refine W.exit ?_; conv => whnf)
 | (refine W.cond rfl (fun hb => ?_) (fun hb => ?_) <;> (try simp only [minL, maxL, pickB, getD_int, getD_sl, getD_bool, len_int, len_sl, len_bool, decide_eq_true_eq, decide_eq_false_iff_not, Bool.and_eq_true, Bool.or_eq_true, Bool.and_eq_false_iff, Bool.or_eq_false_iff, Bool.not_eq_true', Bool.not_eq_false', Int.toNat_natCast, Int.ofNat_lt, Int.ofNat_le, not_true_eq_false, not_false_eq_true, or_false, false_or, and_true, true_and, or_true, true_or, and_false, false_and] at hb) <;> (try (first | (cases hb; done) | exact absurd hb (by decide) | (exfalso; omega))))
 | ((with_reducible refine And.intro ?_ ?_); (focus ((repeat' (first | (with_reducible rfl) | (with_reducible refine And.intro ?_ ?_) | omega | rfl | exact Or.inl rfl | exact Or.inr rfl | (focus ((try simp only [minL, maxL, pickB, getD_int, getD_sl, getD_bool, len_int, len_sl, len_bool, decide_eq_true_eq, decide_eq_false_iff_not, Bool.and_eq_true, Bool.or_eq_true, Bool.and_eq_false_iff, Bool.or_eq_false_iff, Bool.not_eq_true', Bool.not_eq_false', Int.toNat_natCast, Int.ofNat_lt, Int.ofNat_le, not_true_eq_false, not_false_eq_true, or_false, false_or, and_true, true_and, or_true, true_or, and_false, false_and, InK, Path.imp, List.length_replicate, List.length_set, List.length_append, List.length_cons, List.length_nil] at *); omega)))); done)); (conv => whnf))
 | ((with_reducible refine And.intro (Side.out ?_) ?_); rotate_left; (conv => whnf))
 | (refine Exists.intro _ (And.intro rfl (And.intro rfl (And.intro ?_ ?_))) <;> (conv => whnf) <;> repeat' (first
 | exact trivial
 | rfl
 | (refine And.intro (fun h => h) (Or.inl ?_))
 | (refine And.intro (fun _ => rfl) (Or.inl ?_))
 | (refine And.intro (fun h => Bool.noConfusion h) (Or.inl ?_))
 | (with_reducible refine And.intro (fun _ => rfl) ?_)
 | ((with_reducible refine And.intro ?_ ?_) <;> conv => whnf)
 | (refine congrArg (Value.int _) ?_)
 | (refine congrArg (SV.arr _) ?_)
 | (refine congrArg Value.bool ?_)))); all_goals (try unfold Side)
    all_goals try (repeat' (first | (with_reducible rfl) | (with_reducible refine And.intro ?_ ?_) | omega | rfl | exact Or.inl rfl | exact Or.inr rfl | (focus ((try simp only [minL, maxL, pickB, getD_int, getD_sl, getD_bool, len_int, len_sl, len_bool, decide_eq_true_eq, decide_eq_false_iff_not, Bool.and_eq_true, Bool.or_eq_true, Bool.and_eq_false_iff, Bool.or_eq_false_iff, Bool.not_eq_true', Bool.not_eq_false', Int.toNat_natCast, Int.ofNat_lt, Int.ofNat_le, not_true_eq_false, not_false_eq_true, or_false, false_or, and_true, true_and, or_true, true_or, and_false, false_and, InK, Path.imp, List.length_replicate, List.length_set, List.length_append, List.length_cons, List.length_nil] at *); omega))))
    refine W.loop (fun x : Nat × Int => ⟨[(0, .st false (.arr (.int .i64) fl)), (1, .st false (.arr (.sl (.int .i64)) gs)), (6, .lit (.int .i64 (T : Int))), (8, .mown 31000), (11, .own 70000), (12, .lit (.int .i64 x.2)), (13, .lit (.int .i64 (x.1 : Int)))],
        [(31000, .mat 22 3 (.int .i64) true xs none), (70000, .row 3 (.int .i64) true ((bestL fl gs).take x.1))]⟩)
      (fun x => x.1 ≤ fl.length ∧ 0 ≤ x.2 ∧ x.2 + (fl.drop x.1).sum ≤ T ∧ LexOpt (fl.drop x.1) (gs.drop x.1) x.2 ((bestL fl gs).drop x.1)) (fun x => fl.length - x.1) (0, 0) ?_ ?_
    · refine ⟨⟨Nat.zero_le _, Int.le_refl _, ?_, h.lexOpt⟩, ?_⟩
      · rw [List.drop_zero, hT]; omega
      · refine ⟨rfl, ?_, ?_⟩ <;> (conv => whnf) <;> repeat' (first
 | exact trivial
 | rfl
 | (refine And.intro (fun h => h) (Or.inl ?_))
 | (refine And.intro (fun _ => rfl) (Or.inl ?_))
 | (refine And.intro (fun h => Bool.noConfusion h) (Or.inl ?_))
 | (with_reducible refine And.intro (fun _ => rfl) ?_)
 | ((with_reducible refine And.intro ?_ ?_) <;> conv => whnf)
 | (refine congrArg (Value.int _) ?_)
 | (refine congrArg (SV.arr _) ?_)
 | (refine congrArg Value.bool ?_))
    · rintro ⟨i, left⟩ ⟨hi, h0, h1, hopt⟩
      dsimp only at hi h0 h1 hopt ⊢
      have hbl := h.best_len
      have hxi : ∀ j, j ≤ fl.length → xs.getD j [] = tabF T (fl.drop j) (gs.drop j) := fun j hj => by rw [hxs, afterX_get (by omega), if_pos (by omega)]
      by_cases hil : i < fl.length
      · have hfi := h.val i hil
        have hsfx : Sfx (fl.drop i) (gs.drop i) := h.sfx.drop i
        have hsfx1 : Sfx (fl.drop (i + 1)) (gs.drop (i + 1)) := h.sfx.drop (i + 1)
        have eF : fl.drop i = fl.getD i 0 :: fl.drop (i + 1) := drop_getD 0 hil
        have eG : gs.drop i = gs.getD i [] :: gs.drop (i + 1) := drop_getD [] (by omega)
        have eB : (bestL fl gs).drop i = (bestL fl gs).getD i 0 :: (bestL fl gs).drop (i + 1) := drop_getD 0 (by omega)
        have hst := LexOpt.step (f := fl.getD i 0) (u := (bestL fl gs).getD i 0) (fs := fl.drop (i + 1)) (us := (bestL fl gs).drop (i + 1)) (g := gs.getD i []) (gs := gs.drop (i + 1)) (w := left) (by rw [← eF, ← eG]; exact hsfx) h0 (fun j hj => by rw [getD_drop]; have := hG.lens (i + 1 + j) (by rw [List.length_drop] at hj; omega); omega) (by rw [← eF, ← eG, ← eB]; exact hopt)
        obtain ⟨ho, hu0, hu1, hu2, hu3, hu4⟩ := hst
        rw [← eF, ← eG] at hu3 hu4
        have hsum : (fl.drop i).sum = fl.getD i 0 + (fl.drop (i + 1)).sum := by rw [eF, List.sum_cons]
        have hsn := sum_nonneg (fs := fl.drop (i + 1)) hsfx1.f0
        obtain ⟨u, hu⟩ : ∃ u : Nat, (bestL fl gs).getD i 0 = (u : Int) := ⟨((bestL fl gs).getD i 0).toNat, by omega⟩
        rw [hu] at ho hu0 hu1 hu2 hu3 hu4
        have e1 : ((i : Int) + 1).toNat = i + 1 := by omega
        have hbt : @List.length (Ty.int .i64).T ((bestL fl gs).take i) = i := by
          show ((bestL fl gs).take i).length = i
          rw [List.length_take]; omega
        have hr0 : @List.length (Ty.int .i64).T (@List.getD (List (Ty.int .i64).T) xs i []) = T + 1 := by
          show (xs.getD i []).length = T + 1
          rw [hxi i hi, tabF_len]
        have hr1 : @List.length (Ty.int .i64).T (@List.getD (List (Ty.int .i64).T) xs ((i : Int) + 1).toNat []) = T + 1 := by
          show (xs.getD ((i : Int) + 1).toNat []).length = T + 1
          rw [e1, hxi (i + 1) hil, tabF_len]
        repeat' (first
 | refine W.seq ?_
 | refine W.block ?_
 | (refine W.region tys_ok [] ?_; conv => whnf)
 | (refine W.drawAll tys_ok [] mixed rfl ?_; conv => whnf)
 | (refine W.ret ?_; conv => whnf)
 | (refine W.skip ?_; conv => whnf)
 | (refine W.exit ?_; conv => whnf)
 | (refine W.cond rfl (fun hb => ?_) (fun hb => ?_) <;> (try simp only [minL, maxL, pickB, getD_int, getD_sl, getD_bool, len_int, len_sl, len_bool, decide_eq_true_eq, decide_eq_false_iff_not, Bool.and_eq_true, Bool.or_eq_true, Bool.and_eq_false_iff, Bool.or_eq_false_iff, Bool.not_eq_true', Bool.not_eq_false', Int.toNat_natCast, Int.ofNat_lt, Int.ofNat_le, not_true_eq_false, not_false_eq_true, or_false, false_or, and_true, true_and, or_true, true_or, and_false, false_and] at hb) <;> (try (first | (cases hb; done) | exact absurd hb (by decide) | (exfalso; omega))))
 | ((with_reducible refine And.intro ?_ ?_); (focus ((repeat' (first | (with_reducible rfl) | (with_reducible refine And.intro ?_ ?_) | omega | rfl | exact Or.inl rfl | exact Or.inr rfl | (focus ((try simp only [minL, maxL, pickB, getD_int, getD_sl, getD_bool, len_int, len_sl, len_bool, decide_eq_true_eq, decide_eq_false_iff_not, Bool.and_eq_true, Bool.or_eq_true, Bool.and_eq_false_iff, Bool.or_eq_false_iff, Bool.not_eq_true', Bool.not_eq_false', Int.toNat_natCast, Int.ofNat_lt, Int.ofNat_le, not_true_eq_false, not_false_eq_true, or_false, false_or, and_true, true_and, or_true, true_or, and_false, false_and, InK, Path.imp, List.length_replicate, List.length_set, List.length_append, List.length_cons, List.length_nil] at *); omega)))); done)); (conv => whnf))
 | ((with_reducible refine And.intro (Side.out ?_) ?_); rotate_left; (conv => whnf))
 | (refine Exists.intro _ (And.intro rfl (And.intro rfl (And.intro ?_ ?_))) <;> (conv => whnf) <;> repeat' (first
 | exact trivial
 | rfl
 | (refine And.intro (fun h => h) (Or.inl ?_))
 | (refine And.intro (fun _ => rfl) (Or.inl ?_))
 | (refine And.intro (fun h => Bool.noConfusion h) (Or.inl ?_))
 | (with_reducible refine And.intro (fun _ => rfl) ?_)
 | ((with_reducible refine And.intro ?_ ?_) <;> conv => whnf)
 | (refine congrArg (Value.int _) ?_)
 | (refine congrArg (SV.arr _) ?_)
 | (refine congrArg Value.bool ?_)))); all_goals (try unfold Side)
        all_goals try (repeat' (first | (with_reducible rfl) | (with_reducible refine And.intro ?_ ?_) | omega | rfl | exact Or.inl rfl | exact Or.inr rfl | (focus ((try simp only [minL, maxL, pickB, getD_int, getD_sl, getD_bool, len_int, len_sl, len_bool, decide_eq_true_eq, decide_eq_false_iff_not, Bool.and_eq_true, Bool.or_eq_true, Bool.and_eq_false_iff, Bool.or_eq_false_iff, Bool.not_eq_true', Bool.not_eq_false', Int.toNat_natCast, Int.ofNat_lt, Int.ofNat_le, not_true_eq_false, not_false_eq_true, or_false, false_or, and_true, true_and, or_true, true_or, and_false, false_and, InK, Path.imp, List.length_replicate, List.length_set, List.length_append, List.length_cons, List.length_nil] at *); omega))))
        refine W.loop (fun x : Nat => ⟨[(0, .st false (.arr (.int .i64) fl)), (1, .st false (.arr (.sl (.int .i64)) gs)), (6, .lit (.int .i64 (T : Int))), (8, .mown 31000), (11, .own 70000), (12, .lit (.int .i64 left)), (13, .lit (.int .i64 (i : Int))), (14, .lit (.int .i64 (x : Int)))],
            [(31000, .mat 22 3 (.int .i64) true xs none), (70000, .row 3 (.int .i64) true ((bestL fl gs).take i))]⟩)
          (fun x => x ≤ u) (fun x => u - x) 0 ?_ ?_
        · refine ⟨Nat.zero_le _, ?_⟩
          refine ⟨rfl, ?_, ?_⟩ <;> (conv => whnf) <;> repeat' (first
 | exact trivial
 | rfl
 | (refine And.intro (fun h => h) (Or.inl ?_))
 | (refine And.intro (fun _ => rfl) (Or.inl ?_))
 | (refine And.intro (fun h => Bool.noConfusion h) (Or.inl ?_))
 | (with_reducible refine And.intro (fun _ => rfl) ?_)
 | ((with_reducible refine And.intro ?_ ?_) <;> conv => whnf)
 | (refine congrArg (Value.int _) ?_)
 | (refine congrArg (SV.arr _) ?_)
 | (refine congrArg Value.bool ?_))
        · intro x hx
          have hg := gain_at (gs.getD i []) x (by omega) (by have := hG.lens i (by omega); omega) (fun j hj => by have := hG.val i (by omega) j hj; omega)
          have ht1 : (xs.getD ((i : Int) + 1).toNat []).getD (min (T : Int) (left + fl.getD i 0 - x)).toNat 0 = mx (fl.drop (i + 1)) (gs.drop (i + 1)) (left + fl.getD i 0 - x) := by
            rw [e1, hxi (i + 1) hil, show min (T : Int) (left + fl.getD i 0 - x) = left + fl.getD i 0 - x from by omega, tabF_eq hsfx1 (by omega) (by omega)]
          have ht0 : (xs.getD i []).getD left.toNat 0 = mx (fl.drop i) (gs.drop i) left := by
            rw [hxi i hi, tabF_eq hsfx h0 h1]
          repeat' (first
 | refine W.seq ?_
 | refine W.block ?_
 | (refine W.drawTo (id := 22) tys_ok [] mixed [0, 1, 4, 5, 6, 7, 8, 9, 10, 11] 3 (by decide +kernel) ?_; conv => whnf)
 | (refine W.region tys_ok [] ?_; conv => whnf)
 | (refine W.drawAll tys_ok [] mixed rfl ?_; conv => whnf)
 | (refine W.ret ?_; conv => whnf)
 | (refine W.skip ?_; conv => whnf)
 | (refine W.exit ?_; conv => whnf)
 | (refine ⟨false, _, _, _, _, rfl, Path.imp_of (hg), rfl, rfl, rfl, ?_⟩; conv => whnf)
 | (refine W.cond rfl (fun hb => ?_) (fun hb => ?_) <;> (try simp only [minL, maxL, pickB, getD_int, getD_sl, getD_bool, len_int, len_sl, len_bool, decide_eq_true_eq, decide_eq_false_iff_not, Bool.and_eq_true, Bool.or_eq_true, Bool.and_eq_false_iff, Bool.or_eq_false_iff, Bool.not_eq_true', Bool.not_eq_false', Int.toNat_natCast, Int.ofNat_lt, Int.ofNat_le, not_true_eq_false, not_false_eq_true, or_false, false_or, and_true, true_and, or_true, true_or, and_false, false_and] at hb) <;> (try (first | (cases hb; done) | exact absurd hb (by decide) | (exfalso; omega))))
 | ((with_reducible refine And.intro ?_ ?_); (focus ((repeat' (first | (with_reducible rfl) | (with_reducible refine And.intro ?_ ?_) | omega | rfl | exact Or.inl rfl | exact Or.inr rfl | (focus ((try simp only [minL, maxL, pickB, getD_int, getD_sl, getD_bool, len_int, len_sl, len_bool, decide_eq_true_eq, decide_eq_false_iff_not, Bool.and_eq_true, Bool.or_eq_true, Bool.and_eq_false_iff, Bool.or_eq_false_iff, Bool.not_eq_true', Bool.not_eq_false', Int.toNat_natCast, Int.ofNat_lt, Int.ofNat_le, not_true_eq_false, not_false_eq_true, or_false, false_or, and_true, true_and, or_true, true_or, and_false, false_and, InK, Path.imp, List.length_replicate, List.length_set, List.length_append, List.length_cons, List.length_nil] at *); omega)))); done)); (conv => whnf))
 | ((with_reducible refine And.intro (Side.out ?_) ?_); rotate_left; (conv => whnf))
 | (refine Exists.intro _ (And.intro rfl (And.intro rfl (And.intro ?_ ?_))) <;> (conv => whnf) <;> repeat' (first
 | exact trivial
 | rfl
 | (refine And.intro (fun h => h) (Or.inl ?_))
 | (refine And.intro (fun _ => rfl) (Or.inl ?_))
 | (refine And.intro (fun h => Bool.noConfusion h) (Or.inl ?_))
 | (with_reducible refine And.intro (fun _ => rfl) ?_)
 | ((with_reducible refine And.intro ?_ ?_) <;> conv => whnf)
 | (refine congrArg (Value.int _) ?_)
 | (refine congrArg (SV.arr _) ?_)
 | (refine congrArg Value.bool ?_)))); all_goals (try unfold Side)
          all_goals try (repeat' (first | (with_reducible rfl) | (with_reducible refine And.intro ?_ ?_) | omega | rfl | exact Or.inl rfl | exact Or.inr rfl | (focus ((try simp only [minL, maxL, pickB, getD_int, getD_sl, getD_bool, len_int, len_sl, len_bool, decide_eq_true_eq, decide_eq_false_iff_not, Bool.and_eq_true, Bool.or_eq_true, Bool.and_eq_false_iff, Bool.or_eq_false_iff, Bool.not_eq_true', Bool.not_eq_false', Int.toNat_natCast, Int.ofNat_lt, Int.ofNat_le, not_true_eq_false, not_false_eq_true, or_false, false_or, and_true, true_and, or_true, true_or, and_false, false_and, InK, Path.imp, List.length_replicate, List.length_set, List.length_append, List.length_cons, List.length_nil] at *); omega))))
          · rename_i hb
            have hb : ((gs.getD i []).take x).sum + (xs.getD ((i : Int) + 1).toNat []).getD (min (T : Int) (left + fl.getD i 0 - x)).toNat 0 = (xs.getD i []).getD left.toNat 0 := of_decide_eq_true hb
            have hxu : x = u := by
              by_cases e : x = u
              · exact e
              · exact absurd ((congrArg (fun t => ((gs.getD i []).take x).sum + t) ht1).symm.trans (hb.trans ht0)) (hu4 x (by omega))
            subst hxu
            refine ⟨(i + 1, left + fl.getD i 0 - x), ⟨⟨?_, ?_, ?_, ?_⟩, ?_⟩, ?_⟩
            · exact hil
            · dsimp only; omega
            · dsimp only; omega
            · exact ho
            · dsimp only; omega
            · refine ⟨rfl, ?_, ?_⟩ <;> (conv => whnf) <;> repeat' (first
 | exact trivial
 | rfl
 | (refine And.intro (fun h => h) (Or.inl ?_))
 | (refine And.intro (fun _ => rfl) (Or.inl ?_))
 | (refine And.intro (fun h => Bool.noConfusion h) (Or.inl ?_))
 | (with_reducible refine And.intro (fun _ => rfl) ?_)
 | ((with_reducible refine And.intro ?_ ?_) <;> conv => whnf)
 | (refine congrArg (Value.int _) ?_)
 | (refine congrArg (SV.arr _) ?_)
 | (refine congrArg Value.bool ?_))
              show (bestL fl gs).take i ++ [(x : Int)] = (bestL fl gs).take (i + 1)
              rw [← hu, take_getD (by omega)]
          rotate_left
          · rename_i hb
            have hb : ¬ (((gs.getD i []).take x).sum + (xs.getD ((i : Int) + 1).toNat []).getD (min (T : Int) (left + fl.getD i 0 - x)).toNat 0 = (xs.getD i []).getD left.toNat 0) := of_decide_eq_false hb
            have hxu : x ≠ u := by
              intro e
              subst e
              exact hb ((congrArg (fun t => ((gs.getD i []).take x).sum + t) ht1).trans (hu3.trans ht0.symm))
            refine ⟨x + 1, ⟨by omega, by omega⟩, ?_⟩
            refine ⟨rfl, ?_, ?_⟩ <;> (conv => whnf) <;> repeat' (first
 | exact trivial
 | rfl
 | (refine And.intro (fun h => h) (Or.inl ?_))
 | (refine And.intro (fun _ => rfl) (Or.inl ?_))
 | (refine And.intro (fun h => Bool.noConfusion h) (Or.inl ?_))
 | (with_reducible refine And.intro (fun _ => rfl) ?_)
 | ((with_reducible refine And.intro ?_ ?_) <;> conv => whnf)
 | (refine congrArg (Value.int _) ?_)
 | (refine congrArg (SV.arr _) ?_)
 | (refine congrArg Value.bool ?_))
          · show InK .i64 (((gs.getD i []).take x).sum + (xs.getD ((i : Int) + 1).toNat []).getD (min (T : Int) (left + fl.getD i 0 - x)).toNat 0)
            rw [ht1]
            have := hG.take_sum i x
            have := tabF_bound (T := T) (fs := fl.drop (i + 1)) (hG.drop (i + 1)) (left + fl.getD i 0 - x).toNat
            rw [tabF_eq hsfx1 (by omega) (by omega)] at this
            have := (hG.drop (i + 1)).len
            (repeat' (first | (with_reducible rfl) | (with_reducible refine And.intro ?_ ?_) | omega | rfl | exact Or.inl rfl | exact Or.inr rfl | (focus ((try simp only [minL, maxL, pickB, getD_int, getD_sl, getD_bool, len_int, len_sl, len_bool, decide_eq_true_eq, decide_eq_false_iff_not, Bool.and_eq_true, Bool.or_eq_true, Bool.and_eq_false_iff, Bool.or_eq_false_iff, Bool.not_eq_true', Bool.not_eq_false', Int.toNat_natCast, Int.ofNat_lt, Int.ofNat_le, not_true_eq_false, not_false_eq_true, or_false, false_or, and_true, true_and, or_true, true_or, and_false, false_and, InK, Path.imp, List.length_replicate, List.length_set, List.length_append, List.length_cons, List.length_nil] at *); omega))))
          · show @List.length (Ty.int .i64).T ((bestL fl gs).take i) + 1 ≤ 4294967296
            omega
      · have hie : i = fl.length := by omega
        subst hie
        have hr0 : @List.length (Ty.int .i64).T (@List.getD (List (Ty.int .i64).T) xs 0 []) = T + 1 := by
          show (xs.getD 0 []).length = T + 1
          rw [hxi 0 (Nat.zero_le _), tabF_len]
        have hr1 : Int.toNat 0 < @List.length (Ty.int .i64).T (@List.getD (List (Ty.int .i64).T) xs (Int.toNat 0) []) := by
          show 0 < @List.length (Ty.int .i64).T (@List.getD (List (Ty.int .i64).T) xs 0 [])
          omega
        repeat' (first
 | refine W.seq ?_
 | refine W.block ?_
 | (refine W.region tys_ok [] ?_; conv => whnf)
 | (refine W.drawAll tys_ok [] mixed rfl ?_; conv => whnf)
 | (refine W.ret ?_; conv => whnf)
 | (refine W.skip ?_; conv => whnf)
 | (refine W.exit ?_; conv => whnf)
 | (refine W.cond rfl (fun hb => ?_) (fun hb => ?_) <;> (try simp only [minL, maxL, pickB, getD_int, getD_sl, getD_bool, len_int, len_sl, len_bool, decide_eq_true_eq, decide_eq_false_iff_not, Bool.and_eq_true, Bool.or_eq_true, Bool.and_eq_false_iff, Bool.or_eq_false_iff, Bool.not_eq_true', Bool.not_eq_false', Int.toNat_natCast, Int.ofNat_lt, Int.ofNat_le, not_true_eq_false, not_false_eq_true, or_false, false_or, and_true, true_and, or_true, true_or, and_false, false_and] at hb) <;> (try (first | (cases hb; done) | exact absurd hb (by decide) | (exfalso; omega))))
 | ((with_reducible refine And.intro ?_ ?_); (focus ((repeat' (first | (with_reducible rfl) | (with_reducible refine And.intro ?_ ?_) | omega | rfl | exact Or.inl rfl | exact Or.inr rfl | (focus ((try simp only [minL, maxL, pickB, getD_int, getD_sl, getD_bool, len_int, len_sl, len_bool, decide_eq_true_eq, decide_eq_false_iff_not, Bool.and_eq_true, Bool.or_eq_true, Bool.and_eq_false_iff, Bool.or_eq_false_iff, Bool.not_eq_true', Bool.not_eq_false', Int.toNat_natCast, Int.ofNat_lt, Int.ofNat_le, not_true_eq_false, not_false_eq_true, or_false, false_or, and_true, true_and, or_true, true_or, and_false, false_and, InK, Path.imp, List.length_replicate, List.length_set, List.length_append, List.length_cons, List.length_nil] at *); omega)))); done)); (conv => whnf))
 | ((with_reducible refine And.intro (Side.out ?_) ?_); rotate_left; (conv => whnf))
 | (refine Exists.intro _ (And.intro rfl (And.intro rfl (And.intro ?_ ?_))) <;> (conv => whnf) <;> repeat' (first
 | exact trivial
 | rfl
 | (refine And.intro (fun h => h) (Or.inl ?_))
 | (refine And.intro (fun _ => rfl) (Or.inl ?_))
 | (refine And.intro (fun h => Bool.noConfusion h) (Or.inl ?_))
 | (with_reducible refine And.intro (fun _ => rfl) ?_)
 | ((with_reducible refine And.intro ?_ ?_) <;> conv => whnf)
 | (refine congrArg (Value.int _) ?_)
 | (refine congrArg (SV.arr _) ?_)
 | (refine congrArg Value.bool ?_)))); all_goals (try unfold Side)
        all_goals try (repeat' (first | (with_reducible rfl) | (with_reducible refine And.intro ?_ ?_) | omega | rfl | exact Or.inl rfl | exact Or.inr rfl | (focus ((try simp only [minL, maxL, pickB, getD_int, getD_sl, getD_bool, len_int, len_sl, len_bool, decide_eq_true_eq, decide_eq_false_iff_not, Bool.and_eq_true, Bool.or_eq_true, Bool.and_eq_false_iff, Bool.or_eq_false_iff, Bool.not_eq_true', Bool.not_eq_false', Int.toNat_natCast, Int.ofNat_lt, Int.ofNat_le, not_true_eq_false, not_false_eq_true, or_false, false_or, and_true, true_and, or_true, true_or, and_false, false_and, InK, Path.imp, List.length_replicate, List.length_set, List.length_append, List.length_cons, List.length_nil] at *); omega))))
        · show (xs.getD 0 []).getD 0 0 = val fl gs
          rw [hxi 0 (Nat.zero_le _), ← h.mx]
          exact tabF_eq h.sfx (Int.le_refl 0) (by rw [hT]; omega)
        · show (bestL fl gs).take fl.length = bestL fl gs
          rw [← hbl, List.take_length]
end Go.Proofs.Ytohfemfgnohhdaa
/- WaterBests: the law returns true. No condition. -/
namespace Go.Proofs.Ytohfemfgnohhdaa
open Go Go.Vc
set_option linter.unusedVariables false
set_option linter.unusedSimpArgs false

theorem same_self (a : List Int) (hn : a.length ≤ 1000) : FnAt Try.prog false 20 [.arr (.int .i64) a, .arr (.int .i64) a] (.lit (.bool true)) [] := by
  have h := same_at a a hn hn
  rwa [decide_eq_true rfl] at h
set_option maxHeartbeats 2000000 in
theorem WaterBests_at (fl : List Int) (gs : List (List Int)) : FnAt Try.prog false 3 [.agg [.arr (.int .i64) fl, .arr (.sl (.int .i64)) gs]] (.lit (.bool true)) [] := by
  obtain ⟨F, hF⟩ : ∃ F, F = fl.take 9 := ⟨_, rfl⟩
  obtain ⟨G, hG⟩ : ∃ G, G = fewG gs := ⟨_, rfl⟩
  have hfew := few_eq hF hG
  obtain ⟨hl1, hl2, hl3⟩ := (few_few hF hG).len
  clear hF hG
  have hRv := River_ref F G hl1 hl2 hl3
  have hB := Best_ok F G hl1 hl2 hl3
  cases hok : riverOk F G with
  | false =>
    rw [hok] at hRv hB
    dsimp only [cond_false] at hB
    refine FnAt.of_body tys_ok Try.func3 (by rfl) rfl Try.ntmps3 (by rw [Try.results3]) (by simp) ?_
  
    repeat' (first
 | refine W.seq ?_
 | refine W.block ?_
 | (refine W.region tys_ok [] ?_; conv => whnf)
 | (refine W.drawAll tys_ok [] mixed rfl ?_; conv => whnf)
 | (refine W.ret ?_; conv => whnf)
 | (refine W.skip ?_; conv => whnf)
 | (refine W.exit ?_; conv => whnf)
 | (refine call_at (al := false) (hfew) rfl rfl rfl rfl ?_; conv => whnf)
 | (refine call_at (al := false) (hRv) rfl rfl rfl rfl ?_; conv => whnf)
 | (refine call_at (al := false) (hB) rfl rfl rfl rfl ?_; conv => whnf)
 | (refine call_at (al := false) (lives_at) rfl rfl rfl rfl ?_; conv => whnf)

    | (refine W.cond rfl (fun hb => ?_) (fun hb => ?_) <;> (try simp only [minL, maxL, pickB, getD_int, getD_sl, getD_bool, len_int, len_sl, len_bool, decide_eq_true_eq, decide_eq_false_iff_not, Bool.and_eq_true, Bool.or_eq_true, Bool.and_eq_false_iff, Bool.or_eq_false_iff, Bool.not_eq_true', Bool.not_eq_false', Bool.true_eq_false, Bool.false_eq_true, Int.toNat_natCast, Int.ofNat_lt, Int.ofNat_le, not_true_eq_false, not_false_eq_true, or_false, false_or, and_true, true_and, or_true, true_or, and_false, false_and] at hb) <;> (try (first | (cases hb; done) | exact absurd hb (by decide) | (exfalso; omega))))
    | ((with_reducible refine And.intro ?_ ?_); (focus ((repeat' (first | (with_reducible rfl) | (with_reducible refine And.intro ?_ ?_) | omega | rfl | exact Or.inl rfl | exact Or.inr rfl | (focus ((try simp only [minL, maxL, pickB, getD_int, getD_sl, getD_bool, len_int, len_sl, len_bool, decide_eq_true_eq, decide_eq_false_iff_not, Bool.and_eq_true, Bool.or_eq_true, Bool.and_eq_false_iff, Bool.or_eq_false_iff, Bool.not_eq_true', Bool.not_eq_false', Bool.true_eq_false, Bool.false_eq_true, Int.toNat_natCast, Int.ofNat_lt, Int.ofNat_le, not_true_eq_false, not_false_eq_true, or_false, false_or, and_true, true_and, or_true, true_or, and_false, false_and, InK, Path.imp, List.length_replicate, List.length_set, List.length_append, List.length_cons, List.length_nil] at *); omega)) | (refine app_le rfl ?_; omega))); done)); (conv => whnf))
    | ((with_reducible refine And.intro (Side.out ?_) ?_); rotate_left; (conv => whnf))
    | (refine retF1 ?_ <;> (conv => whnf) <;> repeat' (first
 | exact trivial
 | (with_reducible rfl)
 | ((with_reducible refine And.intro ?_ ?_) <;> conv => whnf)
 | omega
 | rfl
 | (refine congrArg (SV.arr _) ?_)
 | (refine congrArg (Value.int _) ?_)
 | (refine congrArg Value.bool ?_)))
 | (refine retF2 ?_ <;> (conv => whnf) <;> repeat' (first
 | exact trivial
 | (with_reducible rfl)
 | ((with_reducible refine And.intro ?_ ?_) <;> conv => whnf)
 | omega
 | rfl
 | (refine congrArg (SV.arr _) ?_)
 | (refine congrArg (Value.int _) ?_)
 | (refine congrArg Value.bool ?_)))); all_goals (try unfold Side)
    all_goals try (repeat' (first | (with_reducible rfl) | (with_reducible refine And.intro ?_ ?_) | omega | rfl | exact Or.inl rfl | exact Or.inr rfl | (focus ((try simp only [minL, maxL, pickB, getD_int, getD_sl, getD_bool, len_int, len_sl, len_bool, decide_eq_true_eq, decide_eq_false_iff_not, Bool.and_eq_true, Bool.or_eq_true, Bool.and_eq_false_iff, Bool.or_eq_false_iff, Bool.not_eq_true', Bool.not_eq_false', Bool.true_eq_false, Bool.false_eq_true, Int.toNat_natCast, Int.ofNat_lt, Int.ofNat_le, not_true_eq_false, not_false_eq_true, or_false, false_or, and_true, true_and, or_true, true_or, and_false, false_and, InK, Path.imp, List.length_replicate, List.length_set, List.length_append, List.length_cons, List.length_nil] at *); omega)) | (refine app_le rfl ?_; omega)))
  | true =>
    rw [hok] at hRv hB
    dsimp only [cond_true] at hB
    have hR := riverOk.riv hok
    have hBr := Best_ref F G hR
    have hbl := hR.best_len
    have hl8 := hR.g.len
    have hll := hR.len
    have hs := same_self (bestL F G) (by omega)
    refine FnAt.of_body tys_ok Try.func3 (by rfl) rfl Try.ntmps3 (by rw [Try.results3]) (by simp) ?_
  
    repeat' (first
 | refine W.seq ?_
 | refine W.block ?_
 | (refine W.region tys_ok [] ?_; conv => whnf)
 | (refine W.drawAll tys_ok [] mixed rfl ?_; conv => whnf)
 | (refine W.ret ?_; conv => whnf)
 | (refine W.skip ?_; conv => whnf)
 | (refine W.exit ?_; conv => whnf)
 | (refine call_at (al := false) (hfew) rfl rfl rfl rfl ?_; conv => whnf)
 | (refine call_at (al := false) (hRv) rfl rfl rfl rfl ?_; conv => whnf)
 | (refine call_at (al := false) (hB) rfl rfl rfl rfl ?_; conv => whnf)
 | (refine call_at (al := false) (hBr) rfl rfl rfl rfl ?_; conv => whnf)
 | (refine call_at (al := false) (hs) rfl rfl rfl rfl ?_; conv => whnf)
 | (refine call_at (al := false) (lives_at) rfl rfl rfl rfl ?_; conv => whnf)

    | (refine W.cond rfl (fun hb => ?_) (fun hb => ?_) <;> (try simp only [minL, maxL, pickB, getD_int, getD_sl, getD_bool, len_int, len_sl, len_bool, decide_eq_true_eq, decide_eq_false_iff_not, Bool.and_eq_true, Bool.or_eq_true, Bool.and_eq_false_iff, Bool.or_eq_false_iff, Bool.not_eq_true', Bool.not_eq_false', Bool.true_eq_false, Bool.false_eq_true, Int.toNat_natCast, Int.ofNat_lt, Int.ofNat_le, not_true_eq_false, not_false_eq_true, or_false, false_or, and_true, true_and, or_true, true_or, and_false, false_and] at hb) <;> (try (first | (cases hb; done) | exact absurd hb (by decide) | (exfalso; omega))))
    | ((with_reducible refine And.intro ?_ ?_); (focus ((repeat' (first | (with_reducible rfl) | (with_reducible refine And.intro ?_ ?_) | omega | rfl | exact Or.inl rfl | exact Or.inr rfl | (focus ((try simp only [minL, maxL, pickB, getD_int, getD_sl, getD_bool, len_int, len_sl, len_bool, decide_eq_true_eq, decide_eq_false_iff_not, Bool.and_eq_true, Bool.or_eq_true, Bool.and_eq_false_iff, Bool.or_eq_false_iff, Bool.not_eq_true', Bool.not_eq_false', Bool.true_eq_false, Bool.false_eq_true, Int.toNat_natCast, Int.ofNat_lt, Int.ofNat_le, not_true_eq_false, not_false_eq_true, or_false, false_or, and_true, true_and, or_true, true_or, and_false, false_and, InK, Path.imp, List.length_replicate, List.length_set, List.length_append, List.length_cons, List.length_nil] at *); omega)) | (refine app_le rfl ?_; omega))); done)); (conv => whnf))
    | ((with_reducible refine And.intro (Side.out ?_) ?_); rotate_left; (conv => whnf))
    | (refine retF1 ?_ <;> (conv => whnf) <;> repeat' (first
 | exact trivial
 | (with_reducible rfl)
 | ((with_reducible refine And.intro ?_ ?_) <;> conv => whnf)
 | omega
 | rfl
 | (refine congrArg (SV.arr _) ?_)
 | (refine congrArg (Value.int _) ?_)
 | (refine congrArg Value.bool ?_)))
 | (refine retF2 ?_ <;> (conv => whnf) <;> repeat' (first
 | exact trivial
 | (with_reducible rfl)
 | ((with_reducible refine And.intro ?_ ?_) <;> conv => whnf)
 | omega
 | rfl
 | (refine congrArg (SV.arr _) ?_)
 | (refine congrArg (Value.int _) ?_)
 | (refine congrArg Value.bool ?_)))); all_goals (try unfold Side)
    all_goals try (repeat' (first | (with_reducible rfl) | (with_reducible refine And.intro ?_ ?_) | omega | rfl | exact Or.inl rfl | exact Or.inr rfl | (focus ((try simp only [minL, maxL, pickB, getD_int, getD_sl, getD_bool, len_int, len_sl, len_bool, decide_eq_true_eq, decide_eq_false_iff_not, Bool.and_eq_true, Bool.or_eq_true, Bool.and_eq_false_iff, Bool.or_eq_false_iff, Bool.not_eq_true', Bool.not_eq_false', Bool.true_eq_false, Bool.false_eq_true, Int.toNat_natCast, Int.ofNat_lt, Int.ofNat_le, not_true_eq_false, not_false_eq_true, or_false, false_or, and_true, true_and, or_true, true_or, and_false, false_and, InK, Path.imp, List.length_replicate, List.length_set, List.length_append, List.length_cons, List.length_nil] at *); omega)) | (refine app_le rfl ?_; omega)))
    simp [pickB]
end Go.Proofs.Ytohfemfgnohhdaa
/- The document's worth alone of a group, shares, prices. No condition. -/
namespace Go.Proofs.Ytohfemfgnohhdaa
open Go Go.Vc
set_option linter.unusedVariables false
set_option linter.unusedSimpArgs false

theorem app_le {a b N : Nat} (hb : b = 1) (h : a + 1 ≤ N) : a + b ≤ N := by omega
/-- How many numbers follow, each by one. -/
def runT (a : Int) : List Int → Nat
  | [] => 0
  | b :: r => if b = a + 1 then runT b r + 1 else 0
theorem runT_le : ∀ {a : Int} {r : List Int}, runT a r ≤ r.length
  | _, [] => Nat.le_refl _
  | a, b :: r => by
    simp only [runT]
    split
    · have := runT_le (a := b) (r := r); simp only [List.length_cons]; omega
    · omega
/-- The worth of places that follow each other. -/
def rowV (fl : List Int) (gs : List (List Int)) (a : Nat) (n : Nat) : Int := val ((fl.take (a + n)).drop a) ((gs.take (a + n)).drop a)
def aloneF (fl : List Int) (gs : List (List Int)) : Nat → List Int → Int
  | 0, _ => 0
  | _ + 1, [] => 0
  | k + 1, a :: r => rowV fl gs a.toNat (runT a r + 1) + aloneF fl gs k (r.drop (runT a r))
def aloneL (fl : List Int) (gs : List (List Int)) (g : List Int) : Int := aloneF fl gs g.length g
/-- Numbers that rise, each a place. -/
structure Grp (n : Nat) (g : List Int) : Prop where
  val : ∀ i, i < g.length → 0 ≤ g.getD i 0 ∧ g.getD i 0 < n
  rise : ∀ i, i + 1 < g.length → g.getD i 0 < g.getD (i + 1) 0

theorem Grp.mono {n : Nat} {g : List Int} (h : Grp n g) : ∀ {i j : Nat}, i < j → j < g.length → g.getD i 0 + ((j : Int) - i) ≤ g.getD j 0
  | i, 0, h1, _ => by omega
  | i, j + 1, h1, h2 => by
    have h3 := h.rise j h2
    by_cases e : i = j
    · subst e; omega
    · have := h.mono (i := i) (j := j) (by omega) (by omega); omega
theorem Grp.len {n : Nat} {g : List Int} (h : Grp n g) : g.length ≤ n := by
  by_cases e : g.length = 0
  · omega
  · have h1 := h.val 0 (by omega)
    have h2 := h.val (g.length - 1) (by omega)
    by_cases e2 : g.length = 1
    · omega
    · have := h.mono (i := 0) (j := g.length - 1) (by omega) (by omega); omega
theorem First_at (n : Nat) (hn : n ≤ 1000) : FnAt Try.prog false 54 [.lit (.int .i64 n)] (.own 0) [(0, .row 3 (.int .i64) true ((List.range n).map fun (i : Nat) => (i : Int)))] := by
  refine FnAt.of_body tys_ok Try.func54 (by rfl) rfl Try.ntmps54 (by rw [Try.results54]) (by simp) ?_
  
  repeat' (first
 | refine W.seq ?_
 | refine W.block ?_
 | (refine W.region tys_ok [] ?_; conv => whnf)
 | (refine W.drawAll tys_ok [] mixed rfl ?_; conv => whnf)
 | (refine W.ret ?_; conv => whnf)
 | (refine W.skip ?_; conv => whnf)
 | (refine W.exit ?_; conv => whnf)

    | (refine W.cond rfl (fun hb => ?_) (fun hb => ?_) <;> (try simp only [minL, maxL, pickB, getD_int, getD_sl, getD_bool, len_int, len_sl, len_bool, decide_eq_true_eq, decide_eq_false_iff_not, Bool.and_eq_true, Bool.or_eq_true, Bool.and_eq_false_iff, Bool.or_eq_false_iff, Bool.not_eq_true', Bool.not_eq_false', Bool.true_eq_false, Bool.false_eq_true, Int.toNat_natCast, Int.ofNat_lt, Int.ofNat_le, not_true_eq_false, not_false_eq_true, or_false, false_or, and_true, true_and, or_true, true_or, and_false, false_and] at hb) <;> (try (first | (cases hb; done) | exact absurd hb (by decide) | (exfalso; omega))))
    | ((with_reducible refine And.intro ?_ ?_); (focus ((repeat' (first | (with_reducible rfl) | (with_reducible refine And.intro ?_ ?_) | omega | rfl | exact Or.inl rfl | exact Or.inr rfl | (focus ((try simp only [minL, maxL, pickB, getD_int, getD_sl, getD_bool, len_int, len_sl, len_bool, decide_eq_true_eq, decide_eq_false_iff_not, Bool.and_eq_true, Bool.or_eq_true, Bool.and_eq_false_iff, Bool.or_eq_false_iff, Bool.not_eq_true', Bool.not_eq_false', Bool.true_eq_false, Bool.false_eq_true, Int.toNat_natCast, Int.ofNat_lt, Int.ofNat_le, not_true_eq_false, not_false_eq_true, or_false, false_or, and_true, true_and, or_true, true_or, and_false, false_and, InK, Path.imp, List.length_replicate, List.length_set, List.length_append, List.length_cons, List.length_nil] at *); omega)) | (refine app_le rfl ?_; omega))); done)); (conv => whnf))
    | ((with_reducible refine And.intro (Side.out ?_) ?_); rotate_left; (conv => whnf))
    | (refine retF1 ?_ <;> (conv => whnf) <;> repeat' (first
 | exact trivial
 | (with_reducible rfl)
 | ((with_reducible refine And.intro ?_ ?_) <;> conv => whnf)
 | omega
 | rfl
 | (refine congrArg (SV.arr _) ?_)
 | (refine congrArg (Value.int _) ?_)
 | (refine congrArg Value.bool ?_)))
 | (refine retF2 ?_ <;> (conv => whnf) <;> repeat' (first
 | exact trivial
 | (with_reducible rfl)
 | ((with_reducible refine And.intro ?_ ?_) <;> conv => whnf)
 | omega
 | rfl
 | (refine congrArg (SV.arr _) ?_)
 | (refine congrArg (Value.int _) ?_)
 | (refine congrArg Value.bool ?_)))); all_goals (try unfold Side)
  refine W.loop (fun i : Nat => ⟨[(0, .lit (.int .i64 n)), (3, .own 6000), (4, .lit (.int .i64 i))], [(6000, .row 3 (.int .i64) true ((List.range i).map fun (i : Nat) => (i : Int)))]⟩)
    (fun i => i ≤ n) (fun i => n - i) 0 ?_ ?_
  · refine ⟨by simp, ?_⟩
    refine subF.ok ?_ <;> (conv => whnf) <;> repeat' (first
 | exact trivial
 | (with_reducible rfl)
 | ((with_reducible refine And.intro ?_ ?_) <;> conv => whnf)
 | omega
 | rfl
 | (refine congrArg (SV.arr _) ?_)
 | (refine congrArg (Value.int _) ?_)
 | (refine congrArg Value.bool ?_))
  · intro i hi
    have hl : @List.length (Ty.int .i64).T ((List.range i).map fun (i : Nat) => (i : Int)) = i := by
      show ((List.range i).map fun (i : Nat) => (i : Int)).length = i
      simp
    by_cases hin : i < n
    · repeat' (first
 | refine W.seq ?_
 | refine W.block ?_
 | (refine W.region tys_ok [] ?_; conv => whnf)
 | (refine W.drawAll tys_ok [] mixed rfl ?_; conv => whnf)
 | (refine W.ret ?_; conv => whnf)
 | (refine W.skip ?_; conv => whnf)
 | (refine W.exit ?_; conv => whnf)

    | (refine W.cond rfl (fun hb => ?_) (fun hb => ?_) <;> (try simp only [minL, maxL, pickB, getD_int, getD_sl, getD_bool, len_int, len_sl, len_bool, decide_eq_true_eq, decide_eq_false_iff_not, Bool.and_eq_true, Bool.or_eq_true, Bool.and_eq_false_iff, Bool.or_eq_false_iff, Bool.not_eq_true', Bool.not_eq_false', Bool.true_eq_false, Bool.false_eq_true, Int.toNat_natCast, Int.ofNat_lt, Int.ofNat_le, not_true_eq_false, not_false_eq_true, or_false, false_or, and_true, true_and, or_true, true_or, and_false, false_and] at hb) <;> (try (first | (cases hb; done) | exact absurd hb (by decide) | (exfalso; omega))))
    | ((with_reducible refine And.intro ?_ ?_); (focus ((repeat' (first | (with_reducible rfl) | (with_reducible refine And.intro ?_ ?_) | omega | rfl | exact Or.inl rfl | exact Or.inr rfl | (focus ((try simp only [minL, maxL, pickB, getD_int, getD_sl, getD_bool, len_int, len_sl, len_bool, decide_eq_true_eq, decide_eq_false_iff_not, Bool.and_eq_true, Bool.or_eq_true, Bool.and_eq_false_iff, Bool.or_eq_false_iff, Bool.not_eq_true', Bool.not_eq_false', Bool.true_eq_false, Bool.false_eq_true, Int.toNat_natCast, Int.ofNat_lt, Int.ofNat_le, not_true_eq_false, not_false_eq_true, or_false, false_or, and_true, true_and, or_true, true_or, and_false, false_and, InK, Path.imp, List.length_replicate, List.length_set, List.length_append, List.length_cons, List.length_nil] at *); omega)) | (refine app_le rfl ?_; omega))); done)); (conv => whnf))
    | ((with_reducible refine And.intro (Side.out ?_) ?_); rotate_left; (conv => whnf))
    | (refine retF1 ?_ <;> (conv => whnf) <;> repeat' (first
 | exact trivial
 | (with_reducible rfl)
 | ((with_reducible refine And.intro ?_ ?_) <;> conv => whnf)
 | omega
 | rfl
 | (refine congrArg (SV.arr _) ?_)
 | (refine congrArg (Value.int _) ?_)
 | (refine congrArg Value.bool ?_)))
 | (refine retF2 ?_ <;> (conv => whnf) <;> repeat' (first
 | exact trivial
 | (with_reducible rfl)
 | ((with_reducible refine And.intro ?_ ?_) <;> conv => whnf)
 | omega
 | rfl
 | (refine congrArg (SV.arr _) ?_)
 | (refine congrArg (Value.int _) ?_)
 | (refine congrArg Value.bool ?_)))); all_goals (try unfold Side)
      all_goals try (repeat' (first | (with_reducible rfl) | (with_reducible refine And.intro ?_ ?_) | omega | rfl | exact Or.inl rfl | exact Or.inr rfl | (focus ((try simp only [minL, maxL, pickB, getD_int, getD_sl, getD_bool, len_int, len_sl, len_bool, decide_eq_true_eq, decide_eq_false_iff_not, Bool.and_eq_true, Bool.or_eq_true, Bool.and_eq_false_iff, Bool.or_eq_false_iff, Bool.not_eq_true', Bool.not_eq_false', Bool.true_eq_false, Bool.false_eq_true, Int.toNat_natCast, Int.ofNat_lt, Int.ofNat_le, not_true_eq_false, not_false_eq_true, or_false, false_or, and_true, true_and, or_true, true_or, and_false, false_and, InK, Path.imp, List.length_replicate, List.length_set, List.length_append, List.length_cons, List.length_nil] at *); omega)) | (refine app_le rfl ?_; omega)))
      refine ⟨i + 1, ⟨by omega, by omega⟩, ?_⟩
      refine subF.ok ?_ <;> (conv => whnf) <;> repeat' (first
 | exact trivial
 | (with_reducible rfl)
 | ((with_reducible refine And.intro ?_ ?_) <;> conv => whnf)
 | omega
 | rfl
 | (refine congrArg (SV.arr _) ?_)
 | (refine congrArg (Value.int _) ?_)
 | (refine congrArg Value.bool ?_))
      show ((List.range i).map fun (i : Nat) => (i : Int)) ++ [(i : Int)] = (List.range (i + 1)).map fun (i : Nat) => (i : Int)
      rw [List.range_succ, List.map_append]; rfl
    · have hin' : i = n := by omega
      subst hin'
      repeat' (first
 | refine W.seq ?_
 | refine W.block ?_
 | (refine W.region tys_ok [] ?_; conv => whnf)
 | (refine W.drawAll tys_ok [] mixed rfl ?_; conv => whnf)
 | (refine W.ret ?_; conv => whnf)
 | (refine W.skip ?_; conv => whnf)
 | (refine W.exit ?_; conv => whnf)

    | (refine W.cond rfl (fun hb => ?_) (fun hb => ?_) <;> (try simp only [minL, maxL, pickB, getD_int, getD_sl, getD_bool, len_int, len_sl, len_bool, decide_eq_true_eq, decide_eq_false_iff_not, Bool.and_eq_true, Bool.or_eq_true, Bool.and_eq_false_iff, Bool.or_eq_false_iff, Bool.not_eq_true', Bool.not_eq_false', Bool.true_eq_false, Bool.false_eq_true, Int.toNat_natCast, Int.ofNat_lt, Int.ofNat_le, not_true_eq_false, not_false_eq_true, or_false, false_or, and_true, true_and, or_true, true_or, and_false, false_and] at hb) <;> (try (first | (cases hb; done) | exact absurd hb (by decide) | (exfalso; omega))))
    | ((with_reducible refine And.intro ?_ ?_); (focus ((repeat' (first | (with_reducible rfl) | (with_reducible refine And.intro ?_ ?_) | omega | rfl | exact Or.inl rfl | exact Or.inr rfl | (focus ((try simp only [minL, maxL, pickB, getD_int, getD_sl, getD_bool, len_int, len_sl, len_bool, decide_eq_true_eq, decide_eq_false_iff_not, Bool.and_eq_true, Bool.or_eq_true, Bool.and_eq_false_iff, Bool.or_eq_false_iff, Bool.not_eq_true', Bool.not_eq_false', Bool.true_eq_false, Bool.false_eq_true, Int.toNat_natCast, Int.ofNat_lt, Int.ofNat_le, not_true_eq_false, not_false_eq_true, or_false, false_or, and_true, true_and, or_true, true_or, and_false, false_and, InK, Path.imp, List.length_replicate, List.length_set, List.length_append, List.length_cons, List.length_nil] at *); omega)) | (refine app_le rfl ?_; omega))); done)); (conv => whnf))
    | ((with_reducible refine And.intro (Side.out ?_) ?_); rotate_left; (conv => whnf))
    | (refine retF1 ?_ <;> (conv => whnf) <;> repeat' (first
 | exact trivial
 | (with_reducible rfl)
 | ((with_reducible refine And.intro ?_ ?_) <;> conv => whnf)
 | omega
 | rfl
 | (refine congrArg (SV.arr _) ?_)
 | (refine congrArg (Value.int _) ?_)
 | (refine congrArg Value.bool ?_)))
 | (refine retF2 ?_ <;> (conv => whnf) <;> repeat' (first
 | exact trivial
 | (with_reducible rfl)
 | ((with_reducible refine And.intro ?_ ?_) <;> conv => whnf)
 | omega
 | rfl
 | (refine congrArg (SV.arr _) ?_)
 | (refine congrArg (Value.int _) ?_)
 | (refine congrArg Value.bool ?_)))); all_goals (try unfold Side)
      all_goals try (repeat' (first | (with_reducible rfl) | (with_reducible refine And.intro ?_ ?_) | omega | rfl | exact Or.inl rfl | exact Or.inr rfl | (focus ((try simp only [minL, maxL, pickB, getD_int, getD_sl, getD_bool, len_int, len_sl, len_bool, decide_eq_true_eq, decide_eq_false_iff_not, Bool.and_eq_true, Bool.or_eq_true, Bool.and_eq_false_iff, Bool.or_eq_false_iff, Bool.not_eq_true', Bool.not_eq_false', Bool.true_eq_false, Bool.false_eq_true, Int.toNat_natCast, Int.ofNat_lt, Int.ofNat_le, not_true_eq_false, not_false_eq_true, or_false, false_or, and_true, true_and, or_true, true_or, and_false, false_and, InK, Path.imp, List.length_replicate, List.length_set, List.length_append, List.length_cons, List.length_nil] at *); omega)) | (refine app_le rfl ?_; omega)))

theorem runT_drop {g : List Int} {i : Nat} : ∀ {k : Nat}, i < k → k ≤ g.length → (∀ j, i < j → j < k → g.getD j 0 = g.getD (j - 1) 0 + 1) → runT (g.getD i 0) (g.drop (i + 1)) = (k - 1 - i) + runT (g.getD (k - 1) 0) (g.drop k)
  | 0, h, _, _ => by omega
  | k + 1, h, hk, hj => by
    by_cases e : i = k
    · subst e; simp
    · rw [runT_drop (k := k) (by omega) (by omega) fun j h1 h2 => hj j h1 (by omega), drop_getD 0 (by omega : k < g.length)]
      simp only [runT]
      rw [if_pos (hj k (by omega) (by omega))]
      simp only [Nat.add_sub_cancel]
      omega
theorem runT_stop {g : List Int} {k : Nat} {a : Int} (h : ¬ (k < g.length ∧ g.getD k 0 = a + 1)) : runT a (g.drop k) = 0 := by
  by_cases hk : k < g.length
  · rw [drop_getD 0 hk]
    simp only [runT]
    rw [if_neg fun e => h ⟨hk, e⟩]
  · rw [List.drop_of_length_le (by omega)]; rfl
theorem aloneF_fuel {fl : List Int} {gs : List (List Int)} : ∀ {k m : Nat} {g : List Int}, g.length ≤ k → g.length ≤ m → aloneF fl gs k g = aloneF fl gs m g
  | k, m, [], _, _ => by cases k <;> cases m <;> rfl
  | 0, _, a :: r, h, _ => by simp at h
  | _, 0, a :: r, _, h => by simp at h
  | k + 1, m + 1, a :: r, h1, h2 => by
    simp only [aloneF]
    simp only [List.length_cons] at h1 h2
    rw [aloneF_fuel (k := k) (m := m) (by rw [List.length_drop]; omega) (by rw [List.length_drop]; omega)]
theorem aloneL_cons {fl : List Int} {gs : List (List Int)} {a : Int} {r : List Int} : aloneL fl gs (a :: r) = rowV fl gs a.toNat (runT a r + 1) + aloneL fl gs (r.drop (runT a r)) := by
  simp only [aloneL, aloneF, List.length_cons]
  rw [aloneF_fuel (k := r.length) (m := (r.drop (runT a r)).length) (by rw [List.length_drop]; omega) (Nat.le_refl _)]
theorem OkG.part {gs : List (List Int)} (h : OkG gs) (a b : Nat) : OkG ((gs.take b).drop a) := (h.take b).drop a
theorem Riv.part {fl : List Int} {gs : List (List Int)} (h : Riv fl gs) (a b : Nat) : Riv ((fl.take b).drop a) ((gs.take b).drop a) := by
  refine ⟨h.g.part a b, fun i hi => ?_, by simp [h.len], fun i hi => ?_⟩
  · rw [List.length_drop, List.length_take] at hi
    rw [getD_drop, getD_take (by omega)]
    exact h.d _ (by omega)
  · rw [List.length_drop, List.length_take] at hi
    rw [getD_drop, getD_take (by omega)]
    exact h.val _ (by omega)
theorem rowV_bound {fl : List Int} {gs : List (List Int)} (h : OkG gs) (a n : Nat) : 0 ≤ rowV fl gs a n ∧ rowV fl gs a n ≤ 160000 := by
  have h1 := worth_bound (gs := (gs.take (a + n)).drop a) (us := bestL ((fl.take (a + n)).drop a) ((gs.take (a + n)).drop a)) (h.part _ _)
  have h2 := (h.part a (a + n)).len
  simp only [rowV, val]
  omega
theorem aloneF_bound {fl : List Int} {gs : List (List Int)} (h : OkG gs) : ∀ {k : Nat} {g : List Int}, 0 ≤ aloneF fl gs k g ∧ aloneF fl gs k g ≤ 160000 * g.length
  | 0, g => by simp only [aloneF]; omega
  | k + 1, [] => by simp [aloneF]
  | k + 1, a :: r => by
    have h1 := rowV_bound (fl := fl) h a.toNat (runT a r + 1)
    have h2 := aloneF_bound (fl := fl) h (k := k) (g := r.drop (runT a r))
    rw [List.length_drop] at h2
    simp only [aloneF, List.length_cons]
    omega
set_option maxHeartbeats 2000000 in
theorem Alone_ref (fl : List Int) (gs : List (List Int)) (g : List Int) (h : Riv fl gs) (hg : Grp fl.length g) :
    FnAt Try.prog false 37 [.arr (.int .i64) fl, .arr (.sl (.int .i64)) gs, .arr (.int .i64) g] (.lit (.int .i64 (aloneL fl gs g))) [] := by
  have hG := h.g
  have hl := h.len
  have hl8 := hG.len
  have hgl : g.length ≤ fl.length := hg.len
  refine FnAt.of_body tys_ok Try.func37 (by rfl) rfl Try.ntmps37 (by rw [Try.results37]) (by simp) ?_
  
  repeat' (first
 | refine W.seq ?_
 | refine W.block ?_
 | (refine W.region tys_ok [] ?_; conv => whnf)
 | (refine W.drawAll tys_ok [] mixed rfl ?_; conv => whnf)
 | (refine W.ret ?_; conv => whnf)
 | (refine W.skip ?_; conv => whnf)
 | (refine W.exit ?_; conv => whnf)

    | (refine W.cond rfl (fun hb => ?_) (fun hb => ?_) <;> (try simp only [minL, maxL, pickB, getD_int, getD_sl, getD_bool, len_int, len_sl, len_bool, decide_eq_true_eq, decide_eq_false_iff_not, Bool.and_eq_true, Bool.or_eq_true, Bool.and_eq_false_iff, Bool.or_eq_false_iff, Bool.not_eq_true', Bool.not_eq_false', Bool.true_eq_false, Bool.false_eq_true, Int.toNat_natCast, Int.ofNat_lt, Int.ofNat_le, not_true_eq_false, not_false_eq_true, or_false, false_or, and_true, true_and, or_true, true_or, and_false, false_and] at hb) <;> (try (first | (cases hb; done) | exact absurd hb (by decide) | (exfalso; omega))))
    | ((with_reducible refine And.intro ?_ ?_); (focus ((repeat' (first | (with_reducible rfl) | (with_reducible refine And.intro ?_ ?_) | omega | rfl | exact Or.inl rfl | exact Or.inr rfl | (focus ((try simp only [minL, maxL, pickB, getD_int, getD_sl, getD_bool, len_int, len_sl, len_bool, decide_eq_true_eq, decide_eq_false_iff_not, Bool.and_eq_true, Bool.or_eq_true, Bool.and_eq_false_iff, Bool.or_eq_false_iff, Bool.not_eq_true', Bool.not_eq_false', Bool.true_eq_false, Bool.false_eq_true, Int.toNat_natCast, Int.ofNat_lt, Int.ofNat_le, not_true_eq_false, not_false_eq_true, or_false, false_or, and_true, true_and, or_true, true_or, and_false, false_and, InK, Path.imp, List.length_replicate, List.length_set, List.length_append, List.length_cons, List.length_nil] at *); omega)) | (refine app_le rfl ?_; omega))); done)); (conv => whnf))
    | ((with_reducible refine And.intro (Side.out ?_) ?_); rotate_left; (conv => whnf))
    | (refine retF1 ?_ <;> (conv => whnf) <;> repeat' (first
 | exact trivial
 | (with_reducible rfl)
 | ((with_reducible refine And.intro ?_ ?_) <;> conv => whnf)
 | omega
 | rfl
 | (refine congrArg (SV.arr _) ?_)
 | (refine congrArg (Value.int _) ?_)
 | (refine congrArg Value.bool ?_)))
 | (refine retF2 ?_ <;> (conv => whnf) <;> repeat' (first
 | exact trivial
 | (with_reducible rfl)
 | ((with_reducible refine And.intro ?_ ?_) <;> conv => whnf)
 | omega
 | rfl
 | (refine congrArg (SV.arr _) ?_)
 | (refine congrArg (Value.int _) ?_)
 | (refine congrArg Value.bool ?_)))); all_goals (try unfold Side)
  refine W.loop (fun x : Nat × Int => ⟨[(0, .st false (.arr (.int .i64) fl)), (1, .st false (.arr (.sl (.int .i64)) gs)), (2, .st false (.arr (.int .i64) g)), (7, .lit (.int .i64 x.2)), (8, .lit (.int .i64 x.1))], []⟩)
    (fun x => x.1 ≤ g.length ∧ 0 ≤ x.2 ∧ x.2 ≤ 160000 * x.1 ∧ x.2 + aloneL fl gs (g.drop x.1) = aloneL fl gs g) (fun x => g.length - x.1) (0, 0) ?_ ?_
  · refine ⟨⟨Nat.zero_le _, Int.le_refl _, Int.le_refl _, by simp⟩, ?_⟩
    refine subF.ok ?_ <;> (conv => whnf) <;> repeat' (first
 | exact trivial
 | (with_reducible rfl)
 | ((with_reducible refine And.intro ?_ ?_) <;> conv => whnf)
 | omega
 | rfl
 | (refine congrArg (SV.arr _) ?_)
 | (refine congrArg (Value.int _) ?_)
 | (refine congrArg Value.bool ?_))
  · rintro ⟨i, s⟩ ⟨h1, h2, h3, h4⟩
    dsimp only at h1 h2 h3 h4 ⊢
    by_cases hi : i < g.length
    · repeat' (first
 | refine W.seq ?_
 | refine W.block ?_
 | (refine W.region tys_ok [] ?_; conv => whnf)
 | (refine W.drawAll tys_ok [] mixed rfl ?_; conv => whnf)
 | (refine W.ret ?_; conv => whnf)
 | (refine W.skip ?_; conv => whnf)
 | (refine W.exit ?_; conv => whnf)

    | (refine W.cond rfl (fun hb => ?_) (fun hb => ?_) <;> (try simp only [minL, maxL, pickB, getD_int, getD_sl, getD_bool, len_int, len_sl, len_bool, decide_eq_true_eq, decide_eq_false_iff_not, Bool.and_eq_true, Bool.or_eq_true, Bool.and_eq_false_iff, Bool.or_eq_false_iff, Bool.not_eq_true', Bool.not_eq_false', Bool.true_eq_false, Bool.false_eq_true, Int.toNat_natCast, Int.ofNat_lt, Int.ofNat_le, not_true_eq_false, not_false_eq_true, or_false, false_or, and_true, true_and, or_true, true_or, and_false, false_and] at hb) <;> (try (first | (cases hb; done) | exact absurd hb (by decide) | (exfalso; omega))))
    | ((with_reducible refine And.intro ?_ ?_); (focus ((repeat' (first | (with_reducible rfl) | (with_reducible refine And.intro ?_ ?_) | omega | rfl | exact Or.inl rfl | exact Or.inr rfl | (focus ((try simp only [minL, maxL, pickB, getD_int, getD_sl, getD_bool, len_int, len_sl, len_bool, decide_eq_true_eq, decide_eq_false_iff_not, Bool.and_eq_true, Bool.or_eq_true, Bool.and_eq_false_iff, Bool.or_eq_false_iff, Bool.not_eq_true', Bool.not_eq_false', Bool.true_eq_false, Bool.false_eq_true, Int.toNat_natCast, Int.ofNat_lt, Int.ofNat_le, not_true_eq_false, not_false_eq_true, or_false, false_or, and_true, true_and, or_true, true_or, and_false, false_and, InK, Path.imp, List.length_replicate, List.length_set, List.length_append, List.length_cons, List.length_nil] at *); omega)) | (refine app_le rfl ?_; omega))); done)); (conv => whnf))
    | ((with_reducible refine And.intro (Side.out ?_) ?_); rotate_left; (conv => whnf))
    | (refine retF1 ?_ <;> (conv => whnf) <;> repeat' (first
 | exact trivial
 | (with_reducible rfl)
 | ((with_reducible refine And.intro ?_ ?_) <;> conv => whnf)
 | omega
 | rfl
 | (refine congrArg (SV.arr _) ?_)
 | (refine congrArg (Value.int _) ?_)
 | (refine congrArg Value.bool ?_)))
 | (refine retF2 ?_ <;> (conv => whnf) <;> repeat' (first
 | exact trivial
 | (with_reducible rfl)
 | ((with_reducible refine And.intro ?_ ?_) <;> conv => whnf)
 | omega
 | rfl
 | (refine congrArg (SV.arr _) ?_)
 | (refine congrArg (Value.int _) ?_)
 | (refine congrArg Value.bool ?_)))); all_goals (try unfold Side)
      all_goals try (repeat' (first | (with_reducible rfl) | (with_reducible refine And.intro ?_ ?_) | omega | rfl | exact Or.inl rfl | exact Or.inr rfl | (focus ((try simp only [minL, maxL, pickB, getD_int, getD_sl, getD_bool, len_int, len_sl, len_bool, decide_eq_true_eq, decide_eq_false_iff_not, Bool.and_eq_true, Bool.or_eq_true, Bool.and_eq_false_iff, Bool.or_eq_false_iff, Bool.not_eq_true', Bool.not_eq_false', Bool.true_eq_false, Bool.false_eq_true, Int.toNat_natCast, Int.ofNat_lt, Int.ofNat_le, not_true_eq_false, not_false_eq_true, or_false, false_or, and_true, true_and, or_true, true_or, and_false, false_and, InK, Path.imp, List.length_replicate, List.length_set, List.length_append, List.length_cons, List.length_nil] at *); omega)) | (refine app_le rfl ?_; omega)))
      refine W.loop (fun k : Nat => ⟨[(0, .st false (.arr (.int .i64) fl)), (1, .st false (.arr (.sl (.int .i64)) gs)), (2, .st false (.arr (.int .i64) g)), (7, .lit (.int .i64 s)), (8, .lit (.int .i64 i)), (9, .lit (.int .i64 k))], []⟩)
        (fun k => i < k ∧ k ≤ g.length ∧ ∀ j, i < j → j < k → g.getD j 0 = g.getD (j - 1) 0 + 1) (fun k => g.length - k) (i + 1) ?_ ?_
      · refine ⟨⟨by omega, by omega, fun j h1 h2 => by omega⟩, ?_⟩
        refine subF.ok ?_ <;> (conv => whnf) <;> repeat' (first
 | exact trivial
 | (with_reducible rfl)
 | ((with_reducible refine And.intro ?_ ?_) <;> conv => whnf)
 | omega
 | rfl
 | (refine congrArg (SV.arr _) ?_)
 | (refine congrArg (Value.int _) ?_)
 | (refine congrArg Value.bool ?_))
      · rintro k ⟨hk1, hk2, hk3⟩
        have e1 : ((k : Int) - 1).toNat = k - 1 := by omega
        have hv1 := hg.val (k - 1) (by omega)
        have hv1' := hv1
        rw [← e1] at hv1'
        have hvi := hg.val i (by omega)
        by_cases hc : k < g.length ∧ g.getD k 0 = g.getD ((k : Int) - 1).toNat 0 + 1
        · obtain ⟨hc1, hc2⟩ := hc
          repeat' (first
 | refine W.seq ?_
 | refine W.block ?_
 | (refine W.region tys_ok [] ?_; conv => whnf)
 | (refine W.drawAll tys_ok [] mixed rfl ?_; conv => whnf)
 | (refine W.ret ?_; conv => whnf)
 | (refine W.skip ?_; conv => whnf)
 | (refine W.exit ?_; conv => whnf)

    | (refine W.cond rfl (fun hb => ?_) (fun hb => ?_) <;> (try simp only [minL, maxL, pickB, getD_int, getD_sl, getD_bool, len_int, len_sl, len_bool, decide_eq_true_eq, decide_eq_false_iff_not, Bool.and_eq_true, Bool.or_eq_true, Bool.and_eq_false_iff, Bool.or_eq_false_iff, Bool.not_eq_true', Bool.not_eq_false', Bool.true_eq_false, Bool.false_eq_true, Int.toNat_natCast, Int.ofNat_lt, Int.ofNat_le, not_true_eq_false, not_false_eq_true, or_false, false_or, and_true, true_and, or_true, true_or, and_false, false_and] at hb) <;> (try (first | (cases hb; done) | exact absurd hb (by decide) | (exfalso; omega))))
    | ((with_reducible refine And.intro ?_ ?_); (focus ((repeat' (first | (with_reducible rfl) | (with_reducible refine And.intro ?_ ?_) | omega | rfl | exact Or.inl rfl | exact Or.inr rfl | (focus ((try simp only [minL, maxL, pickB, getD_int, getD_sl, getD_bool, len_int, len_sl, len_bool, decide_eq_true_eq, decide_eq_false_iff_not, Bool.and_eq_true, Bool.or_eq_true, Bool.and_eq_false_iff, Bool.or_eq_false_iff, Bool.not_eq_true', Bool.not_eq_false', Bool.true_eq_false, Bool.false_eq_true, Int.toNat_natCast, Int.ofNat_lt, Int.ofNat_le, not_true_eq_false, not_false_eq_true, or_false, false_or, and_true, true_and, or_true, true_or, and_false, false_and, InK, Path.imp, List.length_replicate, List.length_set, List.length_append, List.length_cons, List.length_nil] at *); omega)) | (refine app_le rfl ?_; omega))); done)); (conv => whnf))
    | ((with_reducible refine And.intro (Side.out ?_) ?_); rotate_left; (conv => whnf))
    | (refine retF1 ?_ <;> (conv => whnf) <;> repeat' (first
 | exact trivial
 | (with_reducible rfl)
 | ((with_reducible refine And.intro ?_ ?_) <;> conv => whnf)
 | omega
 | rfl
 | (refine congrArg (SV.arr _) ?_)
 | (refine congrArg (Value.int _) ?_)
 | (refine congrArg Value.bool ?_)))
 | (refine retF2 ?_ <;> (conv => whnf) <;> repeat' (first
 | exact trivial
 | (with_reducible rfl)
 | ((with_reducible refine And.intro ?_ ?_) <;> conv => whnf)
 | omega
 | rfl
 | (refine congrArg (SV.arr _) ?_)
 | (refine congrArg (Value.int _) ?_)
 | (refine congrArg Value.bool ?_)))); all_goals (try unfold Side)
          all_goals try (repeat' (first | (with_reducible rfl) | (with_reducible refine And.intro ?_ ?_) | omega | rfl | exact Or.inl rfl | exact Or.inr rfl | (focus ((try simp only [minL, maxL, pickB, getD_int, getD_sl, getD_bool, len_int, len_sl, len_bool, decide_eq_true_eq, decide_eq_false_iff_not, Bool.and_eq_true, Bool.or_eq_true, Bool.and_eq_false_iff, Bool.or_eq_false_iff, Bool.not_eq_true', Bool.not_eq_false', Bool.true_eq_false, Bool.false_eq_true, Int.toNat_natCast, Int.ofNat_lt, Int.ofNat_le, not_true_eq_false, not_false_eq_true, or_false, false_or, and_true, true_and, or_true, true_or, and_false, false_and, InK, Path.imp, List.length_replicate, List.length_set, List.length_append, List.length_cons, List.length_nil] at *); omega)) | (refine app_le rfl ?_; omega)))
          refine ⟨k + 1, ⟨⟨by omega, by omega, fun j h1 h2 => ?_⟩, by omega⟩, ?_⟩
          · by_cases e : j = k
            · subst e; rw [← e1]; exact hc2
            · exact hk3 j h1 (by omega)
          · refine subF.ok ?_ <;> (conv => whnf) <;> repeat' (first
 | exact trivial
 | (with_reducible rfl)
 | ((with_reducible refine And.intro ?_ ?_) <;> conv => whnf)
 | omega
 | rfl
 | (refine congrArg (SV.arr _) ?_)
 | (refine congrArg (Value.int _) ?_)
 | (refine congrArg Value.bool ?_))
        · have hrun := runT_drop hk1 hk2 hk3
          rw [runT_stop (a := g.getD (k - 1) 0) (by rw [← e1]; exact hc)] at hrun
          have hB := Best_ref ((fl.take (g.getD ((k : Int) - 1).toNat 0 + 1).toNat).drop (g.getD i 0).toNat) ((gs.take (g.getD ((k : Int) - 1).toNat 0 + 1).toNat).drop (g.getD i 0).toNat) (h.part _ _)
          have hrb := rowV_bound (fl := fl) hG (g.getD i 0).toNat (k - i)
          have hmono : g.getD i 0 + ((k - i : Nat) : Int) = g.getD (k - 1) 0 + 1 := by
            have : ∀ m, i ≤ m → m < k → g.getD m 0 = g.getD i 0 + ((m - i : Nat) : Int) := by
              intro m
              induction m with
              | zero => intro h1 h2; have : i = 0 := by omega
                        subst this; simp
              | succ m ih =>
                intro h1 h2
                by_cases e : i = m + 1
                · subst e; simp
                · have h5 := hk3 (m + 1) (by omega) h2
                  have h6 := ih (by omega) (by omega)
                  simp only [Nat.add_sub_cancel] at h5
                  omega
            have := this (k - 1) (by omega) (by omega)
            omega
          have hmono' := hmono
          rw [← e1] at hmono'
          have e2 : val ((fl.take (g.getD ((k : Int) - 1).toNat 0 + 1).toNat).drop (g.getD i 0).toNat) ((gs.take (g.getD ((k : Int) - 1).toNat 0 + 1).toNat).drop (g.getD i 0).toNat) = rowV fl gs (g.getD i 0).toNat (k - i) := by
            rw [e1, rowV, show (g.getD i 0).toNat + (k - i) = (g.getD (k - 1) 0 + 1).toNat from by omega]
          rw [e2] at hB
          have h4' : rowV fl gs (g.getD i 0).toNat (k - i) + aloneL fl gs (g.drop k) = aloneL fl gs (g.drop i) := by
            rw [drop_getD 0 hi, aloneL_cons, hrun, List.drop_drop, show k - 1 - i + 0 + 1 = k - i from by omega, show i + 1 + (k - 1 - i + 0) = k from by omega]
          repeat' (first
 | refine W.seq ?_
 | refine W.block ?_
 | (refine W.region tys_ok [] ?_; conv => whnf)
 | (refine W.drawAll tys_ok [] mixed rfl ?_; conv => whnf)
 | (refine W.ret ?_; conv => whnf)
 | (refine W.skip ?_; conv => whnf)
 | (refine W.exit ?_; conv => whnf)
 | (refine call_at (al := false) (hB) rfl rfl rfl rfl ?_; conv => whnf)

    | (refine W.cond rfl (fun hb => ?_) (fun hb => ?_) <;> (try simp only [minL, maxL, pickB, getD_int, getD_sl, getD_bool, len_int, len_sl, len_bool, decide_eq_true_eq, decide_eq_false_iff_not, Bool.and_eq_true, Bool.or_eq_true, Bool.and_eq_false_iff, Bool.or_eq_false_iff, Bool.not_eq_true', Bool.not_eq_false', Bool.true_eq_false, Bool.false_eq_true, Int.toNat_natCast, Int.ofNat_lt, Int.ofNat_le, not_true_eq_false, not_false_eq_true, or_false, false_or, and_true, true_and, or_true, true_or, and_false, false_and] at hb) <;> (try (first | (cases hb; done) | exact absurd hb (by decide) | (exfalso; omega))))
    | ((with_reducible refine And.intro ?_ ?_); (focus ((repeat' (first | (with_reducible rfl) | (with_reducible refine And.intro ?_ ?_) | omega | rfl | exact Or.inl rfl | exact Or.inr rfl | (focus ((try simp only [minL, maxL, pickB, getD_int, getD_sl, getD_bool, len_int, len_sl, len_bool, decide_eq_true_eq, decide_eq_false_iff_not, Bool.and_eq_true, Bool.or_eq_true, Bool.and_eq_false_iff, Bool.or_eq_false_iff, Bool.not_eq_true', Bool.not_eq_false', Bool.true_eq_false, Bool.false_eq_true, Int.toNat_natCast, Int.ofNat_lt, Int.ofNat_le, not_true_eq_false, not_false_eq_true, or_false, false_or, and_true, true_and, or_true, true_or, and_false, false_and, InK, Path.imp, List.length_replicate, List.length_set, List.length_append, List.length_cons, List.length_nil] at *); omega)) | (refine app_le rfl ?_; omega))); done)); (conv => whnf))
    | ((with_reducible refine And.intro (Side.out ?_) ?_); rotate_left; (conv => whnf))
    | (refine retF1 ?_ <;> (conv => whnf) <;> repeat' (first
 | exact trivial
 | (with_reducible rfl)
 | ((with_reducible refine And.intro ?_ ?_) <;> conv => whnf)
 | omega
 | rfl
 | (refine congrArg (SV.arr _) ?_)
 | (refine congrArg (Value.int _) ?_)
 | (refine congrArg Value.bool ?_)))
 | (refine retF2 ?_ <;> (conv => whnf) <;> repeat' (first
 | exact trivial
 | (with_reducible rfl)
 | ((with_reducible refine And.intro ?_ ?_) <;> conv => whnf)
 | omega
 | rfl
 | (refine congrArg (SV.arr _) ?_)
 | (refine congrArg (Value.int _) ?_)
 | (refine congrArg Value.bool ?_)))); all_goals (try unfold Side)
          all_goals try (repeat' (first | (with_reducible rfl) | (with_reducible refine And.intro ?_ ?_) | omega | rfl | exact Or.inl rfl | exact Or.inr rfl | (focus ((try simp only [minL, maxL, pickB, getD_int, getD_sl, getD_bool, len_int, len_sl, len_bool, decide_eq_true_eq, decide_eq_false_iff_not, Bool.and_eq_true, Bool.or_eq_true, Bool.and_eq_false_iff, Bool.or_eq_false_iff, Bool.not_eq_true', Bool.not_eq_false', Bool.true_eq_false, Bool.false_eq_true, Int.toNat_natCast, Int.ofNat_lt, Int.ofNat_le, not_true_eq_false, not_false_eq_true, or_false, false_or, and_true, true_and, or_true, true_or, and_false, false_and, InK, Path.imp, List.length_replicate, List.length_set, List.length_append, List.length_cons, List.length_nil] at *); omega)) | (refine app_le rfl ?_; omega)))
          refine ⟨(k, s + rowV fl gs (g.getD i 0).toNat (k - i)), ⟨⟨hk2, ?_, ?_, ?_⟩, ?_⟩, ?_⟩
          · dsimp only; omega
          · dsimp only; omega
          · dsimp only; omega
          · dsimp only; omega
          · refine subF.ok ?_ <;> (conv => whnf) <;> repeat' (first
 | exact trivial
 | (with_reducible rfl)
 | ((with_reducible refine And.intro ?_ ?_) <;> conv => whnf)
 | omega
 | rfl
 | (refine congrArg (SV.arr _) ?_)
 | (refine congrArg (Value.int _) ?_)
 | (refine congrArg Value.bool ?_))
    · have hie : i = g.length := by omega
      subst hie
      rw [List.drop_length, show aloneL fl gs [] = 0 from rfl] at h4
      repeat' (first
 | refine W.seq ?_
 | refine W.block ?_
 | (refine W.region tys_ok [] ?_; conv => whnf)
 | (refine W.drawAll tys_ok [] mixed rfl ?_; conv => whnf)
 | (refine W.ret ?_; conv => whnf)
 | (refine W.skip ?_; conv => whnf)
 | (refine W.exit ?_; conv => whnf)

    | (refine W.cond rfl (fun hb => ?_) (fun hb => ?_) <;> (try simp only [minL, maxL, pickB, getD_int, getD_sl, getD_bool, len_int, len_sl, len_bool, decide_eq_true_eq, decide_eq_false_iff_not, Bool.and_eq_true, Bool.or_eq_true, Bool.and_eq_false_iff, Bool.or_eq_false_iff, Bool.not_eq_true', Bool.not_eq_false', Bool.true_eq_false, Bool.false_eq_true, Int.toNat_natCast, Int.ofNat_lt, Int.ofNat_le, not_true_eq_false, not_false_eq_true, or_false, false_or, and_true, true_and, or_true, true_or, and_false, false_and] at hb) <;> (try (first | (cases hb; done) | exact absurd hb (by decide) | (exfalso; omega))))
    | ((with_reducible refine And.intro ?_ ?_); (focus ((repeat' (first | (with_reducible rfl) | (with_reducible refine And.intro ?_ ?_) | omega | rfl | exact Or.inl rfl | exact Or.inr rfl | (focus ((try simp only [minL, maxL, pickB, getD_int, getD_sl, getD_bool, len_int, len_sl, len_bool, decide_eq_true_eq, decide_eq_false_iff_not, Bool.and_eq_true, Bool.or_eq_true, Bool.and_eq_false_iff, Bool.or_eq_false_iff, Bool.not_eq_true', Bool.not_eq_false', Bool.true_eq_false, Bool.false_eq_true, Int.toNat_natCast, Int.ofNat_lt, Int.ofNat_le, not_true_eq_false, not_false_eq_true, or_false, false_or, and_true, true_and, or_true, true_or, and_false, false_and, InK, Path.imp, List.length_replicate, List.length_set, List.length_append, List.length_cons, List.length_nil] at *); omega)) | (refine app_le rfl ?_; omega))); done)); (conv => whnf))
    | ((with_reducible refine And.intro (Side.out ?_) ?_); rotate_left; (conv => whnf))
    | (refine retF1 ?_ <;> (conv => whnf) <;> repeat' (first
 | exact trivial
 | (with_reducible rfl)
 | ((with_reducible refine And.intro ?_ ?_) <;> conv => whnf)
 | omega
 | rfl
 | (refine congrArg (SV.arr _) ?_)
 | (refine congrArg (Value.int _) ?_)
 | (refine congrArg Value.bool ?_)))
 | (refine retF2 ?_ <;> (conv => whnf) <;> repeat' (first
 | exact trivial
 | (with_reducible rfl)
 | ((with_reducible refine And.intro ?_ ?_) <;> conv => whnf)
 | omega
 | rfl
 | (refine congrArg (SV.arr _) ?_)
 | (refine congrArg (Value.int _) ?_)
 | (refine congrArg Value.bool ?_)))); all_goals (try unfold Side)
      all_goals try (repeat' (first | (with_reducible rfl) | (with_reducible refine And.intro ?_ ?_) | omega | rfl | exact Or.inl rfl | exact Or.inr rfl | (focus ((try simp only [minL, maxL, pickB, getD_int, getD_sl, getD_bool, len_int, len_sl, len_bool, decide_eq_true_eq, decide_eq_false_iff_not, Bool.and_eq_true, Bool.or_eq_true, Bool.and_eq_false_iff, Bool.or_eq_false_iff, Bool.not_eq_true', Bool.not_eq_false', Bool.true_eq_false, Bool.false_eq_true, Int.toNat_natCast, Int.ofNat_lt, Int.ofNat_le, not_true_eq_false, not_false_eq_true, or_false, false_or, and_true, true_and, or_true, true_or, and_false, false_and, InK, Path.imp, List.length_replicate, List.length_set, List.length_append, List.length_cons, List.length_nil] at *); omega)) | (refine app_le rfl ?_; omega)))
theorem range_grp {n m : Nat} (h : m ≤ n) : Grp n ((List.range m).map fun (i : Nat) => (i : Int)) := by
  have e : ∀ i, i < m → ((List.range m).map fun (i : Nat) => (i : Int)).getD i 0 = i := fun i hi => by
    rw [List.getD_eq_getElem?_getD, List.getElem?_map, List.getElem?_range hi]; rfl
  refine ⟨fun i hi => ?_, fun i hi => ?_⟩
  · simp at hi; rw [e i hi]; omega
  · simp at hi; rw [e i (by omega), e (i + 1) hi]; omega
theorem aloneL_range {fl : List Int} {gs : List (List Int)} {m : Nat} (hm : 0 < m) : aloneL fl gs ((List.range m).map fun (i : Nat) => (i : Int)) = val (fl.take m) (gs.take m) := by
  obtain ⟨g, hg⟩ : ∃ g : List Int, g = (List.range m).map fun (i : Nat) => (i : Int) := ⟨_, rfl⟩
  have hl : g.length = m := by rw [hg]; simp
  have e : ∀ i, i < m → g.getD i 0 = i := fun i hi => by
    rw [hg, List.getD_eq_getElem?_getD, List.getElem?_map, List.getElem?_range hi]; rfl
  rw [← hg]
  have h1 := runT_drop (g := g) (i := 0) (k := m) hm (by omega) fun j h1 h2 => by rw [e j h2, e (j - 1) (by omega)]; omega
  rw [List.drop_of_length_le (by omega : g.length ≤ m)] at h1
  simp only [runT] at h1
  have h2 : g = g.getD 0 0 :: g.drop 1 := by conv => lhs; rw [← List.drop_zero (l := g), drop_getD 0 (by omega)]
  rw [h2, aloneL_cons, h1, e 0 hm, List.drop_drop, List.drop_of_length_le (by omega)]
  simp only [aloneL, aloneF, rowV, List.length_nil]
  rw [show Int.toNat ((0 : Nat) : Int) + (m - 1 - 0 + 0 + 1) = m from by simp; omega, show Int.toNat ((0 : Nat) : Int) = 0 from rfl, List.drop_zero, List.drop_zero]
  omega
theorem aloneL_last {fl : List Int} {gs : List (List Int)} (m : Nat) : aloneL fl gs ((List.range m).map fun (i : Nat) => (i : Int)) = lastV fl gs m := by
  cases m with
  | zero => rfl
  | succ m => exact aloneL_range (by omega)
set_option maxHeartbeats 2000000 in
theorem Shares_ref (fl : List Int) (gs : List (List Int)) (h : Riv fl gs) :
    FnAt Try.prog false 31 [.arr (.int .i64) fl, .arr (.sl (.int .i64)) gs] (.own 0) [(0, .row 3 (.int .i64) true (sharesT fl gs fl.length))] := by
  have hG := h.g
  have hl := h.len
  have hl8 := hG.len
  refine FnAt.of_body tys_ok Try.func31 (by rfl) rfl Try.ntmps31 (by rw [Try.results31]) (by simp) ?_
  
  repeat' (first
 | refine W.seq ?_
 | refine W.block ?_
 | (refine W.region tys_ok [] ?_; conv => whnf)
 | (refine W.drawAll tys_ok [] mixed rfl ?_; conv => whnf)
 | (refine W.ret ?_; conv => whnf)
 | (refine W.skip ?_; conv => whnf)
 | (refine W.exit ?_; conv => whnf)

    | (refine W.cond rfl (fun hb => ?_) (fun hb => ?_) <;> (try simp only [minL, maxL, pickB, getD_int, getD_sl, getD_bool, len_int, len_sl, len_bool, decide_eq_true_eq, decide_eq_false_iff_not, Bool.and_eq_true, Bool.or_eq_true, Bool.and_eq_false_iff, Bool.or_eq_false_iff, Bool.not_eq_true', Bool.not_eq_false', Bool.true_eq_false, Bool.false_eq_true, Int.toNat_natCast, Int.ofNat_lt, Int.ofNat_le, not_true_eq_false, not_false_eq_true, or_false, false_or, and_true, true_and, or_true, true_or, and_false, false_and] at hb) <;> (try (first | (cases hb; done) | exact absurd hb (by decide) | (exfalso; omega))))
    | ((with_reducible refine And.intro ?_ ?_); (focus ((repeat' (first | (with_reducible rfl) | (with_reducible refine And.intro ?_ ?_) | omega | rfl | exact Or.inl rfl | exact Or.inr rfl | (focus ((try simp only [minL, maxL, pickB, getD_int, getD_sl, getD_bool, len_int, len_sl, len_bool, decide_eq_true_eq, decide_eq_false_iff_not, Bool.and_eq_true, Bool.or_eq_true, Bool.and_eq_false_iff, Bool.or_eq_false_iff, Bool.not_eq_true', Bool.not_eq_false', Bool.true_eq_false, Bool.false_eq_true, Int.toNat_natCast, Int.ofNat_lt, Int.ofNat_le, not_true_eq_false, not_false_eq_true, or_false, false_or, and_true, true_and, or_true, true_or, and_false, false_and, InK, Path.imp, List.length_replicate, List.length_set, List.length_append, List.length_cons, List.length_nil] at *); omega)) | (refine app_le rfl ?_; omega))); done)); (conv => whnf))
    | ((with_reducible refine And.intro (Side.out ?_) ?_); rotate_left; (conv => whnf))
    | (refine retF1 ?_ <;> (conv => whnf) <;> repeat' (first
 | exact trivial
 | (with_reducible rfl)
 | ((with_reducible refine And.intro ?_ ?_) <;> conv => whnf)
 | omega
 | rfl
 | (refine congrArg (SV.arr _) ?_)
 | (refine congrArg (Value.int _) ?_)
 | (refine congrArg Value.bool ?_)))
 | (refine retF2 ?_ <;> (conv => whnf) <;> repeat' (first
 | exact trivial
 | (with_reducible rfl)
 | ((with_reducible refine And.intro ?_ ?_) <;> conv => whnf)
 | omega
 | rfl
 | (refine congrArg (SV.arr _) ?_)
 | (refine congrArg (Value.int _) ?_)
 | (refine congrArg Value.bool ?_)))); all_goals (try unfold Side)
  refine W.loop (fun i : Nat => ⟨[(0, .st false (.arr (.int .i64) fl)), (1, .st false (.arr (.sl (.int .i64)) gs)), (5, .own 8000), (6, .lit (.int .i64 i))], [(8000, .row 3 (.int .i64) true (sharesT fl gs i))]⟩)
    (fun i => i ≤ fl.length) (fun i => fl.length - i) 0 ?_ ?_
  · refine ⟨Nat.zero_le _, ?_⟩
    refine subF.ok ?_ <;> (conv => whnf) <;> repeat' (first
 | exact trivial
 | (with_reducible rfl)
 | ((with_reducible refine And.intro ?_ ?_) <;> conv => whnf)
 | omega
 | rfl
 | (refine congrArg (SV.arr _) ?_)
 | (refine congrArg (Value.int _) ?_)
 | (refine congrArg Value.bool ?_))
  · intro i hi
    have hsl := sharesT_len (fl := fl) (gs := gs) (i := i)
    have hb1 := lastV_bound (fl := fl) hG (i := i)
    have hb2 := lastV_bound (fl := fl) hG (i := i + 1)
    by_cases hil : i < fl.length
    · have hf1 := First_at (i + 1) (by omega)
      have hf0 := First_at i (by omega)
      have ha1 := Alone_ref fl gs _ h (range_grp (n := fl.length) (m := i + 1) (by omega))
      have ha0 := Alone_ref fl gs _ h (range_grp (n := fl.length) (m := i) (by omega))
      rw [aloneL_last] at ha1 ha0
      have hsl' : @List.length (Ty.int .i64).T (sharesT fl gs i) = i := hsl
      repeat' (first
 | refine W.seq ?_
 | refine W.block ?_
 | (refine W.region tys_ok [] ?_; conv => whnf)
 | (refine W.drawAll tys_ok [] mixed rfl ?_; conv => whnf)
 | (refine W.ret ?_; conv => whnf)
 | (refine W.skip ?_; conv => whnf)
 | (refine W.exit ?_; conv => whnf)
 | (refine call_at (al := false) (hf1) rfl rfl rfl rfl ?_; conv => whnf)
 | (refine call_at (al := false) (hf0) rfl rfl rfl rfl ?_; conv => whnf)
 | (refine call_at (al := false) (ha1) rfl rfl rfl rfl ?_; conv => whnf)
 | (refine call_at (al := false) (ha0) rfl rfl rfl rfl ?_; conv => whnf)

    | (refine W.cond rfl (fun hb => ?_) (fun hb => ?_) <;> (try simp only [minL, maxL, pickB, getD_int, getD_sl, getD_bool, len_int, len_sl, len_bool, decide_eq_true_eq, decide_eq_false_iff_not, Bool.and_eq_true, Bool.or_eq_true, Bool.and_eq_false_iff, Bool.or_eq_false_iff, Bool.not_eq_true', Bool.not_eq_false', Bool.true_eq_false, Bool.false_eq_true, Int.toNat_natCast, Int.ofNat_lt, Int.ofNat_le, not_true_eq_false, not_false_eq_true, or_false, false_or, and_true, true_and, or_true, true_or, and_false, false_and] at hb) <;> (try (first | (cases hb; done) | exact absurd hb (by decide) | (exfalso; omega))))
    | ((with_reducible refine And.intro ?_ ?_); (focus ((repeat' (first | (with_reducible rfl) | (with_reducible refine And.intro ?_ ?_) | omega | rfl | exact Or.inl rfl | exact Or.inr rfl | (focus ((try simp only [minL, maxL, pickB, getD_int, getD_sl, getD_bool, len_int, len_sl, len_bool, decide_eq_true_eq, decide_eq_false_iff_not, Bool.and_eq_true, Bool.or_eq_true, Bool.and_eq_false_iff, Bool.or_eq_false_iff, Bool.not_eq_true', Bool.not_eq_false', Bool.true_eq_false, Bool.false_eq_true, Int.toNat_natCast, Int.ofNat_lt, Int.ofNat_le, not_true_eq_false, not_false_eq_true, or_false, false_or, and_true, true_and, or_true, true_or, and_false, false_and, InK, Path.imp, List.length_replicate, List.length_set, List.length_append, List.length_cons, List.length_nil] at *); omega)) | (refine app_le rfl ?_; omega))); done)); (conv => whnf))
    | ((with_reducible refine And.intro (Side.out ?_) ?_); rotate_left; (conv => whnf))
    | (refine retF1 ?_ <;> (conv => whnf) <;> repeat' (first
 | exact trivial
 | (with_reducible rfl)
 | ((with_reducible refine And.intro ?_ ?_) <;> conv => whnf)
 | omega
 | rfl
 | (refine congrArg (SV.arr _) ?_)
 | (refine congrArg (Value.int _) ?_)
 | (refine congrArg Value.bool ?_)))
 | (refine retF2 ?_ <;> (conv => whnf) <;> repeat' (first
 | exact trivial
 | (with_reducible rfl)
 | ((with_reducible refine And.intro ?_ ?_) <;> conv => whnf)
 | omega
 | rfl
 | (refine congrArg (SV.arr _) ?_)
 | (refine congrArg (Value.int _) ?_)
 | (refine congrArg Value.bool ?_)))); all_goals (try unfold Side)
      all_goals try (repeat' (first | (with_reducible rfl) | (with_reducible refine And.intro ?_ ?_) | omega | rfl | exact Or.inl rfl | exact Or.inr rfl | (focus ((try simp only [minL, maxL, pickB, getD_int, getD_sl, getD_bool, len_int, len_sl, len_bool, decide_eq_true_eq, decide_eq_false_iff_not, Bool.and_eq_true, Bool.or_eq_true, Bool.and_eq_false_iff, Bool.or_eq_false_iff, Bool.not_eq_true', Bool.not_eq_false', Bool.true_eq_false, Bool.false_eq_true, Int.toNat_natCast, Int.ofNat_lt, Int.ofNat_le, not_true_eq_false, not_false_eq_true, or_false, false_or, and_true, true_and, or_true, true_or, and_false, false_and, InK, Path.imp, List.length_replicate, List.length_set, List.length_append, List.length_cons, List.length_nil] at *); omega)) | (refine app_le rfl ?_; omega)))
      refine ⟨i + 1, ⟨by omega, by omega⟩, ?_⟩
      refine subF.ok ?_ <;> (conv => whnf) <;> repeat' (first
 | exact trivial
 | (with_reducible rfl)
 | ((with_reducible refine And.intro ?_ ?_) <;> conv => whnf)
 | omega
 | rfl
 | (refine congrArg (SV.arr _) ?_)
 | (refine congrArg (Value.int _) ?_)
 | (refine congrArg Value.bool ?_))
    · have hie : i = fl.length := by omega
      subst hie
      repeat' (first
 | refine W.seq ?_
 | refine W.block ?_
 | (refine W.region tys_ok [] ?_; conv => whnf)
 | (refine W.drawAll tys_ok [] mixed rfl ?_; conv => whnf)
 | (refine W.ret ?_; conv => whnf)
 | (refine W.skip ?_; conv => whnf)
 | (refine W.exit ?_; conv => whnf)

    | (refine W.cond rfl (fun hb => ?_) (fun hb => ?_) <;> (try simp only [minL, maxL, pickB, getD_int, getD_sl, getD_bool, len_int, len_sl, len_bool, decide_eq_true_eq, decide_eq_false_iff_not, Bool.and_eq_true, Bool.or_eq_true, Bool.and_eq_false_iff, Bool.or_eq_false_iff, Bool.not_eq_true', Bool.not_eq_false', Bool.true_eq_false, Bool.false_eq_true, Int.toNat_natCast, Int.ofNat_lt, Int.ofNat_le, not_true_eq_false, not_false_eq_true, or_false, false_or, and_true, true_and, or_true, true_or, and_false, false_and] at hb) <;> (try (first | (cases hb; done) | exact absurd hb (by decide) | (exfalso; omega))))
    | ((with_reducible refine And.intro ?_ ?_); (focus ((repeat' (first | (with_reducible rfl) | (with_reducible refine And.intro ?_ ?_) | omega | rfl | exact Or.inl rfl | exact Or.inr rfl | (focus ((try simp only [minL, maxL, pickB, getD_int, getD_sl, getD_bool, len_int, len_sl, len_bool, decide_eq_true_eq, decide_eq_false_iff_not, Bool.and_eq_true, Bool.or_eq_true, Bool.and_eq_false_iff, Bool.or_eq_false_iff, Bool.not_eq_true', Bool.not_eq_false', Bool.true_eq_false, Bool.false_eq_true, Int.toNat_natCast, Int.ofNat_lt, Int.ofNat_le, not_true_eq_false, not_false_eq_true, or_false, false_or, and_true, true_and, or_true, true_or, and_false, false_and, InK, Path.imp, List.length_replicate, List.length_set, List.length_append, List.length_cons, List.length_nil] at *); omega)) | (refine app_le rfl ?_; omega))); done)); (conv => whnf))
    | ((with_reducible refine And.intro (Side.out ?_) ?_); rotate_left; (conv => whnf))
    | (refine retF1 ?_ <;> (conv => whnf) <;> repeat' (first
 | exact trivial
 | (with_reducible rfl)
 | ((with_reducible refine And.intro ?_ ?_) <;> conv => whnf)
 | omega
 | rfl
 | (refine congrArg (SV.arr _) ?_)
 | (refine congrArg (Value.int _) ?_)
 | (refine congrArg Value.bool ?_)))
 | (refine retF2 ?_ <;> (conv => whnf) <;> repeat' (first
 | exact trivial
 | (with_reducible rfl)
 | ((with_reducible refine And.intro ?_ ?_) <;> conv => whnf)
 | omega
 | rfl
 | (refine congrArg (SV.arr _) ?_)
 | (refine congrArg (Value.int _) ?_)
 | (refine congrArg Value.bool ?_)))); all_goals (try unfold Side)
      all_goals try (repeat' (first | (with_reducible rfl) | (with_reducible refine And.intro ?_ ?_) | omega | rfl | exact Or.inl rfl | exact Or.inr rfl | (focus ((try simp only [minL, maxL, pickB, getD_int, getD_sl, getD_bool, len_int, len_sl, len_bool, decide_eq_true_eq, decide_eq_false_iff_not, Bool.and_eq_true, Bool.or_eq_true, Bool.and_eq_false_iff, Bool.or_eq_false_iff, Bool.not_eq_true', Bool.not_eq_false', Bool.true_eq_false, Bool.false_eq_true, Int.toNat_natCast, Int.ofNat_lt, Int.ofNat_le, not_true_eq_false, not_false_eq_true, or_false, false_or, and_true, true_and, or_true, true_or, and_false, false_and, InK, Path.imp, List.length_replicate, List.length_set, List.length_append, List.length_cons, List.length_nil] at *); omega)) | (refine app_le rfl ?_; omega)))
end Go.Proofs.Ytohfemfgnohhdaa
/- Prices, of the program and of the document; WaterShares. No condition. -/
namespace Go.Proofs.Ytohfemfgnohhdaa
open Go Go.Vc
set_option linter.unusedVariables false
set_option linter.unusedSimpArgs false

def pricesT (fl : List Int) (gs : List (List Int)) (n : Nat) : List Int := (List.range n).map fun i => val (fl.set i (fl.getD i 0 + 1)) gs - val fl gs
theorem pricesT_len {fl : List Int} {gs : List (List Int)} {n : Nat} : (pricesT fl gs n).length = n := by simp [pricesT]
theorem pricesT_succ {fl : List Int} {gs : List (List Int)} {n : Nat} : pricesT fl gs n ++ [val (fl.set n (fl.getD n 0 + 1)) gs - val fl gs] = pricesT fl gs (n + 1) := by
  simp [pricesT, List.range_succ]
theorem val_bound {fl : List Int} {gs : List (List Int)} (h : OkG gs) : 0 ≤ val fl gs ∧ val fl gs ≤ 160000 := by
  have h1 := worth_bound (gs := gs) (us := bestL fl gs) h
  have h2 := h.len
  simp only [val]
  omega
/-- A river whose flows are small. -/
theorem Riv.more {fl : List Int} {gs : List (List Int)} (h : Riv fl gs) (hs : ∀ i, i < fl.length → fl.getD i 0 ≤ 30) (i : Nat) : Riv (fl.set i (fl.getD i 0 + 1)) gs := by
  refine ⟨h.g, h.d, by rw [List.length_set]; exact h.len, fun j hj => ?_⟩
  rw [List.length_set] at hj
  by_cases hi : i < fl.length
  · rw [getD_set hi]
    have h1 := h.val j hj
    have h2 := h.val i hi
    have h3 := hs i hi
    split <;> omega
  · rw [List.set_eq_of_length_le (by omega)]
    exact h.val j hj
set_option maxHeartbeats 2000000 in
theorem Prices_ref (fl : List Int) (gs : List (List Int)) (h : Riv fl gs) (hs : ∀ i, i < fl.length → fl.getD i 0 ≤ 30) :
    FnAt Try.prog false 32 [.arr (.int .i64) fl, .arr (.sl (.int .i64)) gs] (.own 0) [(0, .row 3 (.int .i64) true (pricesT fl gs fl.length))] := by
  have hG := h.g
  have hl := h.len
  have hl8 := hG.len
  have hb := val_bound (fl := fl) hG
  have hB := Best_ref fl gs h
  refine FnAt.of_body tys_ok Try.func32 (by rfl) rfl Try.ntmps32 (by rw [Try.results32]) (by simp) ?_
  
  repeat' (first
 | refine W.seq ?_
 | refine W.block ?_
 | (refine W.region tys_ok [] ?_; conv => whnf)
 | (refine W.drawAll tys_ok [] mixed rfl ?_; conv => whnf)
 | (refine W.ret ?_; conv => whnf)
 | (refine W.skip ?_; conv => whnf)
 | (refine W.exit ?_; conv => whnf)
 | (refine call_at (al := false) (hB) rfl rfl rfl rfl ?_; conv => whnf)

    | (refine W.cond rfl (fun hb => ?_) (fun hb => ?_) <;> (try simp only [minL, maxL, pickB, getD_int, getD_sl, getD_bool, len_int, len_sl, len_bool, decide_eq_true_eq, decide_eq_false_iff_not, Bool.and_eq_true, Bool.or_eq_true, Bool.and_eq_false_iff, Bool.or_eq_false_iff, Bool.not_eq_true', Bool.not_eq_false', Bool.true_eq_false, Bool.false_eq_true, Int.toNat_natCast, Int.ofNat_lt, Int.ofNat_le, not_true_eq_false, not_false_eq_true, or_false, false_or, and_true, true_and, or_true, true_or, and_false, false_and] at hb) <;> (try (first | (cases hb; done) | exact absurd hb (by decide) | (exfalso; omega))))
    | ((with_reducible refine And.intro ?_ ?_); (focus ((repeat' (first | (with_reducible rfl) | (with_reducible refine And.intro ?_ ?_) | omega | rfl | exact Or.inl rfl | exact Or.inr rfl | (focus ((try simp only [minL, maxL, pickB, getD_int, getD_sl, getD_bool, len_int, len_sl, len_bool, decide_eq_true_eq, decide_eq_false_iff_not, Bool.and_eq_true, Bool.or_eq_true, Bool.and_eq_false_iff, Bool.or_eq_false_iff, Bool.not_eq_true', Bool.not_eq_false', Bool.true_eq_false, Bool.false_eq_true, Int.toNat_natCast, Int.ofNat_lt, Int.ofNat_le, not_true_eq_false, not_false_eq_true, or_false, false_or, and_true, true_and, or_true, true_or, and_false, false_and, InK, Path.imp, List.length_replicate, List.length_set, List.length_append, List.length_cons, List.length_nil] at *); omega)) | (refine app_le rfl ?_; omega))); done)); (conv => whnf))
    | ((with_reducible refine And.intro (Side.out ?_) ?_); rotate_left; (conv => whnf))
    | (refine retF1 ?_ <;> (conv => whnf) <;> repeat' (first
 | exact trivial
 | (with_reducible rfl)
 | ((with_reducible refine And.intro ?_ ?_) <;> conv => whnf)
 | omega
 | rfl
 | (refine congrArg (SV.arr _) ?_)
 | (refine congrArg (Value.int _) ?_)
 | (refine congrArg Value.bool ?_)))
 | (refine retF2 ?_ <;> (conv => whnf) <;> repeat' (first
 | exact trivial
 | (with_reducible rfl)
 | ((with_reducible refine And.intro ?_ ?_) <;> conv => whnf)
 | omega
 | rfl
 | (refine congrArg (SV.arr _) ?_)
 | (refine congrArg (Value.int _) ?_)
 | (refine congrArg Value.bool ?_)))); all_goals (try unfold Side)
  refine W.loop (fun i : Nat => ⟨[(0, .st false (.arr (.int .i64) fl)), (1, .st false (.arr (.sl (.int .i64)) gs)), (6, .lit (.int .i64 (val fl gs))), (7, .own 19000), (8, .lit (.int .i64 i))], [(19000, .row 3 (.int .i64) true (pricesT fl gs i))]⟩)
    (fun i => i ≤ fl.length) (fun i => fl.length - i) 0 ?_ ?_
  · refine ⟨Nat.zero_le _, ?_⟩
    refine subF.ok ?_ <;> (conv => whnf) <;> repeat' (first
 | exact trivial
 | (with_reducible rfl)
 | ((with_reducible refine And.intro ?_ ?_) <;> conv => whnf)
 | omega
 | rfl
 | (refine congrArg (SV.arr _) ?_)
 | (refine congrArg (Value.int _) ?_)
 | (refine congrArg Value.bool ?_))
  · intro i hi
    have hpl' : @List.length (Ty.int .i64).T (pricesT fl gs i) = i := pricesT_len
    by_cases hil : i < fl.length
    · have hv := h.val i hil
      have hB1 := Best_ref _ gs (h.more hs i)
      have hb1 := val_bound (fl := fl.set i (fl.getD i 0 + 1)) hG
      repeat' (first
 | refine W.seq ?_
 | refine W.block ?_
 | (refine W.resub (x := Code.region 7 _ _) (Γ' := ⟨[(0, .st false (.arr (.int .i64) fl)), (1, .st false (.arr (.sl (.int .i64)) gs)), (6, .lit (.int .i64 (val fl gs))), (7, .own 19000), (8, .lit (.int .i64 i)), (9, .own 28000)], [(19000, .row 3 (.int .i64) true (pricesT fl gs i)), (28000, .row 3 (.int .i64) true fl)]⟩) ?_ (W.region tys_ok [] ?_); rotate_left; (conv => whnf))
 | (refine W.region tys_ok [] ?_; conv => whnf)
 | (refine W.drawAll tys_ok [] mixed rfl ?_; conv => whnf)
 | (refine W.ret ?_; conv => whnf)
 | (refine W.skip ?_; conv => whnf)
 | (refine W.exit ?_; conv => whnf)
 | (refine call_at (al := false) (hB1) rfl rfl rfl rfl ?_; conv => whnf)

    | (refine W.cond rfl (fun hb => ?_) (fun hb => ?_) <;> (try simp only [minL, maxL, pickB, getD_int, getD_sl, getD_bool, len_int, len_sl, len_bool, decide_eq_true_eq, decide_eq_false_iff_not, Bool.and_eq_true, Bool.or_eq_true, Bool.and_eq_false_iff, Bool.or_eq_false_iff, Bool.not_eq_true', Bool.not_eq_false', Bool.true_eq_false, Bool.false_eq_true, Int.toNat_natCast, Int.ofNat_lt, Int.ofNat_le, not_true_eq_false, not_false_eq_true, or_false, false_or, and_true, true_and, or_true, true_or, and_false, false_and] at hb) <;> (try (first | (cases hb; done) | exact absurd hb (by decide) | (exfalso; omega))))
    | ((with_reducible refine And.intro ?_ ?_); (focus ((repeat' (first | (with_reducible rfl) | (with_reducible refine And.intro ?_ ?_) | omega | rfl | exact Or.inl rfl | exact Or.inr rfl | (focus ((try simp only [minL, maxL, pickB, getD_int, getD_sl, getD_bool, len_int, len_sl, len_bool, decide_eq_true_eq, decide_eq_false_iff_not, Bool.and_eq_true, Bool.or_eq_true, Bool.and_eq_false_iff, Bool.or_eq_false_iff, Bool.not_eq_true', Bool.not_eq_false', Bool.true_eq_false, Bool.false_eq_true, Int.toNat_natCast, Int.ofNat_lt, Int.ofNat_le, not_true_eq_false, not_false_eq_true, or_false, false_or, and_true, true_and, or_true, true_or, and_false, false_and, InK, Path.imp, List.length_replicate, List.length_set, List.length_append, List.length_cons, List.length_nil] at *); omega)) | (refine app_le rfl ?_; omega))); done)); (conv => whnf))
    | ((with_reducible refine And.intro (Side.out ?_) ?_); rotate_left; (conv => whnf))
    | (refine retF1 ?_ <;> (conv => whnf) <;> repeat' (first
 | exact trivial
 | (with_reducible rfl)
 | ((with_reducible refine And.intro ?_ ?_) <;> conv => whnf)
 | omega
 | rfl
 | (refine congrArg (SV.arr _) ?_)
 | (refine congrArg (Value.int _) ?_)
 | (refine congrArg Value.bool ?_)))
 | (refine retF2 ?_ <;> (conv => whnf) <;> repeat' (first
 | exact trivial
 | (with_reducible rfl)
 | ((with_reducible refine And.intro ?_ ?_) <;> conv => whnf)
 | omega
 | rfl
 | (refine congrArg (SV.arr _) ?_)
 | (refine congrArg (Value.int _) ?_)
 | (refine congrArg Value.bool ?_)))); all_goals (try unfold Side)
      all_goals try (repeat' (first | (with_reducible rfl) | (with_reducible refine And.intro ?_ ?_) | omega | rfl | exact Or.inl rfl | exact Or.inr rfl | (focus ((try simp only [minL, maxL, pickB, getD_int, getD_sl, getD_bool, len_int, len_sl, len_bool, decide_eq_true_eq, decide_eq_false_iff_not, Bool.and_eq_true, Bool.or_eq_true, Bool.and_eq_false_iff, Bool.or_eq_false_iff, Bool.not_eq_true', Bool.not_eq_false', Bool.true_eq_false, Bool.false_eq_true, Int.toNat_natCast, Int.ofNat_lt, Int.ofNat_le, not_true_eq_false, not_false_eq_true, or_false, false_or, and_true, true_and, or_true, true_or, and_false, false_and, InK, Path.imp, List.length_replicate, List.length_set, List.length_append, List.length_cons, List.length_nil] at *); omega)) | (refine app_le rfl ?_; omega)))
      rotate_left
      · refine subF.ok ?_ <;> (conv => whnf) <;> repeat' (first
 | exact trivial
 | (with_reducible rfl)
 | ((with_reducible refine And.intro ?_ ?_) <;> conv => whnf)
 | omega
 | rfl
 | (refine congrArg (SV.arr _) ?_)
 | (refine congrArg (Value.int _) ?_)
 | (refine congrArg Value.bool ?_))
      refine ⟨i + 1, ⟨by omega, by omega⟩, ?_⟩
      refine subF.ok ?_ <;> (conv => whnf) <;> repeat' (first
 | exact trivial
 | (with_reducible rfl)
 | ((with_reducible refine And.intro ?_ ?_) <;> conv => whnf)
 | omega
 | rfl
 | (refine congrArg (SV.arr _) ?_)
 | (refine congrArg (Value.int _) ?_)
 | (refine congrArg Value.bool ?_))
      exact pricesT_succ
    · have hie : i = fl.length := by omega
      subst hie
      repeat' (first
 | refine W.seq ?_
 | refine W.block ?_
 | (refine W.region tys_ok [] ?_; conv => whnf)
 | (refine W.drawAll tys_ok [] mixed rfl ?_; conv => whnf)
 | (refine W.ret ?_; conv => whnf)
 | (refine W.skip ?_; conv => whnf)
 | (refine W.exit ?_; conv => whnf)

    | (refine W.cond rfl (fun hb => ?_) (fun hb => ?_) <;> (try simp only [minL, maxL, pickB, getD_int, getD_sl, getD_bool, len_int, len_sl, len_bool, decide_eq_true_eq, decide_eq_false_iff_not, Bool.and_eq_true, Bool.or_eq_true, Bool.and_eq_false_iff, Bool.or_eq_false_iff, Bool.not_eq_true', Bool.not_eq_false', Bool.true_eq_false, Bool.false_eq_true, Int.toNat_natCast, Int.ofNat_lt, Int.ofNat_le, not_true_eq_false, not_false_eq_true, or_false, false_or, and_true, true_and, or_true, true_or, and_false, false_and] at hb) <;> (try (first | (cases hb; done) | exact absurd hb (by decide) | (exfalso; omega))))
    | ((with_reducible refine And.intro ?_ ?_); (focus ((repeat' (first | (with_reducible rfl) | (with_reducible refine And.intro ?_ ?_) | omega | rfl | exact Or.inl rfl | exact Or.inr rfl | (focus ((try simp only [minL, maxL, pickB, getD_int, getD_sl, getD_bool, len_int, len_sl, len_bool, decide_eq_true_eq, decide_eq_false_iff_not, Bool.and_eq_true, Bool.or_eq_true, Bool.and_eq_false_iff, Bool.or_eq_false_iff, Bool.not_eq_true', Bool.not_eq_false', Bool.true_eq_false, Bool.false_eq_true, Int.toNat_natCast, Int.ofNat_lt, Int.ofNat_le, not_true_eq_false, not_false_eq_true, or_false, false_or, and_true, true_and, or_true, true_or, and_false, false_and, InK, Path.imp, List.length_replicate, List.length_set, List.length_append, List.length_cons, List.length_nil] at *); omega)) | (refine app_le rfl ?_; omega))); done)); (conv => whnf))
    | ((with_reducible refine And.intro (Side.out ?_) ?_); rotate_left; (conv => whnf))
    | (refine retF1 ?_ <;> (conv => whnf) <;> repeat' (first
 | exact trivial
 | (with_reducible rfl)
 | ((with_reducible refine And.intro ?_ ?_) <;> conv => whnf)
 | omega
 | rfl
 | (refine congrArg (SV.arr _) ?_)
 | (refine congrArg (Value.int _) ?_)
 | (refine congrArg Value.bool ?_)))
 | (refine retF2 ?_ <;> (conv => whnf) <;> repeat' (first
 | exact trivial
 | (with_reducible rfl)
 | ((with_reducible refine And.intro ?_ ?_) <;> conv => whnf)
 | omega
 | rfl
 | (refine congrArg (SV.arr _) ?_)
 | (refine congrArg (Value.int _) ?_)
 | (refine congrArg Value.bool ?_)))); all_goals (try unfold Side)
      all_goals try (repeat' (first | (with_reducible rfl) | (with_reducible refine And.intro ?_ ?_) | omega | rfl | exact Or.inl rfl | exact Or.inr rfl | (focus ((try simp only [minL, maxL, pickB, getD_int, getD_sl, getD_bool, len_int, len_sl, len_bool, decide_eq_true_eq, decide_eq_false_iff_not, Bool.and_eq_true, Bool.or_eq_true, Bool.and_eq_false_iff, Bool.or_eq_false_iff, Bool.not_eq_true', Bool.not_eq_false', Bool.true_eq_false, Bool.false_eq_true, Int.toNat_natCast, Int.ofNat_lt, Int.ofNat_le, not_true_eq_false, not_false_eq_true, or_false, false_or, and_true, true_and, or_true, true_or, and_false, false_and, InK, Path.imp, List.length_replicate, List.length_set, List.length_append, List.length_cons, List.length_nil] at *); omega)) | (refine app_le rfl ?_; omega)))
set_option maxHeartbeats 2000000 in
theorem Prices_ok (fl : List Int) (gs : List (List Int)) (h1 : fl.length ≤ 1000) (h2 : gs.length ≤ 1000) (h3 : ∀ i, i < gs.length → (gs.getD i []).length ≤ 1000) :
    FnAt Try.prog false 30 [.arr (.int .i64) fl, .arr (.sl (.int .i64)) gs] (.tup [.own 0, .lit (.int .i64 (cond (riverOk fl gs) 0 1))]) [(0, .row 3 (.int .i64) true (cond (riverOk fl gs) (pricesT fl gs fl.length) []))] := by
  have hr := read_at fl gs h1 h2 h3
  cases hok : riverOk fl gs with
  | false =>
    rw [hok] at hr
    refine FnAt.of_body tys_ok Try.func30 (by rfl) rfl Try.ntmps30 (by rw [Try.results30]) (by simp) ?_
  
    repeat' (first
 | refine W.seq ?_
 | refine W.block ?_
 | (refine W.region tys_ok [] ?_; conv => whnf)
 | (refine W.drawAll tys_ok [] mixed rfl ?_; conv => whnf)
 | (refine W.ret ?_; conv => whnf)
 | (refine W.skip ?_; conv => whnf)
 | (refine W.exit ?_; conv => whnf)
 | (refine call_at (al := true) (hr) rfl rfl rfl rfl ?_; conv => whnf)

    | (refine W.cond rfl (fun hb => ?_) (fun hb => ?_) <;> (try simp only [minL, maxL, pickB, getD_int, getD_sl, getD_bool, len_int, len_sl, len_bool, decide_eq_true_eq, decide_eq_false_iff_not, Bool.and_eq_true, Bool.or_eq_true, Bool.and_eq_false_iff, Bool.or_eq_false_iff, Bool.not_eq_true', Bool.not_eq_false', Bool.true_eq_false, Bool.false_eq_true, Int.toNat_natCast, Int.ofNat_lt, Int.ofNat_le, not_true_eq_false, not_false_eq_true, or_false, false_or, and_true, true_and, or_true, true_or, and_false, false_and] at hb) <;> (try (first | (cases hb; done) | exact absurd hb (by decide) | (exfalso; omega))))
    | ((with_reducible refine And.intro ?_ ?_); (focus ((repeat' (first | (with_reducible rfl) | (with_reducible refine And.intro ?_ ?_) | omega | rfl | exact Or.inl rfl | exact Or.inr rfl | (focus ((try simp only [minL, maxL, pickB, getD_int, getD_sl, getD_bool, len_int, len_sl, len_bool, decide_eq_true_eq, decide_eq_false_iff_not, Bool.and_eq_true, Bool.or_eq_true, Bool.and_eq_false_iff, Bool.or_eq_false_iff, Bool.not_eq_true', Bool.not_eq_false', Bool.true_eq_false, Bool.false_eq_true, Int.toNat_natCast, Int.ofNat_lt, Int.ofNat_le, not_true_eq_false, not_false_eq_true, or_false, false_or, and_true, true_and, or_true, true_or, and_false, false_and, InK, Path.imp, List.length_replicate, List.length_set, List.length_append, List.length_cons, List.length_nil] at *); omega)) | (refine app_le rfl ?_; omega))); done)); (conv => whnf))
    | ((with_reducible refine And.intro (Side.out ?_) ?_); rotate_left; (conv => whnf))
    | (refine retF1 ?_ <;> (conv => whnf) <;> repeat' (first
 | exact trivial
 | (with_reducible rfl)
 | ((with_reducible refine And.intro ?_ ?_) <;> conv => whnf)
 | omega
 | rfl
 | (refine congrArg (SV.arr _) ?_)
 | (refine congrArg (Value.int _) ?_)
 | (refine congrArg Value.bool ?_)))
 | (refine retF2 ?_ <;> (conv => whnf) <;> repeat' (first
 | exact trivial
 | (with_reducible rfl)
 | ((with_reducible refine And.intro ?_ ?_) <;> conv => whnf)
 | omega
 | rfl
 | (refine congrArg (SV.arr _) ?_)
 | (refine congrArg (Value.int _) ?_)
 | (refine congrArg Value.bool ?_)))); all_goals (try unfold Side)
    all_goals try (repeat' (first | (with_reducible rfl) | (with_reducible refine And.intro ?_ ?_) | omega | rfl | exact Or.inl rfl | exact Or.inr rfl | (focus ((try simp only [minL, maxL, pickB, getD_int, getD_sl, getD_bool, len_int, len_sl, len_bool, decide_eq_true_eq, decide_eq_false_iff_not, Bool.and_eq_true, Bool.or_eq_true, Bool.and_eq_false_iff, Bool.or_eq_false_iff, Bool.not_eq_true', Bool.not_eq_false', Bool.true_eq_false, Bool.false_eq_true, Int.toNat_natCast, Int.ofNat_lt, Int.ofNat_le, not_true_eq_false, not_false_eq_true, or_false, false_or, and_true, true_and, or_true, true_or, and_false, false_and, InK, Path.imp, List.length_replicate, List.length_set, List.length_append, List.length_cons, List.length_nil] at *); omega)) | (refine app_le rfl ?_; omega)))
    all_goals cases hb
  | true =>
    rw [hok] at hr
    have hR := riverOk.river hok
    have h := riverOk.riv hok
    have hG := h.g
    have hl := h.len
    have hl8 := hG.len
    have hb0 := val_bound (fl := fl) hG
    have hv0 := value_at fl gs hG hl h.val
    refine FnAt.of_body tys_ok Try.func30 (by rfl) rfl Try.ntmps30 (by rw [Try.results30]) (by simp) ?_
  
    repeat' (first
 | refine W.seq ?_
 | refine W.block ?_
 | (refine W.region tys_ok [] ?_; conv => whnf)
 | (refine W.drawAll tys_ok [] mixed rfl ?_; conv => whnf)
 | (refine W.ret ?_; conv => whnf)
 | (refine W.skip ?_; conv => whnf)
 | (refine W.exit ?_; conv => whnf)
 | (refine call_at (al := true) (hr) rfl rfl rfl rfl ?_; conv => whnf)
 | (refine call_at (al := false) (hv0) rfl rfl rfl rfl ?_; conv => whnf)

    | (refine W.cond rfl (fun hb => ?_) (fun hb => ?_) <;> (try simp only [minL, maxL, pickB, getD_int, getD_sl, getD_bool, len_int, len_sl, len_bool, decide_eq_true_eq, decide_eq_false_iff_not, Bool.and_eq_true, Bool.or_eq_true, Bool.and_eq_false_iff, Bool.or_eq_false_iff, Bool.not_eq_true', Bool.not_eq_false', Bool.true_eq_false, Bool.false_eq_true, Int.toNat_natCast, Int.ofNat_lt, Int.ofNat_le, not_true_eq_false, not_false_eq_true, or_false, false_or, and_true, true_and, or_true, true_or, and_false, false_and] at hb) <;> (try (first | (cases hb; done) | exact absurd hb (by decide) | (exfalso; omega))))
    | ((with_reducible refine And.intro ?_ ?_); (focus ((repeat' (first | (with_reducible rfl) | (with_reducible refine And.intro ?_ ?_) | omega | rfl | exact Or.inl rfl | exact Or.inr rfl | (focus ((try simp only [minL, maxL, pickB, getD_int, getD_sl, getD_bool, len_int, len_sl, len_bool, decide_eq_true_eq, decide_eq_false_iff_not, Bool.and_eq_true, Bool.or_eq_true, Bool.and_eq_false_iff, Bool.or_eq_false_iff, Bool.not_eq_true', Bool.not_eq_false', Bool.true_eq_false, Bool.false_eq_true, Int.toNat_natCast, Int.ofNat_lt, Int.ofNat_le, not_true_eq_false, not_false_eq_true, or_false, false_or, and_true, true_and, or_true, true_or, and_false, false_and, InK, Path.imp, List.length_replicate, List.length_set, List.length_append, List.length_cons, List.length_nil] at *); omega)) | (refine app_le rfl ?_; omega))); done)); (conv => whnf))
    | ((with_reducible refine And.intro (Side.out ?_) ?_); rotate_left; (conv => whnf))
    | (refine retF1 ?_ <;> (conv => whnf) <;> repeat' (first
 | exact trivial
 | (with_reducible rfl)
 | ((with_reducible refine And.intro ?_ ?_) <;> conv => whnf)
 | omega
 | rfl
 | (refine congrArg (SV.arr _) ?_)
 | (refine congrArg (Value.int _) ?_)
 | (refine congrArg Value.bool ?_)))
 | (refine retF2 ?_ <;> (conv => whnf) <;> repeat' (first
 | exact trivial
 | (with_reducible rfl)
 | ((with_reducible refine And.intro ?_ ?_) <;> conv => whnf)
 | omega
 | rfl
 | (refine congrArg (SV.arr _) ?_)
 | (refine congrArg (Value.int _) ?_)
 | (refine congrArg Value.bool ?_)))); all_goals (try unfold Side)
    all_goals try (cases hb; done)
    refine W.loop (fun i : Nat => ⟨[(0, .st false (.arr (.int .i64) fl)), (1, .st false (.arr (.sl (.int .i64)) gs)), (8, .lit (.int .i64 (val fl gs))), (9, .own 37000), (22, .lit (.int .i64 fl.length)), (23, .lit (.int .i64 i))],
        [(37000, .row 3 (.int .i64) true (pricesT fl gs i))]⟩)
      (fun i => i ≤ fl.length) (fun i => fl.length - i) 0 ?_ ?_
    · refine ⟨by simp, ?_⟩
      refine subF.ok ?_ <;> (conv => whnf) <;> repeat' (first
 | exact trivial
 | (with_reducible rfl)
 | ((with_reducible refine And.intro ?_ ?_) <;> conv => whnf)
 | omega
 | rfl
 | (refine congrArg (SV.arr _) ?_)
 | (refine congrArg (Value.int _) ?_)
 | (refine congrArg Value.bool ?_))
    · intro i hi
      have hpl' : @List.length (Ty.int .i64).T (pricesT fl gs i) = i := pricesT_len
      by_cases hil : i < fl.length
      · have hv := h.val i hil
        have hw := with_at fl i hil (by omega) (by omega)
        have hv1 := value_at _ gs hG ((h.more (fun i hi => (hR.val i hi).2) i).len) (h.more (fun i hi => (hR.val i hi).2) i).val
        have hb1 := val_bound (fl := fl.set i (fl.getD i 0 + 1)) hG
        repeat' (first
 | refine W.seq ?_
 | refine W.block ?_
 | (refine W.region tys_ok [] ?_; conv => whnf)
 | (refine W.drawAll tys_ok [] mixed rfl ?_; conv => whnf)
 | (refine W.ret ?_; conv => whnf)
 | (refine W.skip ?_; conv => whnf)
 | (refine W.exit ?_; conv => whnf)
 | (refine call_at (al := false) (hw) rfl rfl rfl rfl ?_; conv => whnf)
 | (refine call_at (al := false) (hv1) rfl rfl rfl rfl ?_; conv => whnf)

    | (refine W.cond rfl (fun hb => ?_) (fun hb => ?_) <;> (try simp only [minL, maxL, pickB, getD_int, getD_sl, getD_bool, len_int, len_sl, len_bool, decide_eq_true_eq, decide_eq_false_iff_not, Bool.and_eq_true, Bool.or_eq_true, Bool.and_eq_false_iff, Bool.or_eq_false_iff, Bool.not_eq_true', Bool.not_eq_false', Bool.true_eq_false, Bool.false_eq_true, Int.toNat_natCast, Int.ofNat_lt, Int.ofNat_le, not_true_eq_false, not_false_eq_true, or_false, false_or, and_true, true_and, or_true, true_or, and_false, false_and] at hb) <;> (try (first | (cases hb; done) | exact absurd hb (by decide) | (exfalso; omega))))
    | ((with_reducible refine And.intro ?_ ?_); (focus ((repeat' (first | (with_reducible rfl) | (with_reducible refine And.intro ?_ ?_) | omega | rfl | exact Or.inl rfl | exact Or.inr rfl | (focus ((try simp only [minL, maxL, pickB, getD_int, getD_sl, getD_bool, len_int, len_sl, len_bool, decide_eq_true_eq, decide_eq_false_iff_not, Bool.and_eq_true, Bool.or_eq_true, Bool.and_eq_false_iff, Bool.or_eq_false_iff, Bool.not_eq_true', Bool.not_eq_false', Bool.true_eq_false, Bool.false_eq_true, Int.toNat_natCast, Int.ofNat_lt, Int.ofNat_le, not_true_eq_false, not_false_eq_true, or_false, false_or, and_true, true_and, or_true, true_or, and_false, false_and, InK, Path.imp, List.length_replicate, List.length_set, List.length_append, List.length_cons, List.length_nil] at *); omega)) | (refine app_le rfl ?_; omega))); done)); (conv => whnf))
    | ((with_reducible refine And.intro (Side.out ?_) ?_); rotate_left; (conv => whnf))
    | (refine retF1 ?_ <;> (conv => whnf) <;> repeat' (first
 | exact trivial
 | (with_reducible rfl)
 | ((with_reducible refine And.intro ?_ ?_) <;> conv => whnf)
 | omega
 | rfl
 | (refine congrArg (SV.arr _) ?_)
 | (refine congrArg (Value.int _) ?_)
 | (refine congrArg Value.bool ?_)))
 | (refine retF2 ?_ <;> (conv => whnf) <;> repeat' (first
 | exact trivial
 | (with_reducible rfl)
 | ((with_reducible refine And.intro ?_ ?_) <;> conv => whnf)
 | omega
 | rfl
 | (refine congrArg (SV.arr _) ?_)
 | (refine congrArg (Value.int _) ?_)
 | (refine congrArg Value.bool ?_)))); all_goals (try unfold Side)
        all_goals try (repeat' (first | (with_reducible rfl) | (with_reducible refine And.intro ?_ ?_) | omega | rfl | exact Or.inl rfl | exact Or.inr rfl | (focus ((try simp only [minL, maxL, pickB, getD_int, getD_sl, getD_bool, len_int, len_sl, len_bool, decide_eq_true_eq, decide_eq_false_iff_not, Bool.and_eq_true, Bool.or_eq_true, Bool.and_eq_false_iff, Bool.or_eq_false_iff, Bool.not_eq_true', Bool.not_eq_false', Bool.true_eq_false, Bool.false_eq_true, Int.toNat_natCast, Int.ofNat_lt, Int.ofNat_le, not_true_eq_false, not_false_eq_true, or_false, false_or, and_true, true_and, or_true, true_or, and_false, false_and, InK, Path.imp, List.length_replicate, List.length_set, List.length_append, List.length_cons, List.length_nil] at *); omega)) | (refine app_le rfl ?_; omega)))
        refine ⟨i + 1, ⟨by omega, by omega⟩, ?_⟩
        refine subF.ok ?_ <;> (conv => whnf) <;> repeat' (first
 | exact trivial
 | (with_reducible rfl)
 | ((with_reducible refine And.intro ?_ ?_) <;> conv => whnf)
 | omega
 | rfl
 | (refine congrArg (SV.arr _) ?_)
 | (refine congrArg (Value.int _) ?_)
 | (refine congrArg Value.bool ?_))
        exact pricesT_succ
      · have hie : i = fl.length := by omega
        subst hie
        repeat' (first
 | refine W.seq ?_
 | refine W.block ?_
 | (refine W.region tys_ok [] ?_; conv => whnf)
 | (refine W.drawAll tys_ok [] mixed rfl ?_; conv => whnf)
 | (refine W.ret ?_; conv => whnf)
 | (refine W.skip ?_; conv => whnf)
 | (refine W.exit ?_; conv => whnf)

    | (refine W.cond rfl (fun hb => ?_) (fun hb => ?_) <;> (try simp only [minL, maxL, pickB, getD_int, getD_sl, getD_bool, len_int, len_sl, len_bool, decide_eq_true_eq, decide_eq_false_iff_not, Bool.and_eq_true, Bool.or_eq_true, Bool.and_eq_false_iff, Bool.or_eq_false_iff, Bool.not_eq_true', Bool.not_eq_false', Bool.true_eq_false, Bool.false_eq_true, Int.toNat_natCast, Int.ofNat_lt, Int.ofNat_le, not_true_eq_false, not_false_eq_true, or_false, false_or, and_true, true_and, or_true, true_or, and_false, false_and] at hb) <;> (try (first | (cases hb; done) | exact absurd hb (by decide) | (exfalso; omega))))
    | ((with_reducible refine And.intro ?_ ?_); (focus ((repeat' (first | (with_reducible rfl) | (with_reducible refine And.intro ?_ ?_) | omega | rfl | exact Or.inl rfl | exact Or.inr rfl | (focus ((try simp only [minL, maxL, pickB, getD_int, getD_sl, getD_bool, len_int, len_sl, len_bool, decide_eq_true_eq, decide_eq_false_iff_not, Bool.and_eq_true, Bool.or_eq_true, Bool.and_eq_false_iff, Bool.or_eq_false_iff, Bool.not_eq_true', Bool.not_eq_false', Bool.true_eq_false, Bool.false_eq_true, Int.toNat_natCast, Int.ofNat_lt, Int.ofNat_le, not_true_eq_false, not_false_eq_true, or_false, false_or, and_true, true_and, or_true, true_or, and_false, false_and, InK, Path.imp, List.length_replicate, List.length_set, List.length_append, List.length_cons, List.length_nil] at *); omega)) | (refine app_le rfl ?_; omega))); done)); (conv => whnf))
    | ((with_reducible refine And.intro (Side.out ?_) ?_); rotate_left; (conv => whnf))
    | (refine retF1 ?_ <;> (conv => whnf) <;> repeat' (first
 | exact trivial
 | (with_reducible rfl)
 | ((with_reducible refine And.intro ?_ ?_) <;> conv => whnf)
 | omega
 | rfl
 | (refine congrArg (SV.arr _) ?_)
 | (refine congrArg (Value.int _) ?_)
 | (refine congrArg Value.bool ?_)))
 | (refine retF2 ?_ <;> (conv => whnf) <;> repeat' (first
 | exact trivial
 | (with_reducible rfl)
 | ((with_reducible refine And.intro ?_ ?_) <;> conv => whnf)
 | omega
 | rfl
 | (refine congrArg (SV.arr _) ?_)
 | (refine congrArg (Value.int _) ?_)
 | (refine congrArg Value.bool ?_)))); all_goals (try unfold Side)
        all_goals try (repeat' (first | (with_reducible rfl) | (with_reducible refine And.intro ?_ ?_) | omega | rfl | exact Or.inl rfl | exact Or.inr rfl | (focus ((try simp only [minL, maxL, pickB, getD_int, getD_sl, getD_bool, len_int, len_sl, len_bool, decide_eq_true_eq, decide_eq_false_iff_not, Bool.and_eq_true, Bool.or_eq_true, Bool.and_eq_false_iff, Bool.or_eq_false_iff, Bool.not_eq_true', Bool.not_eq_false', Bool.true_eq_false, Bool.false_eq_true, Int.toNat_natCast, Int.ofNat_lt, Int.ofNat_le, not_true_eq_false, not_false_eq_true, or_false, false_or, and_true, true_and, or_true, true_or, and_false, false_and, InK, Path.imp, List.length_replicate, List.length_set, List.length_append, List.length_cons, List.length_nil] at *); omega)) | (refine app_le rfl ?_; omega)))

theorem Shares_bad {fl : List Int} {gs : List (List Int)} (hok : riverOk fl gs = false) (h1 : fl.length ≤ 1000) (h2 : gs.length ≤ 1000) (h3 : ∀ i, i < gs.length → (gs.getD i []).length ≤ 1000) :
    FnAt Try.prog false 29 [.arr (.int .i64) fl, .arr (.sl (.int .i64)) gs] (.tup [.own 0, .lit (.int .i64 1)]) [(0, .row 3 (.int .i64) true [])] := by
  have h := Shares_ok fl gs h1 h2 h3
  rw [hok] at h
  exact h
theorem Shares_good {fl : List Int} {gs : List (List Int)} (hok : riverOk fl gs = true) (h1 : fl.length ≤ 1000) (h2 : gs.length ≤ 1000) (h3 : ∀ i, i < gs.length → (gs.getD i []).length ≤ 1000) :
    FnAt Try.prog false 29 [.arr (.int .i64) fl, .arr (.sl (.int .i64)) gs] (.tup [.own 0, .lit (.int .i64 0)]) [(0, .row 3 (.int .i64) true (sharesT fl gs fl.length))] := by
  have h := Shares_ok fl gs h1 h2 h3
  rw [hok] at h
  exact h
theorem Prices_bad {fl : List Int} {gs : List (List Int)} (hok : riverOk fl gs = false) (h1 : fl.length ≤ 1000) (h2 : gs.length ≤ 1000) (h3 : ∀ i, i < gs.length → (gs.getD i []).length ≤ 1000) :
    FnAt Try.prog false 30 [.arr (.int .i64) fl, .arr (.sl (.int .i64)) gs] (.tup [.own 0, .lit (.int .i64 1)]) [(0, .row 3 (.int .i64) true [])] := by
  have h := Prices_ok fl gs h1 h2 h3
  rw [hok] at h
  exact h
theorem Prices_good {fl : List Int} {gs : List (List Int)} (hok : riverOk fl gs = true) (h1 : fl.length ≤ 1000) (h2 : gs.length ≤ 1000) (h3 : ∀ i, i < gs.length → (gs.getD i []).length ≤ 1000) :
    FnAt Try.prog false 30 [.arr (.int .i64) fl, .arr (.sl (.int .i64)) gs] (.tup [.own 0, .lit (.int .i64 0)]) [(0, .row 3 (.int .i64) true (pricesT fl gs fl.length))] := by
  have h := Prices_ok fl gs h1 h2 h3
  rw [hok] at h
  exact h
set_option maxHeartbeats 2000000 in
theorem WaterShares_at (fl : List Int) (gs : List (List Int)) : FnAt Try.prog false 7 [.agg [.arr (.int .i64) fl, .arr (.sl (.int .i64)) gs]] (.lit (.bool true)) [] := by
  obtain ⟨F, hF⟩ : ∃ F, F = fl.take 9 := ⟨_, rfl⟩
  obtain ⟨G, hG⟩ : ∃ G, G = fewG gs := ⟨_, rfl⟩
  have hfew := few_eq hF hG
  obtain ⟨hl1, hl2, hl3⟩ := (few_few hF hG).len
  clear hF hG
  have hRv := River_ref F G hl1 hl2 hl3
  cases hok : riverOk F G with
  | false =>
    rw [hok] at hRv
    have hS := Shares_bad hok hl1 hl2 hl3
    have hP := Prices_bad hok hl1 hl2 hl3
    refine FnAt.of_body tys_ok Try.func7 (by rfl) rfl Try.ntmps7 (by rw [Try.results7]) (by simp) ?_
  
    repeat' (first
 | refine W.seq ?_
 | refine W.block ?_
 | (refine W.region tys_ok [] ?_; conv => whnf)
 | (refine W.drawAll tys_ok [] mixed rfl ?_; conv => whnf)
 | (refine W.ret ?_; conv => whnf)
 | (refine W.skip ?_; conv => whnf)
 | (refine W.exit ?_; conv => whnf)
 | (refine call_at (al := false) (hfew) rfl rfl rfl rfl ?_; conv => whnf)
 | (refine call_at (al := false) (hRv) rfl rfl rfl rfl ?_; conv => whnf)
 | (refine call_at (al := false) (hS) rfl rfl rfl rfl ?_; conv => whnf)
 | (refine call_at (al := false) (hP) rfl rfl rfl rfl ?_; conv => whnf)
 | (refine call_at (al := false) (lives_at) rfl rfl rfl rfl ?_; conv => whnf)

    | (refine W.cond rfl (fun hb => ?_) (fun hb => ?_) <;> (try simp only [minL, maxL, pickB, getD_int, getD_sl, getD_bool, len_int, len_sl, len_bool, decide_eq_true_eq, decide_eq_false_iff_not, Bool.and_eq_true, Bool.or_eq_true, Bool.and_eq_false_iff, Bool.or_eq_false_iff, Bool.not_eq_true', Bool.not_eq_false', Bool.true_eq_false, Bool.false_eq_true, Int.toNat_natCast, Int.ofNat_lt, Int.ofNat_le, not_true_eq_false, not_false_eq_true, or_false, false_or, and_true, true_and, or_true, true_or, and_false, false_and] at hb) <;> (try (first | (cases hb; done) | exact absurd hb (by decide) | (exfalso; omega))))
    | ((with_reducible refine And.intro ?_ ?_); (focus ((repeat' (first | (with_reducible rfl) | (with_reducible refine And.intro ?_ ?_) | omega | rfl | exact Or.inl rfl | exact Or.inr rfl | (focus ((try simp only [minL, maxL, pickB, getD_int, getD_sl, getD_bool, len_int, len_sl, len_bool, decide_eq_true_eq, decide_eq_false_iff_not, Bool.and_eq_true, Bool.or_eq_true, Bool.and_eq_false_iff, Bool.or_eq_false_iff, Bool.not_eq_true', Bool.not_eq_false', Bool.true_eq_false, Bool.false_eq_true, Int.toNat_natCast, Int.ofNat_lt, Int.ofNat_le, not_true_eq_false, not_false_eq_true, or_false, false_or, and_true, true_and, or_true, true_or, and_false, false_and, InK, Path.imp, List.length_replicate, List.length_set, List.length_append, List.length_cons, List.length_nil] at *); omega)) | (refine app_le rfl ?_; omega))); done)); (conv => whnf))
    | ((with_reducible refine And.intro (Side.out ?_) ?_); rotate_left; (conv => whnf))
    | (refine retF1 ?_ <;> (conv => whnf) <;> repeat' (first
 | exact trivial
 | (with_reducible rfl)
 | ((with_reducible refine And.intro ?_ ?_) <;> conv => whnf)
 | omega
 | rfl
 | (refine congrArg (SV.arr _) ?_)
 | (refine congrArg (Value.int _) ?_)
 | (refine congrArg Value.bool ?_)))
 | (refine retF2 ?_ <;> (conv => whnf) <;> repeat' (first
 | exact trivial
 | (with_reducible rfl)
 | ((with_reducible refine And.intro ?_ ?_) <;> conv => whnf)
 | omega
 | rfl
 | (refine congrArg (SV.arr _) ?_)
 | (refine congrArg (Value.int _) ?_)
 | (refine congrArg Value.bool ?_)))); all_goals (try unfold Side)
    all_goals try (repeat' (first | (with_reducible rfl) | (with_reducible refine And.intro ?_ ?_) | omega | rfl | exact Or.inl rfl | exact Or.inr rfl | (focus ((try simp only [minL, maxL, pickB, getD_int, getD_sl, getD_bool, len_int, len_sl, len_bool, decide_eq_true_eq, decide_eq_false_iff_not, Bool.and_eq_true, Bool.or_eq_true, Bool.and_eq_false_iff, Bool.or_eq_false_iff, Bool.not_eq_true', Bool.not_eq_false', Bool.true_eq_false, Bool.false_eq_true, Int.toNat_natCast, Int.ofNat_lt, Int.ofNat_le, not_true_eq_false, not_false_eq_true, or_false, false_or, and_true, true_and, or_true, true_or, and_false, false_and, InK, Path.imp, List.length_replicate, List.length_set, List.length_append, List.length_cons, List.length_nil] at *); omega)) | (refine app_le rfl ?_; omega)))
  | true =>
    rw [hok] at hRv
    have hS := Shares_good hok hl1 hl2 hl3
    have hP := Prices_good hok hl1 hl2 hl3
    have hR := riverOk.river hok
    have h := riverOk.riv hok
    have hSr := Shares_ref F G h
    have hPr := Prices_ref F G h fun i hi => (hR.val i hi).2
    have hs1 := same_self (sharesT F G F.length) (by rw [sharesT_len]; omega)
    have hs2 := same_self (pricesT F G F.length) (by rw [pricesT_len]; omega)
    refine FnAt.of_body tys_ok Try.func7 (by rfl) rfl Try.ntmps7 (by rw [Try.results7]) (by simp) ?_
  
    repeat' (first
 | refine W.seq ?_
 | refine W.block ?_
 | (refine W.region tys_ok [] ?_; conv => whnf)
 | (refine W.drawAll tys_ok [] mixed rfl ?_; conv => whnf)
 | (refine W.ret ?_; conv => whnf)
 | (refine W.skip ?_; conv => whnf)
 | (refine W.exit ?_; conv => whnf)
 | (refine call_at (al := false) (hfew) rfl rfl rfl rfl ?_; conv => whnf)
 | (refine call_at (al := false) (hRv) rfl rfl rfl rfl ?_; conv => whnf)
 | (refine call_at (al := false) (hS) rfl rfl rfl rfl ?_; conv => whnf)
 | (refine call_at (al := false) (hP) rfl rfl rfl rfl ?_; conv => whnf)
 | (refine call_at (al := false) (hSr) rfl rfl rfl rfl ?_; conv => whnf)
 | (refine call_at (al := false) (hPr) rfl rfl rfl rfl ?_; conv => whnf)
 | (refine call_at (al := false) (hs1) rfl rfl rfl rfl ?_; conv => whnf)
 | (refine call_at (al := false) (hs2) rfl rfl rfl rfl ?_; conv => whnf)
 | (refine call_at (al := false) (lives_at) rfl rfl rfl rfl ?_; conv => whnf)

    | (refine W.cond rfl (fun hb => ?_) (fun hb => ?_) <;> (try simp only [minL, maxL, pickB, getD_int, getD_sl, getD_bool, len_int, len_sl, len_bool, decide_eq_true_eq, decide_eq_false_iff_not, Bool.and_eq_true, Bool.or_eq_true, Bool.and_eq_false_iff, Bool.or_eq_false_iff, Bool.not_eq_true', Bool.not_eq_false', Bool.true_eq_false, Bool.false_eq_true, Int.toNat_natCast, Int.ofNat_lt, Int.ofNat_le, not_true_eq_false, not_false_eq_true, or_false, false_or, and_true, true_and, or_true, true_or, and_false, false_and] at hb) <;> (try (first | (cases hb; done) | exact absurd hb (by decide) | (exfalso; omega))))
    | ((with_reducible refine And.intro ?_ ?_); (focus ((repeat' (first | (with_reducible rfl) | (with_reducible refine And.intro ?_ ?_) | omega | rfl | exact Or.inl rfl | exact Or.inr rfl | (focus ((try simp only [minL, maxL, pickB, getD_int, getD_sl, getD_bool, len_int, len_sl, len_bool, decide_eq_true_eq, decide_eq_false_iff_not, Bool.and_eq_true, Bool.or_eq_true, Bool.and_eq_false_iff, Bool.or_eq_false_iff, Bool.not_eq_true', Bool.not_eq_false', Bool.true_eq_false, Bool.false_eq_true, Int.toNat_natCast, Int.ofNat_lt, Int.ofNat_le, not_true_eq_false, not_false_eq_true, or_false, false_or, and_true, true_and, or_true, true_or, and_false, false_and, InK, Path.imp, List.length_replicate, List.length_set, List.length_append, List.length_cons, List.length_nil] at *); omega)) | (refine app_le rfl ?_; omega))); done)); (conv => whnf))
    | ((with_reducible refine And.intro (Side.out ?_) ?_); rotate_left; (conv => whnf))
    | (refine retF1 ?_ <;> (conv => whnf) <;> repeat' (first
 | exact trivial
 | (with_reducible rfl)
 | ((with_reducible refine And.intro ?_ ?_) <;> conv => whnf)
 | omega
 | rfl
 | (refine congrArg (SV.arr _) ?_)
 | (refine congrArg (Value.int _) ?_)
 | (refine congrArg Value.bool ?_)))
 | (refine retF2 ?_ <;> (conv => whnf) <;> repeat' (first
 | exact trivial
 | (with_reducible rfl)
 | ((with_reducible refine And.intro ?_ ?_) <;> conv => whnf)
 | omega
 | rfl
 | (refine congrArg (SV.arr _) ?_)
 | (refine congrArg (Value.int _) ?_)
 | (refine congrArg Value.bool ?_)))); all_goals (try unfold Side)
    all_goals try (repeat' (first | (with_reducible rfl) | (with_reducible refine And.intro ?_ ?_) | omega | rfl | exact Or.inl rfl | exact Or.inr rfl | (focus ((try simp only [minL, maxL, pickB, getD_int, getD_sl, getD_bool, len_int, len_sl, len_bool, decide_eq_true_eq, decide_eq_false_iff_not, Bool.and_eq_true, Bool.or_eq_true, Bool.and_eq_false_iff, Bool.or_eq_false_iff, Bool.not_eq_true', Bool.not_eq_false', Bool.true_eq_false, Bool.false_eq_true, Int.toNat_natCast, Int.ofNat_lt, Int.ofNat_le, not_true_eq_false, not_false_eq_true, or_false, false_or, and_true, true_and, or_true, true_or, and_false, false_and, InK, Path.imp, List.length_replicate, List.length_set, List.length_append, List.length_cons, List.length_nil] at *); omega)) | (refine app_le rfl ?_; omega)))
end Go.Proofs.Ytohfemfgnohhdaa
/- Groups: of the program and of the document. No condition. -/
namespace Go.Proofs.Ytohfemfgnohhdaa
open Go Go.Vc
set_option linter.unusedVariables false
set_option linter.unusedSimpArgs false

def okAt (n : Nat) (g : List Int) (i : Nat) : Bool := decide (0 ≤ g.getD i 0) && decide (g.getD i 0 < n) && (decide (i = 0) || decide (g.getD (i - 1) 0 < g.getD i 0))
def grpB (n : Nat) (g : List Int) : Bool := (List.range g.length).all (okAt n g)
theorem okAt_false {n : Nat} {g : List Int} {i : Nat} : okAt n g i = false ↔ g.getD i 0 < 0 ∨ (n : Int) ≤ g.getD i 0 ∨ 0 < i ∧ g.getD i 0 ≤ g.getD (i - 1) 0 := by
  simp only [okAt, Bool.and_eq_false_iff, Bool.or_eq_false_iff, decide_eq_false_iff_not]
  omega
theorem okAt_true {n : Nat} {g : List Int} {i : Nat} : okAt n g i = true ↔ 0 ≤ g.getD i 0 ∧ g.getD i 0 < n ∧ (i = 0 ∨ g.getD (i - 1) 0 < g.getD i 0) := by
  simp only [okAt, Bool.and_eq_true, Bool.or_eq_true, decide_eq_true_eq]
  omega
theorem grpB_true {n : Nat} {g : List Int} (h : ∀ i, i < g.length → okAt n g i = true) : grpB n g = true :=
  List.all_eq_true.2 fun i hi => h i (List.mem_range.1 hi)
theorem grpB_false {n : Nat} {g : List Int} {i : Nat} (hi : i < g.length) (h : okAt n g i = false) : grpB n g = false := by
  cases e : grpB n g with
  | false => rfl
  | true =>
    have := List.all_eq_true.1 e i (List.mem_range.2 hi)
    rw [h] at this
    cases this
theorem grpB.grp {n : Nat} {g : List Int} (h : grpB n g = true) : Grp n g := by
  have h1 : ∀ i, i < g.length → okAt n g i = true := fun i hi => List.all_eq_true.1 h i (List.mem_range.2 hi)
  refine ⟨fun i hi => ?_, fun i hi => ?_⟩
  · have := okAt_true.1 (h1 i hi); omega
  · have := okAt_true.1 (h1 (i + 1) hi); simp only [Nat.add_sub_cancel] at this; omega
theorem Grp.grpB {n : Nat} {g : List Int} (h : Grp n g) : grpB n g = true := by
  refine grpB_true fun i hi => okAt_true.2 ?_
  have := h.val i hi
  refine ⟨this.1, this.2, ?_⟩
  cases i with
  | zero => exact .inl rfl
  | succ i => exact .inr (h.rise i hi)
set_option maxHeartbeats 2000000 in
theorem Group_ref (n : Nat) (g : List Int) (hn : 1 ≤ n ∧ n ≤ 1000) (hg : g.length ≤ 1000) : FnAt Try.prog false 36 [.lit (.int .i64 n), .arr (.int .i64) g] (.lit (.bool (grpB n g))) [] := by
  refine FnAt.of_body tys_ok Try.func36 (by rfl) rfl Try.ntmps36 (by rw [Try.results36]) (by simp) ?_
  
  repeat' (first
 | refine W.seq ?_
 | refine W.block ?_
 | (refine W.region tys_ok [] ?_; conv => whnf)
 | (refine W.drawAll tys_ok [] mixed rfl ?_; conv => whnf)
 | (refine W.ret ?_; conv => whnf)
 | (refine W.skip ?_; conv => whnf)
 | (refine W.exit ?_; conv => whnf)

    | (refine W.cond rfl (fun hb => ?_) (fun hb => ?_) <;> (try simp only [minL, maxL, pickB, getD_int, getD_sl, getD_bool, len_int, len_sl, len_bool, decide_eq_true_eq, decide_eq_false_iff_not, Bool.and_eq_true, Bool.or_eq_true, Bool.and_eq_false_iff, Bool.or_eq_false_iff, Bool.not_eq_true', Bool.not_eq_false', Bool.true_eq_false, Bool.false_eq_true, Int.toNat_natCast, Int.ofNat_lt, Int.ofNat_le, not_true_eq_false, not_false_eq_true, or_false, false_or, and_true, true_and, or_true, true_or, and_false, false_and] at hb) <;> (try (first | (cases hb; done) | exact absurd hb (by decide) | (exfalso; omega))))
    | ((with_reducible refine And.intro ?_ ?_); (focus ((repeat' (first | (with_reducible rfl) | (with_reducible refine And.intro ?_ ?_) | omega | rfl | exact Or.inl rfl | exact Or.inr rfl | (focus ((try simp only [minL, maxL, pickB, getD_int, getD_sl, getD_bool, len_int, len_sl, len_bool, decide_eq_true_eq, decide_eq_false_iff_not, Bool.and_eq_true, Bool.or_eq_true, Bool.and_eq_false_iff, Bool.or_eq_false_iff, Bool.not_eq_true', Bool.not_eq_false', Bool.true_eq_false, Bool.false_eq_true, Int.toNat_natCast, Int.ofNat_lt, Int.ofNat_le, not_true_eq_false, not_false_eq_true, or_false, false_or, and_true, true_and, or_true, true_or, and_false, false_and, InK, Path.imp, List.length_replicate, List.length_set, List.length_append, List.length_cons, List.length_nil] at *); omega)) | (refine app_le rfl ?_; omega))); done)); (conv => whnf))
    | ((with_reducible refine And.intro (Side.out ?_) ?_); rotate_left; (conv => whnf))
    | (refine retF1 ?_ <;> (conv => whnf) <;> repeat' (first
 | exact trivial
 | (with_reducible rfl)
 | ((with_reducible refine And.intro ?_ ?_) <;> conv => whnf)
 | omega
 | rfl
 | (refine congrArg (SV.arr _) ?_)
 | (refine congrArg (Value.int _) ?_)
 | (refine congrArg Value.bool ?_)))
 | (refine retF2 ?_ <;> (conv => whnf) <;> repeat' (first
 | exact trivial
 | (with_reducible rfl)
 | ((with_reducible refine And.intro ?_ ?_) <;> conv => whnf)
 | omega
 | rfl
 | (refine congrArg (SV.arr _) ?_)
 | (refine congrArg (Value.int _) ?_)
 | (refine congrArg Value.bool ?_)))); all_goals (try unfold Side)
  refine W.loop (fun i : Nat => ⟨[(0, .lit (.int .i64 n)), (1, .st false (.arr (.int .i64) g)), (5, .lit (.int .i64 i))], []⟩)
    (fun i => i ≤ g.length ∧ ∀ j, j < i → okAt n g j = true) (fun i => g.length - i) 0 ?_ ?_
  · refine ⟨⟨Nat.zero_le _, fun j hj => by omega⟩, ?_⟩
    refine subF.ok ?_ <;> (conv => whnf) <;> repeat' (first
 | exact trivial
 | (with_reducible rfl)
 | ((with_reducible refine And.intro ?_ ?_) <;> conv => whnf)
 | omega
 | rfl
 | (refine congrArg (SV.arr _) ?_)
 | (refine congrArg (Value.int _) ?_)
 | (refine congrArg Value.bool ?_))
  · rintro i ⟨hi, hj⟩
    have e1 : ((i : Int) - 1).toNat = i - 1 := by omega
    by_cases hil : i < g.length
    · have hin := in_at (g.getD i 0) 0 ((n : Int) - 1)
      repeat' (first
 | refine W.seq ?_
 | refine W.block ?_
 | (refine W.region tys_ok [] ?_; conv => whnf)
 | (refine W.drawAll tys_ok [] mixed rfl ?_; conv => whnf)
 | (refine W.ret ?_; conv => whnf)
 | (refine W.skip ?_; conv => whnf)
 | (refine W.exit ?_; conv => whnf)
 | (refine call_at (al := false) (hin) rfl rfl rfl rfl ?_; conv => whnf)

    | (refine W.cond rfl (fun hb => ?_) (fun hb => ?_) <;> (try simp only [minL, maxL, pickB, getD_int, getD_sl, getD_bool, len_int, len_sl, len_bool, decide_eq_true_eq, decide_eq_false_iff_not, Bool.and_eq_true, Bool.or_eq_true, Bool.and_eq_false_iff, Bool.or_eq_false_iff, Bool.not_eq_true', Bool.not_eq_false', Bool.true_eq_false, Bool.false_eq_true, Int.toNat_natCast, Int.ofNat_lt, Int.ofNat_le, not_true_eq_false, not_false_eq_true, or_false, false_or, and_true, true_and, or_true, true_or, and_false, false_and] at hb) <;> (try (first | (cases hb; done) | exact absurd hb (by decide) | (exfalso; omega))))
    | ((with_reducible refine And.intro ?_ ?_); (focus ((repeat' (first | (with_reducible rfl) | (with_reducible refine And.intro ?_ ?_) | omega | rfl | exact Or.inl rfl | exact Or.inr rfl | (focus ((try simp only [minL, maxL, pickB, getD_int, getD_sl, getD_bool, len_int, len_sl, len_bool, decide_eq_true_eq, decide_eq_false_iff_not, Bool.and_eq_true, Bool.or_eq_true, Bool.and_eq_false_iff, Bool.or_eq_false_iff, Bool.not_eq_true', Bool.not_eq_false', Bool.true_eq_false, Bool.false_eq_true, Int.toNat_natCast, Int.ofNat_lt, Int.ofNat_le, not_true_eq_false, not_false_eq_true, or_false, false_or, and_true, true_and, or_true, true_or, and_false, false_and, InK, Path.imp, List.length_replicate, List.length_set, List.length_append, List.length_cons, List.length_nil] at *); omega)) | (refine app_le rfl ?_; omega))); done)); (conv => whnf))
    | ((with_reducible refine And.intro (Side.out ?_) ?_); rotate_left; (conv => whnf))
    | (refine retF1 ?_ <;> (conv => whnf) <;> repeat' (first
 | exact trivial
 | (with_reducible rfl)
 | ((with_reducible refine And.intro ?_ ?_) <;> conv => whnf)
 | omega
 | rfl
 | (refine congrArg (SV.arr _) ?_)
 | (refine congrArg (Value.int _) ?_)
 | (refine congrArg Value.bool ?_)))
 | (refine retF2 ?_ <;> (conv => whnf) <;> repeat' (first
 | exact trivial
 | (with_reducible rfl)
 | ((with_reducible refine And.intro ?_ ?_) <;> conv => whnf)
 | omega
 | rfl
 | (refine congrArg (SV.arr _) ?_)
 | (refine congrArg (Value.int _) ?_)
 | (refine congrArg Value.bool ?_)))); all_goals (try unfold Side)
      all_goals try (repeat' (first | (with_reducible rfl) | (with_reducible refine And.intro ?_ ?_) | omega | rfl | exact Or.inl rfl | exact Or.inr rfl | (focus ((try simp only [minL, maxL, pickB, getD_int, getD_sl, getD_bool, len_int, len_sl, len_bool, decide_eq_true_eq, decide_eq_false_iff_not, Bool.and_eq_true, Bool.or_eq_true, Bool.and_eq_false_iff, Bool.or_eq_false_iff, Bool.not_eq_true', Bool.not_eq_false', Bool.true_eq_false, Bool.false_eq_true, Int.toNat_natCast, Int.ofNat_lt, Int.ofNat_le, not_true_eq_false, not_false_eq_true, or_false, false_or, and_true, true_and, or_true, true_or, and_false, false_and, InK, Path.imp, List.length_replicate, List.length_set, List.length_append, List.length_cons, List.length_nil] at *); omega)) | (refine app_le rfl ?_; omega)))
      · rename_i hb
        rw [e1] at hb
        exact (grpB_false hil (okAt_false.2 (by omega))).symm
      · rename_i hb
        rw [e1] at hb
        refine ⟨i + 1, ⟨⟨by omega, fun j hj1 => ?_⟩, by omega⟩, ?_⟩
        · by_cases e : j = i
          · subst e; exact okAt_true.2 (by omega)
          · exact hj j (by omega)
        · refine subF.ok ?_ <;> (conv => whnf) <;> repeat' (first
 | exact trivial
 | (with_reducible rfl)
 | ((with_reducible refine And.intro ?_ ?_) <;> conv => whnf)
 | omega
 | rfl
 | (refine congrArg (SV.arr _) ?_)
 | (refine congrArg (Value.int _) ?_)
 | (refine congrArg Value.bool ?_))
    · have hie : i = g.length := by omega
      subst hie
      repeat' (first
 | refine W.seq ?_
 | refine W.block ?_
 | (refine W.region tys_ok [] ?_; conv => whnf)
 | (refine W.drawAll tys_ok [] mixed rfl ?_; conv => whnf)
 | (refine W.ret ?_; conv => whnf)
 | (refine W.skip ?_; conv => whnf)
 | (refine W.exit ?_; conv => whnf)

    | (refine W.cond rfl (fun hb => ?_) (fun hb => ?_) <;> (try simp only [minL, maxL, pickB, getD_int, getD_sl, getD_bool, len_int, len_sl, len_bool, decide_eq_true_eq, decide_eq_false_iff_not, Bool.and_eq_true, Bool.or_eq_true, Bool.and_eq_false_iff, Bool.or_eq_false_iff, Bool.not_eq_true', Bool.not_eq_false', Bool.true_eq_false, Bool.false_eq_true, Int.toNat_natCast, Int.ofNat_lt, Int.ofNat_le, not_true_eq_false, not_false_eq_true, or_false, false_or, and_true, true_and, or_true, true_or, and_false, false_and] at hb) <;> (try (first | (cases hb; done) | exact absurd hb (by decide) | (exfalso; omega))))
    | ((with_reducible refine And.intro ?_ ?_); (focus ((repeat' (first | (with_reducible rfl) | (with_reducible refine And.intro ?_ ?_) | omega | rfl | exact Or.inl rfl | exact Or.inr rfl | (focus ((try simp only [minL, maxL, pickB, getD_int, getD_sl, getD_bool, len_int, len_sl, len_bool, decide_eq_true_eq, decide_eq_false_iff_not, Bool.and_eq_true, Bool.or_eq_true, Bool.and_eq_false_iff, Bool.or_eq_false_iff, Bool.not_eq_true', Bool.not_eq_false', Bool.true_eq_false, Bool.false_eq_true, Int.toNat_natCast, Int.ofNat_lt, Int.ofNat_le, not_true_eq_false, not_false_eq_true, or_false, false_or, and_true, true_and, or_true, true_or, and_false, false_and, InK, Path.imp, List.length_replicate, List.length_set, List.length_append, List.length_cons, List.length_nil] at *); omega)) | (refine app_le rfl ?_; omega))); done)); (conv => whnf))
    | ((with_reducible refine And.intro (Side.out ?_) ?_); rotate_left; (conv => whnf))
    | (refine retF1 ?_ <;> (conv => whnf) <;> repeat' (first
 | exact trivial
 | (with_reducible rfl)
 | ((with_reducible refine And.intro ?_ ?_) <;> conv => whnf)
 | omega
 | rfl
 | (refine congrArg (SV.arr _) ?_)
 | (refine congrArg (Value.int _) ?_)
 | (refine congrArg Value.bool ?_)))
 | (refine retF2 ?_ <;> (conv => whnf) <;> repeat' (first
 | exact trivial
 | (with_reducible rfl)
 | ((with_reducible refine And.intro ?_ ?_) <;> conv => whnf)
 | omega
 | rfl
 | (refine congrArg (SV.arr _) ?_)
 | (refine congrArg (Value.int _) ?_)
 | (refine congrArg Value.bool ?_)))); all_goals (try unfold Side)
      all_goals try (repeat' (first | (with_reducible rfl) | (with_reducible refine And.intro ?_ ?_) | omega | rfl | exact Or.inl rfl | exact Or.inr rfl | (focus ((try simp only [minL, maxL, pickB, getD_int, getD_sl, getD_bool, len_int, len_sl, len_bool, decide_eq_true_eq, decide_eq_false_iff_not, Bool.and_eq_true, Bool.or_eq_true, Bool.and_eq_false_iff, Bool.or_eq_false_iff, Bool.not_eq_true', Bool.not_eq_false', Bool.true_eq_false, Bool.false_eq_true, Int.toNat_natCast, Int.ofNat_lt, Int.ofNat_le, not_true_eq_false, not_false_eq_true, or_false, false_or, and_true, true_and, or_true, true_or, and_false, false_and, InK, Path.imp, List.length_replicate, List.length_set, List.length_append, List.length_cons, List.length_nil] at *); omega)) | (refine app_le rfl ?_; omega)))
      exact (grpB_true hj).symm
set_option maxHeartbeats 2000000 in
theorem group_bad1 {fl : List Int} {gs : List (List Int)} {g : List Int} (hok : riverOk fl gs = false) (h1 : fl.length ≤ 1000) (h2 : gs.length ≤ 1000) (h3 : ∀ i, i < gs.length → (gs.getD i []).length ≤ 1000) :
    FnAt Try.prog true 55 [.arr (.int .i64) fl, .arr (.sl (.int .i64)) gs, .arr (.int .i64) g] (.tup [.strct [.st true (.arr (.int .i64) []), .st true (.arr (.sl (.int .i64)) [])], .lit (.int .i64 1)]) [] := by
  have hr := read_at fl gs h1 h2 h3
  rw [hok] at hr
  refine FnAt.of_body tys_ok Try.func55 (by rfl) rfl Try.ntmps55 (by rw [Try.results55]) (by simp) ?_
  
  repeat' (first
 | refine W.seq ?_
 | refine W.block ?_
 | (refine W.region tys_ok [] ?_; conv => whnf)
 | (refine W.drawAll tys_ok [] mixed rfl ?_; conv => whnf)
 | (refine W.ret ?_; conv => whnf)
 | (refine W.skip ?_; conv => whnf)
 | (refine W.exit ?_; conv => whnf)
 | (refine call_at (al := true) (hr) rfl rfl rfl rfl ?_; conv => whnf)

    | (refine W.cond rfl (fun hb => ?_) (fun hb => ?_) <;> (try simp only [minL, maxL, pickB, getD_int, getD_sl, getD_bool, len_int, len_sl, len_bool, decide_eq_true_eq, decide_eq_false_iff_not, Bool.and_eq_true, Bool.or_eq_true, Bool.and_eq_false_iff, Bool.or_eq_false_iff, Bool.not_eq_true', Bool.not_eq_false', Bool.true_eq_false, Bool.false_eq_true, Int.toNat_natCast, Int.ofNat_lt, Int.ofNat_le, not_true_eq_false, not_false_eq_true, or_false, false_or, and_true, true_and, or_true, true_or, and_false, false_and] at hb) <;> (try (first | (cases hb; done) | exact absurd hb (by decide) | (exfalso; omega))))
    | ((with_reducible refine And.intro ?_ ?_); (focus ((repeat' (first | (with_reducible rfl) | (with_reducible refine And.intro ?_ ?_) | omega | rfl | exact Or.inl rfl | exact Or.inr rfl | (focus ((try simp only [minL, maxL, pickB, getD_int, getD_sl, getD_bool, len_int, len_sl, len_bool, decide_eq_true_eq, decide_eq_false_iff_not, Bool.and_eq_true, Bool.or_eq_true, Bool.and_eq_false_iff, Bool.or_eq_false_iff, Bool.not_eq_true', Bool.not_eq_false', Bool.true_eq_false, Bool.false_eq_true, Int.toNat_natCast, Int.ofNat_lt, Int.ofNat_le, not_true_eq_false, not_false_eq_true, or_false, false_or, and_true, true_and, or_true, true_or, and_false, false_and, InK, Path.imp, List.length_replicate, List.length_set, List.length_append, List.length_cons, List.length_nil] at *); omega)) | (refine app_le rfl ?_; omega))); done)); (conv => whnf))
    | ((with_reducible refine And.intro (Side.out ?_) ?_); rotate_left; (conv => whnf))
    | (refine retF1 ?_ <;> (conv => whnf) <;> repeat' (first
 | exact trivial
 | (with_reducible rfl)
 | ((with_reducible refine And.intro ?_ ?_) <;> conv => whnf)
 | omega
 | rfl
 | (refine congrArg (SV.arr _) ?_)
 | (refine congrArg (Value.int _) ?_)
 | (refine congrArg Value.bool ?_)))
 | (refine retF2 ?_ <;> (conv => whnf) <;> repeat' (first
 | exact trivial
 | (with_reducible rfl)
 | ((with_reducible refine And.intro ?_ ?_) <;> conv => whnf)
 | omega
 | rfl
 | (refine congrArg (SV.arr _) ?_)
 | (refine congrArg (Value.int _) ?_)
 | (refine congrArg Value.bool ?_)))); all_goals (try unfold Side)
  all_goals try (repeat' (first | (with_reducible rfl) | (with_reducible refine And.intro ?_ ?_) | omega | rfl | exact Or.inl rfl | exact Or.inr rfl | (focus ((try simp only [minL, maxL, pickB, getD_int, getD_sl, getD_bool, len_int, len_sl, len_bool, decide_eq_true_eq, decide_eq_false_iff_not, Bool.and_eq_true, Bool.or_eq_true, Bool.and_eq_false_iff, Bool.or_eq_false_iff, Bool.not_eq_true', Bool.not_eq_false', Bool.true_eq_false, Bool.false_eq_true, Int.toNat_natCast, Int.ofNat_lt, Int.ofNat_le, not_true_eq_false, not_false_eq_true, or_false, false_or, and_true, true_and, or_true, true_or, and_false, false_and, InK, Path.imp, List.length_replicate, List.length_set, List.length_append, List.length_cons, List.length_nil] at *); omega)) | (refine app_le rfl ?_; omega)))
set_option maxHeartbeats 2000000 in
theorem group_at {fl : List Int} {gs : List (List Int)} {g : List Int} {b : Bool} (hok : riverOk fl gs = true) (hg : grpB fl.length g = b) (hgl : g.length ≤ 1000) (h1 : fl.length ≤ 1000) (h2 : gs.length ≤ 1000) (h3 : ∀ i, i < gs.length → (gs.getD i []).length ≤ 1000) :
    FnAt Try.prog true 55 [.arr (.int .i64) fl, .arr (.sl (.int .i64)) gs, .arr (.int .i64) g] (.tup [.strct [.st true (.arr (.int .i64) (cond b fl [])), .st true (.arr (.sl (.int .i64)) (cond b gs []))], .lit (.int .i64 (cond b 0 2))]) [] := by
  have hr := read_at fl gs h1 h2 h3
  rw [hok] at hr
  refine FnAt.of_body tys_ok Try.func55 (by rfl) rfl Try.ntmps55 (by rw [Try.results55]) (by simp) ?_
  
  repeat' (first
 | refine W.seq ?_
 | refine W.block ?_
 | (refine W.region tys_ok [] ?_; conv => whnf)
 | (refine W.drawAll tys_ok [] mixed rfl ?_; conv => whnf)
 | (refine W.ret ?_; conv => whnf)
 | (refine W.skip ?_; conv => whnf)
 | (refine W.exit ?_; conv => whnf)
 | (refine call_at (al := true) (hr) rfl rfl rfl rfl ?_; conv => whnf)

    | (refine W.cond rfl (fun hb => ?_) (fun hb => ?_) <;> (try simp only [minL, maxL, pickB, getD_int, getD_sl, getD_bool, len_int, len_sl, len_bool, decide_eq_true_eq, decide_eq_false_iff_not, Bool.and_eq_true, Bool.or_eq_true, Bool.and_eq_false_iff, Bool.or_eq_false_iff, Bool.not_eq_true', Bool.not_eq_false', Bool.true_eq_false, Bool.false_eq_true, Int.toNat_natCast, Int.ofNat_lt, Int.ofNat_le, not_true_eq_false, not_false_eq_true, or_false, false_or, and_true, true_and, or_true, true_or, and_false, false_and] at hb) <;> (try (first | (cases hb; done) | exact absurd hb (by decide) | (exfalso; omega))))
    | ((with_reducible refine And.intro ?_ ?_); (focus ((repeat' (first | (with_reducible rfl) | (with_reducible refine And.intro ?_ ?_) | omega | rfl | exact Or.inl rfl | exact Or.inr rfl | (focus ((try simp only [minL, maxL, pickB, getD_int, getD_sl, getD_bool, len_int, len_sl, len_bool, decide_eq_true_eq, decide_eq_false_iff_not, Bool.and_eq_true, Bool.or_eq_true, Bool.and_eq_false_iff, Bool.or_eq_false_iff, Bool.not_eq_true', Bool.not_eq_false', Bool.true_eq_false, Bool.false_eq_true, Int.toNat_natCast, Int.ofNat_lt, Int.ofNat_le, not_true_eq_false, not_false_eq_true, or_false, false_or, and_true, true_and, or_true, true_or, and_false, false_and, InK, Path.imp, List.length_replicate, List.length_set, List.length_append, List.length_cons, List.length_nil] at *); omega)) | (refine app_le rfl ?_; omega))); done)); (conv => whnf))
    | ((with_reducible refine And.intro (Side.out ?_) ?_); rotate_left; (conv => whnf))
    | (refine retF1 ?_ <;> (conv => whnf) <;> repeat' (first
 | exact trivial
 | (with_reducible rfl)
 | ((with_reducible refine And.intro ?_ ?_) <;> conv => whnf)
 | omega
 | rfl
 | (refine congrArg (SV.arr _) ?_)
 | (refine congrArg (Value.int _) ?_)
 | (refine congrArg Value.bool ?_)))
 | (refine retF2 ?_ <;> (conv => whnf) <;> repeat' (first
 | exact trivial
 | (with_reducible rfl)
 | ((with_reducible refine And.intro ?_ ?_) <;> conv => whnf)
 | omega
 | rfl
 | (refine congrArg (SV.arr _) ?_)
 | (refine congrArg (Value.int _) ?_)
 | (refine congrArg Value.bool ?_)))); all_goals (try unfold Side)
  all_goals try (repeat' (first | (with_reducible rfl) | (with_reducible refine And.intro ?_ ?_) | omega | rfl | exact Or.inl rfl | exact Or.inr rfl | (focus ((try simp only [minL, maxL, pickB, getD_int, getD_sl, getD_bool, len_int, len_sl, len_bool, decide_eq_true_eq, decide_eq_false_iff_not, Bool.and_eq_true, Bool.or_eq_true, Bool.and_eq_false_iff, Bool.or_eq_false_iff, Bool.not_eq_true', Bool.not_eq_false', Bool.true_eq_false, Bool.false_eq_true, Int.toNat_natCast, Int.ofNat_lt, Int.ofNat_le, not_true_eq_false, not_false_eq_true, or_false, false_or, and_true, true_and, or_true, true_or, and_false, false_and, InK, Path.imp, List.length_replicate, List.length_set, List.length_append, List.length_cons, List.length_nil] at *); omega)) | (refine app_le rfl ?_; omega)))
  refine W.loop (fun i : Nat => ⟨[(6, .padr 7000 0), (8, .padr 9000 0), (0, .st true (.arr (.int .i64) fl)), (2, .st true (.arr (.int .i64) g)), (21, .st true (.arr (.int .i64) g)), (22, .lit (.int .i64 g.length)), (23, .lit (.int .i64 i))],
      [(7000, .box [.lit (.slice none 0 0), .lit (.slice none 0 0)]), (9000, .box [.st true (.arr (.int .i64) fl), .st true (.arr (.sl (.int .i64)) gs)])]⟩)
    (fun i => i ≤ g.length ∧ ∀ j, j < i → okAt fl.length g j = true) (fun i => g.length - i) 0 ?_ ?_
  · refine ⟨⟨Nat.zero_le _, fun j hj => by omega⟩, ?_⟩
    refine subF.ok ?_ <;> (conv => whnf) <;> repeat' (first
 | exact trivial
 | (with_reducible rfl)
 | ((with_reducible refine And.intro ?_ ?_) <;> conv => whnf)
 | omega
 | rfl
 | (refine congrArg (SV.arr _) ?_)
 | (refine congrArg (Value.int _) ?_)
 | (refine congrArg Value.bool ?_))
  · rintro i ⟨hi, hj⟩
    have e1 : ((i : Int) - 1).toNat = i - 1 := by omega
    by_cases hil : i < g.length
    · repeat' (first
 | refine W.seq ?_
 | refine W.block ?_
 | (refine W.region tys_ok [] ?_; conv => whnf)
 | (refine W.drawAll tys_ok [] mixed rfl ?_; conv => whnf)
 | (refine W.ret ?_; conv => whnf)
 | (refine W.skip ?_; conv => whnf)
 | (refine W.exit ?_; conv => whnf)

    | (refine W.cond rfl (fun hb => ?_) (fun hb => ?_) <;> (try simp only [minL, maxL, pickB, getD_int, getD_sl, getD_bool, len_int, len_sl, len_bool, decide_eq_true_eq, decide_eq_false_iff_not, Bool.and_eq_true, Bool.or_eq_true, Bool.and_eq_false_iff, Bool.or_eq_false_iff, Bool.not_eq_true', Bool.not_eq_false', Bool.true_eq_false, Bool.false_eq_true, Int.toNat_natCast, Int.ofNat_lt, Int.ofNat_le, not_true_eq_false, not_false_eq_true, or_false, false_or, and_true, true_and, or_true, true_or, and_false, false_and] at hb) <;> (try (first | (cases hb; done) | exact absurd hb (by decide) | (exfalso; omega))))
    | ((with_reducible refine And.intro ?_ ?_); (focus ((repeat' (first | (with_reducible rfl) | (with_reducible refine And.intro ?_ ?_) | omega | rfl | exact Or.inl rfl | exact Or.inr rfl | (focus ((try simp only [minL, maxL, pickB, getD_int, getD_sl, getD_bool, len_int, len_sl, len_bool, decide_eq_true_eq, decide_eq_false_iff_not, Bool.and_eq_true, Bool.or_eq_true, Bool.and_eq_false_iff, Bool.or_eq_false_iff, Bool.not_eq_true', Bool.not_eq_false', Bool.true_eq_false, Bool.false_eq_true, Int.toNat_natCast, Int.ofNat_lt, Int.ofNat_le, not_true_eq_false, not_false_eq_true, or_false, false_or, and_true, true_and, or_true, true_or, and_false, false_and, InK, Path.imp, List.length_replicate, List.length_set, List.length_append, List.length_cons, List.length_nil] at *); omega)) | (refine app_le rfl ?_; omega))); done)); (conv => whnf))
    | ((with_reducible refine And.intro (Side.out ?_) ?_); rotate_left; (conv => whnf))
    | (refine retF1 ?_ <;> (conv => whnf) <;> repeat' (first
 | exact trivial
 | (with_reducible rfl)
 | ((with_reducible refine And.intro ?_ ?_) <;> conv => whnf)
 | omega
 | rfl
 | (refine congrArg (SV.arr _) ?_)
 | (refine congrArg (Value.int _) ?_)
 | (refine congrArg Value.bool ?_)))
 | (refine retF2 ?_ <;> (conv => whnf) <;> repeat' (first
 | exact trivial
 | (with_reducible rfl)
 | ((with_reducible refine And.intro ?_ ?_) <;> conv => whnf)
 | omega
 | rfl
 | (refine congrArg (SV.arr _) ?_)
 | (refine congrArg (Value.int _) ?_)
 | (refine congrArg Value.bool ?_)))); all_goals (try unfold Side)
      all_goals try (repeat' (first | (with_reducible rfl) | (with_reducible refine And.intro ?_ ?_) | omega | rfl | exact Or.inl rfl | exact Or.inr rfl | (focus ((try simp only [minL, maxL, pickB, getD_int, getD_sl, getD_bool, len_int, len_sl, len_bool, decide_eq_true_eq, decide_eq_false_iff_not, Bool.and_eq_true, Bool.or_eq_true, Bool.and_eq_false_iff, Bool.or_eq_false_iff, Bool.not_eq_true', Bool.not_eq_false', Bool.true_eq_false, Bool.false_eq_true, Int.toNat_natCast, Int.ofNat_lt, Int.ofNat_le, not_true_eq_false, not_false_eq_true, or_false, false_or, and_true, true_and, or_true, true_or, and_false, false_and, InK, Path.imp, List.length_replicate, List.length_set, List.length_append, List.length_cons, List.length_nil] at *); omega)) | (refine app_le rfl ?_; omega)))
      iterate 3
        · rename_i hb
          rw [e1] at hb
          have hbf : b = false := by rw [← hg]; exact grpB_false hil (okAt_false.2 (by omega))
          rw [hbf] <;> rfl
      rename_i hb
      rw [e1] at hb
      refine ⟨i + 1, ⟨⟨by omega, fun j hj1 => ?_⟩, by omega⟩, ?_⟩
      · by_cases e : j = i
        · subst e; exact okAt_true.2 (by omega)
        · exact hj j (by omega)
      · refine subF.ok ?_ <;> (conv => whnf) <;> repeat' (first
 | exact trivial
 | (with_reducible rfl)
 | ((with_reducible refine And.intro ?_ ?_) <;> conv => whnf)
 | omega
 | rfl
 | (refine congrArg (SV.arr _) ?_)
 | (refine congrArg (Value.int _) ?_)
 | (refine congrArg Value.bool ?_))
    · have hie : i = g.length := by omega
      subst hie
      have hbt : b = true := by rw [← hg]; exact grpB_true hj
      subst hbt
      repeat' (first
 | refine W.seq ?_
 | refine W.block ?_
 | (refine W.region tys_ok [] ?_; conv => whnf)
 | (refine W.drawAll tys_ok [] mixed rfl ?_; conv => whnf)
 | (refine W.ret ?_; conv => whnf)
 | (refine W.skip ?_; conv => whnf)
 | (refine W.exit ?_; conv => whnf)

    | (refine W.cond rfl (fun hb => ?_) (fun hb => ?_) <;> (try simp only [minL, maxL, pickB, getD_int, getD_sl, getD_bool, len_int, len_sl, len_bool, decide_eq_true_eq, decide_eq_false_iff_not, Bool.and_eq_true, Bool.or_eq_true, Bool.and_eq_false_iff, Bool.or_eq_false_iff, Bool.not_eq_true', Bool.not_eq_false', Bool.true_eq_false, Bool.false_eq_true, Int.toNat_natCast, Int.ofNat_lt, Int.ofNat_le, not_true_eq_false, not_false_eq_true, or_false, false_or, and_true, true_and, or_true, true_or, and_false, false_and] at hb) <;> (try (first | (cases hb; done) | exact absurd hb (by decide) | (exfalso; omega))))
    | ((with_reducible refine And.intro ?_ ?_); (focus ((repeat' (first | (with_reducible rfl) | (with_reducible refine And.intro ?_ ?_) | omega | rfl | exact Or.inl rfl | exact Or.inr rfl | (focus ((try simp only [minL, maxL, pickB, getD_int, getD_sl, getD_bool, len_int, len_sl, len_bool, decide_eq_true_eq, decide_eq_false_iff_not, Bool.and_eq_true, Bool.or_eq_true, Bool.and_eq_false_iff, Bool.or_eq_false_iff, Bool.not_eq_true', Bool.not_eq_false', Bool.true_eq_false, Bool.false_eq_true, Int.toNat_natCast, Int.ofNat_lt, Int.ofNat_le, not_true_eq_false, not_false_eq_true, or_false, false_or, and_true, true_and, or_true, true_or, and_false, false_and, InK, Path.imp, List.length_replicate, List.length_set, List.length_append, List.length_cons, List.length_nil] at *); omega)) | (refine app_le rfl ?_; omega))); done)); (conv => whnf))
    | ((with_reducible refine And.intro (Side.out ?_) ?_); rotate_left; (conv => whnf))
    | (refine retF1 ?_ <;> (conv => whnf) <;> repeat' (first
 | exact trivial
 | (with_reducible rfl)
 | ((with_reducible refine And.intro ?_ ?_) <;> conv => whnf)
 | omega
 | rfl
 | (refine congrArg (SV.arr _) ?_)
 | (refine congrArg (Value.int _) ?_)
 | (refine congrArg Value.bool ?_)))
 | (refine retF2 ?_ <;> (conv => whnf) <;> repeat' (first
 | exact trivial
 | (with_reducible rfl)
 | ((with_reducible refine And.intro ?_ ?_) <;> conv => whnf)
 | omega
 | rfl
 | (refine congrArg (SV.arr _) ?_)
 | (refine congrArg (Value.int _) ?_)
 | (refine congrArg Value.bool ?_)))); all_goals (try unfold Side)
      all_goals try (repeat' (first | (with_reducible rfl) | (with_reducible refine And.intro ?_ ?_) | omega | rfl | exact Or.inl rfl | exact Or.inr rfl | (focus ((try simp only [minL, maxL, pickB, getD_int, getD_sl, getD_bool, len_int, len_sl, len_bool, decide_eq_true_eq, decide_eq_false_iff_not, Bool.and_eq_true, Bool.or_eq_true, Bool.and_eq_false_iff, Bool.or_eq_false_iff, Bool.not_eq_true', Bool.not_eq_false', Bool.true_eq_false, Bool.false_eq_true, Int.toNat_natCast, Int.ofNat_lt, Int.ofNat_le, not_true_eq_false, not_false_eq_true, or_false, false_or, and_true, true_and, or_true, true_or, and_false, false_and, InK, Path.imp, List.length_replicate, List.length_set, List.length_append, List.length_cons, List.length_nil] at *); omega)) | (refine app_le rfl ?_; omega)))

/-- The gains of the places of a group; the others gain nothing. -/
def onlyL (gs : List (List Int)) (n : Nat) (g : List Int) : List (List Int) := g.foldl (fun l a => l.set a.toNat (gs.getD a.toNat [])) (List.replicate n [])
theorem onlyL_snoc {gs : List (List Int)} {n : Nat} {g : List Int} {a : Int} : onlyL gs n (g ++ [a]) = (onlyL gs n g).set a.toNat (gs.getD a.toNat []) := by
  simp [onlyL, List.foldl_append]
theorem foldl_set_len {gs : List (List Int)} : ∀ {g : List Int} {l : List (List Int)}, (g.foldl (fun l a => l.set a.toNat (gs.getD a.toNat [])) l).length = l.length
  | [], l => rfl
  | a :: r, l => by simp only [List.foldl_cons]; rw [foldl_set_len, List.length_set]
theorem onlyL_len {gs : List (List Int)} {n : Nat} {g : List Int} : (onlyL gs n g).length = n := by rw [onlyL, foldl_set_len, List.length_replicate]
theorem foldl_set_get {gs : List (List Int)} {j : Nat} : ∀ {g : List Int} {l : List (List Int)}, (l.getD j [] = [] ∨ l.getD j [] = gs.getD j []) →
    (g.foldl (fun l a => l.set a.toNat (gs.getD a.toNat [])) l).getD j [] = [] ∨ (g.foldl (fun l a => l.set a.toNat (gs.getD a.toNat [])) l).getD j [] = gs.getD j []
  | [], l, h => h
  | a :: r, l, h => by
    simp only [List.foldl_cons]
    refine foldl_set_get ?_
    by_cases ha : a.toNat < l.length
    · rw [getD_set ha]
      split
      · rename_i e; rw [e]; exact .inr rfl
      · exact h
    · rw [List.set_eq_of_length_le (by omega)]; exact h
theorem onlyL_get {gs : List (List Int)} {n : Nat} {g : List Int} (j : Nat) : (onlyL gs n g).getD j [] = [] ∨ (onlyL gs n g).getD j [] = gs.getD j [] :=
  foldl_set_get (.inl (by rw [List.getD_eq_getElem?_getD, List.getElem?_replicate]; split <;> rfl))
theorem Riv.only {fl : List Int} {gs : List (List Int)} (h : Riv fl gs) (g : List Int) : Riv fl (onlyL gs fl.length g) := by
  refine ⟨⟨by rw [onlyL_len, h.len]; exact h.g.len, fun i hi => ?_, fun i hi j hj => ?_⟩, fun i hi => ?_, onlyL_len.symm, h.val⟩
  · rw [onlyL_len] at hi
    rcases onlyL_get (gs := gs) (n := fl.length) (g := g) i with e | e
    · rw [e]; simp
    · rw [e]; exact h.g.lens i (by have := h.len; omega)
  · rw [onlyL_len] at hi
    rcases onlyL_get (gs := gs) (n := fl.length) (g := g) i with e | e
    · rw [e] at hj; simp at hj
    · rw [e] at hj ⊢; exact h.g.val i (by have := h.len; omega) j hj
  · rw [onlyL_len] at hi
    rcases onlyL_get (gs := gs) (n := fl.length) (g := g) i with e | e
    · rw [e]; rfl
    · rw [e]; exact h.d i (by have := h.len; omega)
set_option maxHeartbeats 2000000 in
theorem only_at (fl : List Int) (gs : List (List Int)) (g : List Int) (h : Riv fl gs) (hg : Grp fl.length g) :
    FnAt Try.prog true 56 [.agg [.arr (.int .i64) fl, .arr (.sl (.int .i64)) gs], .arr (.int .i64) g] (.strct [.st true (.arr (.int .i64) fl), .own 0]) [(0, .row 22 (.sl (.int .i64)) true (onlyL gs fl.length g))] := by
  have hl := h.len
  have hl8 := h.g.len
  have hgl := hg.len
  refine FnAt.of_body tys_ok Try.func56 (by rfl) rfl Try.ntmps56 (by rw [Try.results56]) (by simp) ?_
  
  repeat' (first
 | refine W.seq ?_
 | refine W.block ?_
 | (refine W.drawNew (id := 1) tys_ok [] mixed [0, 1, 0, 4, 12, 28, 63, 0, 255] [] 8 (by decide +kernel) ?_; conv => whnf)
 | (refine W.region tys_ok [] ?_; conv => whnf)
 | (refine W.drawAll tys_ok [] mixed rfl ?_; conv => whnf)
 | (refine W.ret ?_; conv => whnf)
 | (refine W.skip ?_; conv => whnf)
 | (refine W.exit ?_; conv => whnf)

    | (refine W.cond rfl (fun hb => ?_) (fun hb => ?_) <;> (try simp only [minL, maxL, pickB, getD_int, getD_sl, getD_bool, len_int, len_sl, len_bool, decide_eq_true_eq, decide_eq_false_iff_not, Bool.and_eq_true, Bool.or_eq_true, Bool.and_eq_false_iff, Bool.or_eq_false_iff, Bool.not_eq_true', Bool.not_eq_false', Bool.true_eq_false, Bool.false_eq_true, Int.toNat_natCast, Int.ofNat_lt, Int.ofNat_le, not_true_eq_false, not_false_eq_true, or_false, false_or, and_true, true_and, or_true, true_or, and_false, false_and] at hb) <;> (try (first | (cases hb; done) | exact absurd hb (by decide) | (exfalso; omega))))
    | ((with_reducible refine And.intro ?_ ?_); (focus ((repeat' (first | (with_reducible rfl) | (with_reducible refine And.intro ?_ ?_) | omega | rfl | exact Or.inl rfl | exact Or.inr rfl | (focus ((try simp only [minL, maxL, pickB, getD_int, getD_sl, getD_bool, len_int, len_sl, len_bool, decide_eq_true_eq, decide_eq_false_iff_not, Bool.and_eq_true, Bool.or_eq_true, Bool.and_eq_false_iff, Bool.or_eq_false_iff, Bool.not_eq_true', Bool.not_eq_false', Bool.true_eq_false, Bool.false_eq_true, Int.toNat_natCast, Int.ofNat_lt, Int.ofNat_le, not_true_eq_false, not_false_eq_true, or_false, false_or, and_true, true_and, or_true, true_or, and_false, false_and, InK, Path.imp, List.length_replicate, List.length_set, List.length_append, List.length_cons, List.length_nil] at *); omega)) | (refine app_le rfl ?_; omega))); done)); (conv => whnf))
    | ((with_reducible refine And.intro (Side.out ?_) ?_); rotate_left; (conv => whnf))
    | (refine retF1 ?_ <;> (conv => whnf) <;> repeat' (first
 | exact trivial
 | (with_reducible rfl)
 | ((with_reducible refine And.intro ?_ ?_) <;> conv => whnf)
 | omega
 | rfl
 | (refine congrArg (SV.arr _) ?_)
 | (refine congrArg (Value.int _) ?_)
 | (refine congrArg Value.bool ?_)))
 | (refine retF2 ?_ <;> (conv => whnf) <;> repeat' (first
 | exact trivial
 | (with_reducible rfl)
 | ((with_reducible refine And.intro ?_ ?_) <;> conv => whnf)
 | omega
 | rfl
 | (refine congrArg (SV.arr _) ?_)
 | (refine congrArg (Value.int _) ?_)
 | (refine congrArg Value.bool ?_)))); all_goals (try unfold Side)
  all_goals try (repeat' (first | (with_reducible rfl) | (with_reducible refine And.intro ?_ ?_) | omega | rfl | exact Or.inl rfl | exact Or.inr rfl | (focus ((try simp only [minL, maxL, pickB, getD_int, getD_sl, getD_bool, len_int, len_sl, len_bool, decide_eq_true_eq, decide_eq_false_iff_not, Bool.and_eq_true, Bool.or_eq_true, Bool.and_eq_false_iff, Bool.or_eq_false_iff, Bool.not_eq_true', Bool.not_eq_false', Bool.true_eq_false, Bool.false_eq_true, Int.toNat_natCast, Int.ofNat_lt, Int.ofNat_le, not_true_eq_false, not_false_eq_true, or_false, false_or, and_true, true_and, or_true, true_or, and_false, false_and, InK, Path.imp, List.length_replicate, List.length_set, List.length_append, List.length_cons, List.length_nil] at *); omega)) | (refine app_le rfl ?_; omega)))
  refine W.loop (fun i : Nat => ⟨[(2, .padr 3000 0), (4, .padr 5000 0), (5, .padr 6000 0), (13, .own 14000), (15, .st true (.arr (.int .i64) g)), (16, .lit (.int .i64 g.length)), (17, .lit (.int .i64 i))],
      [(3000, .box [.st true (.arr (.int .i64) fl), .st true (.arr (.sl (.int .i64)) gs)]), (5000, .box [.lit (.slice none 0 0), .lit (.slice none 0 0)]), (6000, .box [.st true (.arr (.int .i64) fl), .own 14000]), (14000, .row 22 (.sl (.int .i64)) true (onlyL gs fl.length (g.take i)))]⟩)
    (fun i => i ≤ g.length) (fun i => g.length - i) 0 ?_ ?_
  · refine ⟨Nat.zero_le _, ?_⟩
    refine subF.ok ?_ <;> (conv => whnf) <;> repeat' (first
 | exact trivial
 | (with_reducible rfl)
 | ((with_reducible refine And.intro ?_ ?_) <;> conv => whnf)
 | omega
 | rfl
 | (refine congrArg (SV.arr _) ?_)
 | (refine congrArg (Value.int _) ?_)
 | (refine congrArg Value.bool ?_))
  · intro i hi
    have hol : @List.length (Ty.sl (.int .i64)).T (onlyL gs fl.length (g.take i)) = fl.length := onlyL_len
    by_cases hil : i < g.length
    · have hv := hg.val i hil
      repeat' (first
 | refine W.seq ?_
 | refine W.block ?_
 | (refine W.drawTo (id := 5) tys_ok [] mixed [] 9 (by decide +kernel) ?_; conv => whnf)
 | (refine W.region tys_ok [] ?_; conv => whnf)
 | (refine W.drawAll tys_ok [] mixed rfl ?_; conv => whnf)
 | (refine W.ret ?_; conv => whnf)
 | (refine W.skip ?_; conv => whnf)
 | (refine W.exit ?_; conv => whnf)

    | (refine W.cond rfl (fun hb => ?_) (fun hb => ?_) <;> (try simp only [minL, maxL, pickB, getD_int, getD_sl, getD_bool, len_int, len_sl, len_bool, decide_eq_true_eq, decide_eq_false_iff_not, Bool.and_eq_true, Bool.or_eq_true, Bool.and_eq_false_iff, Bool.or_eq_false_iff, Bool.not_eq_true', Bool.not_eq_false', Bool.true_eq_false, Bool.false_eq_true, Int.toNat_natCast, Int.ofNat_lt, Int.ofNat_le, not_true_eq_false, not_false_eq_true, or_false, false_or, and_true, true_and, or_true, true_or, and_false, false_and] at hb) <;> (try (first | (cases hb; done) | exact absurd hb (by decide) | (exfalso; omega))))
    | ((with_reducible refine And.intro ?_ ?_); (focus ((repeat' (first | (with_reducible rfl) | (with_reducible refine And.intro ?_ ?_) | omega | rfl | exact Or.inl rfl | exact Or.inr rfl | (focus ((try simp only [minL, maxL, pickB, getD_int, getD_sl, getD_bool, len_int, len_sl, len_bool, decide_eq_true_eq, decide_eq_false_iff_not, Bool.and_eq_true, Bool.or_eq_true, Bool.and_eq_false_iff, Bool.or_eq_false_iff, Bool.not_eq_true', Bool.not_eq_false', Bool.true_eq_false, Bool.false_eq_true, Int.toNat_natCast, Int.ofNat_lt, Int.ofNat_le, not_true_eq_false, not_false_eq_true, or_false, false_or, and_true, true_and, or_true, true_or, and_false, false_and, InK, Path.imp, List.length_replicate, List.length_set, List.length_append, List.length_cons, List.length_nil] at *); omega)) | (refine app_le rfl ?_; omega))); done)); (conv => whnf))
    | ((with_reducible refine And.intro (Side.out ?_) ?_); rotate_left; (conv => whnf))
    | (refine retF1 ?_ <;> (conv => whnf) <;> repeat' (first
 | exact trivial
 | (with_reducible rfl)
 | ((with_reducible refine And.intro ?_ ?_) <;> conv => whnf)
 | omega
 | rfl
 | (refine congrArg (SV.arr _) ?_)
 | (refine congrArg (Value.int _) ?_)
 | (refine congrArg Value.bool ?_)))
 | (refine retF2 ?_ <;> (conv => whnf) <;> repeat' (first
 | exact trivial
 | (with_reducible rfl)
 | ((with_reducible refine And.intro ?_ ?_) <;> conv => whnf)
 | omega
 | rfl
 | (refine congrArg (SV.arr _) ?_)
 | (refine congrArg (Value.int _) ?_)
 | (refine congrArg Value.bool ?_)))); all_goals (try unfold Side)
      all_goals try (repeat' (first | (with_reducible rfl) | (with_reducible refine And.intro ?_ ?_) | omega | rfl | exact Or.inl rfl | exact Or.inr rfl | (focus ((try simp only [minL, maxL, pickB, getD_int, getD_sl, getD_bool, len_int, len_sl, len_bool, decide_eq_true_eq, decide_eq_false_iff_not, Bool.and_eq_true, Bool.or_eq_true, Bool.and_eq_false_iff, Bool.or_eq_false_iff, Bool.not_eq_true', Bool.not_eq_false', Bool.true_eq_false, Bool.false_eq_true, Int.toNat_natCast, Int.ofNat_lt, Int.ofNat_le, not_true_eq_false, not_false_eq_true, or_false, false_or, and_true, true_and, or_true, true_or, and_false, false_and, InK, Path.imp, List.length_replicate, List.length_set, List.length_append, List.length_cons, List.length_nil] at *); omega)) | (refine app_le rfl ?_; omega)))
      refine ⟨i + 1, ⟨by omega, by omega⟩, ?_⟩
      refine subF.ok ?_ <;> (conv => whnf) <;> repeat' (first
 | exact trivial
 | (with_reducible rfl)
 | ((with_reducible refine And.intro ?_ ?_) <;> conv => whnf)
 | omega
 | rfl
 | (refine congrArg (SV.arr _) ?_)
 | (refine congrArg (Value.int _) ?_)
 | (refine congrArg Value.bool ?_))
      show (onlyL gs fl.length (g.take i)).set (g.getD i 0).toNat (gs.getD (g.getD i 0).toNat []) = onlyL gs fl.length (g.take (i + 1))
      rw [take_getD (d := 0) hil, onlyL_snoc]
    · have hie : i = g.length := by omega
      subst hie
      rw [List.take_length]
      repeat' (first
 | refine W.seq ?_
 | refine W.block ?_
 | (refine W.region tys_ok [] ?_; conv => whnf)
 | (refine W.drawAll tys_ok [] mixed rfl ?_; conv => whnf)
 | (refine W.ret ?_; conv => whnf)
 | (refine W.skip ?_; conv => whnf)
 | (refine W.exit ?_; conv => whnf)

    | (refine W.cond rfl (fun hb => ?_) (fun hb => ?_) <;> (try simp only [minL, maxL, pickB, getD_int, getD_sl, getD_bool, len_int, len_sl, len_bool, decide_eq_true_eq, decide_eq_false_iff_not, Bool.and_eq_true, Bool.or_eq_true, Bool.and_eq_false_iff, Bool.or_eq_false_iff, Bool.not_eq_true', Bool.not_eq_false', Bool.true_eq_false, Bool.false_eq_true, Int.toNat_natCast, Int.ofNat_lt, Int.ofNat_le, not_true_eq_false, not_false_eq_true, or_false, false_or, and_true, true_and, or_true, true_or, and_false, false_and] at hb) <;> (try (first | (cases hb; done) | exact absurd hb (by decide) | (exfalso; omega))))
    | ((with_reducible refine And.intro ?_ ?_); (focus ((repeat' (first | (with_reducible rfl) | (with_reducible refine And.intro ?_ ?_) | omega | rfl | exact Or.inl rfl | exact Or.inr rfl | (focus ((try simp only [minL, maxL, pickB, getD_int, getD_sl, getD_bool, len_int, len_sl, len_bool, decide_eq_true_eq, decide_eq_false_iff_not, Bool.and_eq_true, Bool.or_eq_true, Bool.and_eq_false_iff, Bool.or_eq_false_iff, Bool.not_eq_true', Bool.not_eq_false', Bool.true_eq_false, Bool.false_eq_true, Int.toNat_natCast, Int.ofNat_lt, Int.ofNat_le, not_true_eq_false, not_false_eq_true, or_false, false_or, and_true, true_and, or_true, true_or, and_false, false_and, InK, Path.imp, List.length_replicate, List.length_set, List.length_append, List.length_cons, List.length_nil] at *); omega)) | (refine app_le rfl ?_; omega))); done)); (conv => whnf))
    | ((with_reducible refine And.intro (Side.out ?_) ?_); rotate_left; (conv => whnf))
    | (refine retF1 ?_ <;> (conv => whnf) <;> repeat' (first
 | exact trivial
 | (with_reducible rfl)
 | ((with_reducible refine And.intro ?_ ?_) <;> conv => whnf)
 | omega
 | rfl
 | (refine congrArg (SV.arr _) ?_)
 | (refine congrArg (Value.int _) ?_)
 | (refine congrArg Value.bool ?_)))
 | (refine retF2 ?_ <;> (conv => whnf) <;> repeat' (first
 | exact trivial
 | (with_reducible rfl)
 | ((with_reducible refine And.intro ?_ ?_) <;> conv => whnf)
 | omega
 | rfl
 | (refine congrArg (SV.arr _) ?_)
 | (refine congrArg (Value.int _) ?_)
 | (refine congrArg Value.bool ?_)))); all_goals (try unfold Side)
      all_goals try (repeat' (first | (with_reducible rfl) | (with_reducible refine And.intro ?_ ?_) | omega | rfl | exact Or.inl rfl | exact Or.inr rfl | (focus ((try simp only [minL, maxL, pickB, getD_int, getD_sl, getD_bool, len_int, len_sl, len_bool, decide_eq_true_eq, decide_eq_false_iff_not, Bool.and_eq_true, Bool.or_eq_true, Bool.and_eq_false_iff, Bool.or_eq_false_iff, Bool.not_eq_true', Bool.not_eq_false', Bool.true_eq_false, Bool.false_eq_true, Int.toNat_natCast, Int.ofNat_lt, Int.ofNat_le, not_true_eq_false, not_false_eq_true, or_false, false_or, and_true, true_and, or_true, true_or, and_false, false_and, InK, Path.imp, List.length_replicate, List.length_set, List.length_append, List.length_cons, List.length_nil] at *); omega)) | (refine app_le rfl ?_; omega)))
set_option maxHeartbeats 2000000 in
theorem Aspires_ref (fl : List Int) (gs : List (List Int)) (g : List Int) (h : Riv fl gs) (hg : Grp fl.length g) :
    FnAt Try.prog false 38 [.arr (.int .i64) fl, .arr (.sl (.int .i64)) gs, .arr (.int .i64) g] (.lit (.int .i64 (val fl (onlyL gs fl.length g)))) [] := by
  have hl := h.len
  have hl8 := h.g.len
  have hgl := hg.len
  have hB := Best_ref fl (onlyL gs fl.length g) (h.only g)
  refine FnAt.of_body tys_ok Try.func38 (by rfl) rfl Try.ntmps38 (by rw [Try.results38]) (by simp) ?_
  
  repeat' (first
 | refine W.seq ?_
 | refine W.block ?_
 | (refine W.region tys_ok [] ?_; conv => whnf)
 | (refine W.drawAll tys_ok [] mixed rfl ?_; conv => whnf)
 | (refine W.ret ?_; conv => whnf)
 | (refine W.skip ?_; conv => whnf)
 | (refine W.exit ?_; conv => whnf)

    | (refine W.cond rfl (fun hb => ?_) (fun hb => ?_) <;> (try simp only [minL, maxL, pickB, getD_int, getD_sl, getD_bool, len_int, len_sl, len_bool, decide_eq_true_eq, decide_eq_false_iff_not, Bool.and_eq_true, Bool.or_eq_true, Bool.and_eq_false_iff, Bool.or_eq_false_iff, Bool.not_eq_true', Bool.not_eq_false', Bool.true_eq_false, Bool.false_eq_true, Int.toNat_natCast, Int.ofNat_lt, Int.ofNat_le, not_true_eq_false, not_false_eq_true, or_false, false_or, and_true, true_and, or_true, true_or, and_false, false_and] at hb) <;> (try (first | (cases hb; done) | exact absurd hb (by decide) | (exfalso; omega))))
    | ((with_reducible refine And.intro ?_ ?_); (focus ((repeat' (first | (with_reducible rfl) | (with_reducible refine And.intro ?_ ?_) | omega | rfl | exact Or.inl rfl | exact Or.inr rfl | (focus ((try simp only [minL, maxL, pickB, getD_int, getD_sl, getD_bool, len_int, len_sl, len_bool, decide_eq_true_eq, decide_eq_false_iff_not, Bool.and_eq_true, Bool.or_eq_true, Bool.and_eq_false_iff, Bool.or_eq_false_iff, Bool.not_eq_true', Bool.not_eq_false', Bool.true_eq_false, Bool.false_eq_true, Int.toNat_natCast, Int.ofNat_lt, Int.ofNat_le, not_true_eq_false, not_false_eq_true, or_false, false_or, and_true, true_and, or_true, true_or, and_false, false_and, InK, Path.imp, List.length_replicate, List.length_set, List.length_append, List.length_cons, List.length_nil] at *); omega)) | (refine app_le rfl ?_; omega))); done)); (conv => whnf))
    | ((with_reducible refine And.intro (Side.out ?_) ?_); rotate_left; (conv => whnf))
    | (refine retF1 ?_ <;> (conv => whnf) <;> repeat' (first
 | exact trivial
 | (with_reducible rfl)
 | ((with_reducible refine And.intro ?_ ?_) <;> conv => whnf)
 | omega
 | rfl
 | (refine congrArg (SV.arr _) ?_)
 | (refine congrArg (Value.int _) ?_)
 | (refine congrArg Value.bool ?_)))
 | (refine retF2 ?_ <;> (conv => whnf) <;> repeat' (first
 | exact trivial
 | (with_reducible rfl)
 | ((with_reducible refine And.intro ?_ ?_) <;> conv => whnf)
 | omega
 | rfl
 | (refine congrArg (SV.arr _) ?_)
 | (refine congrArg (Value.int _) ?_)
 | (refine congrArg Value.bool ?_)))); all_goals (try unfold Side)
  refine W.loop (fun i : Nat => ⟨[(0, .st false (.arr (.int .i64) fl)), (1, .st false (.arr (.sl (.int .i64)) gs)), (2, .st false (.arr (.int .i64) g)), (7, .own 14000), (8, .lit (.int .i64 i))],
      [(14000, .row 22 (.sl (.int .i64)) false (onlyL gs fl.length (g.take i)))]⟩)
    (fun i => i ≤ g.length) (fun i => g.length - i) 0 ?_ ?_
  · refine ⟨Nat.zero_le _, ?_⟩
    refine subF.ok ?_ <;> (conv => whnf) <;> repeat' (first
 | exact trivial
 | (with_reducible rfl)
 | ((with_reducible refine And.intro ?_ ?_) <;> conv => whnf)
 | omega
 | rfl
 | (refine congrArg (SV.arr _) ?_)
 | (refine congrArg (Value.int _) ?_)
 | (refine congrArg Value.bool ?_))
    show List.replicate ((gs.length : Nat) : Int).toNat ([] : List Int) = List.replicate fl.length []
    rw [hl]; rfl
  · intro i hi
    have hol : @List.length (Ty.sl (.int .i64)).T (onlyL gs fl.length (g.take i)) = fl.length := onlyL_len
    by_cases hil : i < g.length
    · have hv := hg.val i hil
      repeat' (first
 | refine W.seq ?_
 | refine W.block ?_
 | (refine W.drawTo (id := 5) tys_ok [] mixed [] 13 (by decide +kernel) ?_; conv => whnf)
 | (refine W.region tys_ok [] ?_; conv => whnf)
 | (refine W.drawAll tys_ok [] mixed rfl ?_; conv => whnf)
 | (refine W.ret ?_; conv => whnf)
 | (refine W.skip ?_; conv => whnf)
 | (refine W.exit ?_; conv => whnf)

    | (refine W.cond rfl (fun hb => ?_) (fun hb => ?_) <;> (try simp only [minL, maxL, pickB, getD_int, getD_sl, getD_bool, len_int, len_sl, len_bool, decide_eq_true_eq, decide_eq_false_iff_not, Bool.and_eq_true, Bool.or_eq_true, Bool.and_eq_false_iff, Bool.or_eq_false_iff, Bool.not_eq_true', Bool.not_eq_false', Bool.true_eq_false, Bool.false_eq_true, Int.toNat_natCast, Int.ofNat_lt, Int.ofNat_le, not_true_eq_false, not_false_eq_true, or_false, false_or, and_true, true_and, or_true, true_or, and_false, false_and] at hb) <;> (try (first | (cases hb; done) | exact absurd hb (by decide) | (exfalso; omega))))
    | ((with_reducible refine And.intro ?_ ?_); (focus ((repeat' (first | (with_reducible rfl) | (with_reducible refine And.intro ?_ ?_) | omega | rfl | exact Or.inl rfl | exact Or.inr rfl | (focus ((try simp only [minL, maxL, pickB, getD_int, getD_sl, getD_bool, len_int, len_sl, len_bool, decide_eq_true_eq, decide_eq_false_iff_not, Bool.and_eq_true, Bool.or_eq_true, Bool.and_eq_false_iff, Bool.or_eq_false_iff, Bool.not_eq_true', Bool.not_eq_false', Bool.true_eq_false, Bool.false_eq_true, Int.toNat_natCast, Int.ofNat_lt, Int.ofNat_le, not_true_eq_false, not_false_eq_true, or_false, false_or, and_true, true_and, or_true, true_or, and_false, false_and, InK, Path.imp, List.length_replicate, List.length_set, List.length_append, List.length_cons, List.length_nil] at *); omega)) | (refine app_le rfl ?_; omega))); done)); (conv => whnf))
    | ((with_reducible refine And.intro (Side.out ?_) ?_); rotate_left; (conv => whnf))
    | (refine retF1 ?_ <;> (conv => whnf) <;> repeat' (first
 | exact trivial
 | (with_reducible rfl)
 | ((with_reducible refine And.intro ?_ ?_) <;> conv => whnf)
 | omega
 | rfl
 | (refine congrArg (SV.arr _) ?_)
 | (refine congrArg (Value.int _) ?_)
 | (refine congrArg Value.bool ?_)))
 | (refine retF2 ?_ <;> (conv => whnf) <;> repeat' (first
 | exact trivial
 | (with_reducible rfl)
 | ((with_reducible refine And.intro ?_ ?_) <;> conv => whnf)
 | omega
 | rfl
 | (refine congrArg (SV.arr _) ?_)
 | (refine congrArg (Value.int _) ?_)
 | (refine congrArg Value.bool ?_)))); all_goals (try unfold Side)
      all_goals try (repeat' (first | (with_reducible rfl) | (with_reducible refine And.intro ?_ ?_) | omega | rfl | exact Or.inl rfl | exact Or.inr rfl | (focus ((try simp only [minL, maxL, pickB, getD_int, getD_sl, getD_bool, len_int, len_sl, len_bool, decide_eq_true_eq, decide_eq_false_iff_not, Bool.and_eq_true, Bool.or_eq_true, Bool.and_eq_false_iff, Bool.or_eq_false_iff, Bool.not_eq_true', Bool.not_eq_false', Bool.true_eq_false, Bool.false_eq_true, Int.toNat_natCast, Int.ofNat_lt, Int.ofNat_le, not_true_eq_false, not_false_eq_true, or_false, false_or, and_true, true_and, or_true, true_or, and_false, false_and, InK, Path.imp, List.length_replicate, List.length_set, List.length_append, List.length_cons, List.length_nil] at *); omega)) | (refine app_le rfl ?_; omega)))
      refine ⟨i + 1, ⟨by omega, by omega⟩, ?_⟩
      refine subF.ok ?_ <;> (conv => whnf) <;> repeat' (first
 | exact trivial
 | (with_reducible rfl)
 | ((with_reducible refine And.intro ?_ ?_) <;> conv => whnf)
 | omega
 | rfl
 | (refine congrArg (SV.arr _) ?_)
 | (refine congrArg (Value.int _) ?_)
 | (refine congrArg Value.bool ?_))
      show (onlyL gs fl.length (g.take i)).set (g.getD i 0).toNat (gs.getD (g.getD i 0).toNat []) = onlyL gs fl.length (g.take (i + 1))
      rw [take_getD (d := 0) hil, onlyL_snoc]
    · have hie : i = g.length := by omega
      subst hie
      rw [List.take_length]
      repeat' (first
 | refine W.seq ?_
 | refine W.block ?_
 | (refine W.region tys_ok [] ?_; conv => whnf)
 | (refine W.drawAll tys_ok [] mixed rfl ?_; conv => whnf)
 | (refine W.ret ?_; conv => whnf)
 | (refine W.skip ?_; conv => whnf)
 | (refine W.exit ?_; conv => whnf)
 | (refine call_at (al := false) (hB) rfl rfl rfl rfl ?_; conv => whnf)

    | (refine W.cond rfl (fun hb => ?_) (fun hb => ?_) <;> (try simp only [minL, maxL, pickB, getD_int, getD_sl, getD_bool, len_int, len_sl, len_bool, decide_eq_true_eq, decide_eq_false_iff_not, Bool.and_eq_true, Bool.or_eq_true, Bool.and_eq_false_iff, Bool.or_eq_false_iff, Bool.not_eq_true', Bool.not_eq_false', Bool.true_eq_false, Bool.false_eq_true, Int.toNat_natCast, Int.ofNat_lt, Int.ofNat_le, not_true_eq_false, not_false_eq_true, or_false, false_or, and_true, true_and, or_true, true_or, and_false, false_and] at hb) <;> (try (first | (cases hb; done) | exact absurd hb (by decide) | (exfalso; omega))))
    | ((with_reducible refine And.intro ?_ ?_); (focus ((repeat' (first | (with_reducible rfl) | (with_reducible refine And.intro ?_ ?_) | omega | rfl | exact Or.inl rfl | exact Or.inr rfl | (focus ((try simp only [minL, maxL, pickB, getD_int, getD_sl, getD_bool, len_int, len_sl, len_bool, decide_eq_true_eq, decide_eq_false_iff_not, Bool.and_eq_true, Bool.or_eq_true, Bool.and_eq_false_iff, Bool.or_eq_false_iff, Bool.not_eq_true', Bool.not_eq_false', Bool.true_eq_false, Bool.false_eq_true, Int.toNat_natCast, Int.ofNat_lt, Int.ofNat_le, not_true_eq_false, not_false_eq_true, or_false, false_or, and_true, true_and, or_true, true_or, and_false, false_and, InK, Path.imp, List.length_replicate, List.length_set, List.length_append, List.length_cons, List.length_nil] at *); omega)) | (refine app_le rfl ?_; omega))); done)); (conv => whnf))
    | ((with_reducible refine And.intro (Side.out ?_) ?_); rotate_left; (conv => whnf))
    | (refine retF1 ?_ <;> (conv => whnf) <;> repeat' (first
 | exact trivial
 | (with_reducible rfl)
 | ((with_reducible refine And.intro ?_ ?_) <;> conv => whnf)
 | omega
 | rfl
 | (refine congrArg (SV.arr _) ?_)
 | (refine congrArg (Value.int _) ?_)
 | (refine congrArg Value.bool ?_)))
 | (refine retF2 ?_ <;> (conv => whnf) <;> repeat' (first
 | exact trivial
 | (with_reducible rfl)
 | ((with_reducible refine And.intro ?_ ?_) <;> conv => whnf)
 | omega
 | rfl
 | (refine congrArg (SV.arr _) ?_)
 | (refine congrArg (Value.int _) ?_)
 | (refine congrArg Value.bool ?_)))); all_goals (try unfold Side)
      all_goals try (repeat' (first | (with_reducible rfl) | (with_reducible refine And.intro ?_ ?_) | omega | rfl | exact Or.inl rfl | exact Or.inr rfl | (focus ((try simp only [minL, maxL, pickB, getD_int, getD_sl, getD_bool, len_int, len_sl, len_bool, decide_eq_true_eq, decide_eq_false_iff_not, Bool.and_eq_true, Bool.or_eq_true, Bool.and_eq_false_iff, Bool.or_eq_false_iff, Bool.not_eq_true', Bool.not_eq_false', Bool.true_eq_false, Bool.false_eq_true, Int.toNat_natCast, Int.ofNat_lt, Int.ofNat_le, not_true_eq_false, not_false_eq_true, or_false, false_or, and_true, true_and, or_true, true_or, and_false, false_and, InK, Path.imp, List.length_replicate, List.length_set, List.length_append, List.length_cons, List.length_nil] at *); omega)) | (refine app_le rfl ?_; omega)))
end Go.Proofs.Ytohfemfgnohhdaa
/- Alone, Aspires; WaterGroups. No condition. -/
namespace Go.Proofs.Ytohfemfgnohhdaa
open Go Go.Vc
set_option linter.unusedVariables false
set_option linter.unusedSimpArgs false

theorem part_gen (fl : List Int) (gs : List (List Int)) (a b : Int) (h0 : 0 ≤ a) (hab : a ≤ b) (h1 : b ≤ fl.length) (h2 : b ≤ gs.length) (h3 : fl.length < 2 ^ 40) (h4 : gs.length < 2 ^ 40) :
    FnAt Try.prog true 52 [.agg [.arr (.int .i64) fl, .arr (.sl (.int .i64)) gs], .lit (.int .i64 a), .lit (.int .i64 b)] (.strct [.st true (.arr (.int .i64) ((fl.take b.toNat).drop a.toNat)), .st true (.arr (.sl (.int .i64)) ((gs.take b.toNat).drop a.toNat))]) [] := by
  refine FnAt.of_body tys_ok Try.func52 (by rfl) rfl Try.ntmps52 (by rw [Try.results52]) (by simp) ?_
  
  repeat' (first
 | refine W.seq ?_
 | refine W.block ?_
 | (refine W.drawTo (id := 1) tys_ok [] mixed [] 11 (by decide +kernel) ?_; conv => whnf)
 | (refine W.region tys_ok [] ?_; conv => whnf)
 | (refine W.drawAll tys_ok [] mixed rfl ?_; conv => whnf)
 | (refine W.ret ?_; conv => whnf)
 | (refine W.skip ?_; conv => whnf)
 | (refine W.exit ?_; conv => whnf)

    | (refine W.cond rfl (fun hb => ?_) (fun hb => ?_) <;> (try simp only [minL, maxL, pickB, getD_int, getD_sl, getD_bool, len_int, len_sl, len_bool, decide_eq_true_eq, decide_eq_false_iff_not, Bool.and_eq_true, Bool.or_eq_true, Bool.and_eq_false_iff, Bool.or_eq_false_iff, Bool.not_eq_true', Bool.not_eq_false', Bool.true_eq_false, Bool.false_eq_true, Int.toNat_natCast, Int.ofNat_lt, Int.ofNat_le, not_true_eq_false, not_false_eq_true, or_false, false_or, and_true, true_and, or_true, true_or, and_false, false_and] at hb) <;> (try (first | (cases hb; done) | exact absurd hb (by decide) | (exfalso; omega))))
    | ((with_reducible refine And.intro ?_ ?_); (focus ((repeat' (first | (with_reducible rfl) | (with_reducible refine And.intro ?_ ?_) | omega | rfl | exact Or.inl rfl | exact Or.inr rfl | (focus ((try simp only [minL, maxL, pickB, getD_int, getD_sl, getD_bool, len_int, len_sl, len_bool, decide_eq_true_eq, decide_eq_false_iff_not, Bool.and_eq_true, Bool.or_eq_true, Bool.and_eq_false_iff, Bool.or_eq_false_iff, Bool.not_eq_true', Bool.not_eq_false', Bool.true_eq_false, Bool.false_eq_true, Int.toNat_natCast, Int.ofNat_lt, Int.ofNat_le, not_true_eq_false, not_false_eq_true, or_false, false_or, and_true, true_and, or_true, true_or, and_false, false_and, InK, Path.imp, List.length_replicate, List.length_set, List.length_append, List.length_cons, List.length_nil] at *); omega)) | (refine app_le rfl ?_; omega))); done)); (conv => whnf))
    | ((with_reducible refine And.intro (Side.out ?_) ?_); rotate_left; (conv => whnf))
    | (refine retF1 ?_ <;> (conv => whnf) <;> repeat' (first
 | exact trivial
 | (with_reducible rfl)
 | ((with_reducible refine And.intro ?_ ?_) <;> conv => whnf)
 | omega
 | rfl
 | (refine congrArg (SV.arr _) ?_)
 | (refine congrArg (Value.int _) ?_)
 | (refine congrArg Value.bool ?_)))
 | (refine retF2 ?_ <;> (conv => whnf) <;> repeat' (first
 | exact trivial
 | (with_reducible rfl)
 | ((with_reducible refine And.intro ?_ ?_) <;> conv => whnf)
 | omega
 | rfl
 | (refine congrArg (SV.arr _) ?_)
 | (refine congrArg (Value.int _) ?_)
 | (refine congrArg Value.bool ?_)))); all_goals (try unfold Side)
  all_goals try (repeat' (first | (with_reducible rfl) | (with_reducible refine And.intro ?_ ?_) | omega | rfl | exact Or.inl rfl | exact Or.inr rfl | (focus ((try simp only [minL, maxL, pickB, getD_int, getD_sl, getD_bool, len_int, len_sl, len_bool, decide_eq_true_eq, decide_eq_false_iff_not, Bool.and_eq_true, Bool.or_eq_true, Bool.and_eq_false_iff, Bool.or_eq_false_iff, Bool.not_eq_true', Bool.not_eq_false', Bool.true_eq_false, Bool.false_eq_true, Int.toNat_natCast, Int.ofNat_lt, Int.ofNat_le, not_true_eq_false, not_false_eq_true, or_false, false_or, and_true, true_and, or_true, true_or, and_false, false_and, InK, Path.imp, List.length_replicate, List.length_set, List.length_append, List.length_cons, List.length_nil] at *); omega)) | (refine app_le rfl ?_; omega)))

theorem consec {r : List Int} {n : Nat} (hk3 : ∀ j, 0 < j → j < n → r.getD j 0 = r.getD (j - 1) 0 + 1) : ∀ m, m < n → r.getD m 0 = r.getD 0 0 + (m : Int)
  | 0, _ => by simp
  | m + 1, h => by
    have h5 := hk3 (m + 1) (by omega) h
    have h6 := consec hk3 m (by omega)
    simp only [Nat.add_sub_cancel] at h5
    omega
theorem alone_step {fl : List Int} {gs : List (List Int)} {r : List Int} {n : Nat} (hn : 0 < n) (hn2 : n ≤ r.length) (hk3 : ∀ j, 0 < j → j < n → r.getD j 0 = r.getD (j - 1) 0 + 1) (hs : ¬ (n < r.length ∧ r.getD n 0 = r.getD (n - 1) 0 + 1)) :
    aloneL fl gs r = rowV fl gs (r.getD 0 0).toNat n + aloneL fl gs (r.drop n) := by
  have hrun := runT_drop hn hn2 hk3
  rw [runT_stop hs] at hrun
  have h0 : r = r.getD 0 0 :: r.drop 1 := by conv => lhs; rw [← List.drop_zero (l := r), drop_getD 0 (by omega)]
  conv => lhs; rw [h0]
  rw [aloneL_cons, hrun, List.drop_drop, show n - 1 - 0 + 0 + 1 = n from by omega, show 1 + (n - 1 - 0 + 0) = n from by omega]

section
variable {fl : List Int} {gs : List (List Int)} {g : List Int} (h1 : fl.length ≤ 1000) (h2 : gs.length ≤ 1000) (h3 : ∀ i, i < gs.length → (gs.getD i []).length ≤ 1000)
include h1 h2 h3
set_option maxHeartbeats 2000000 in
theorem Alone_bad1 (hok : riverOk fl gs = false) : FnAt Try.prog false 34 [.arr (.int .i64) fl, .arr (.sl (.int .i64)) gs, .arr (.int .i64) g] (.tup [.lit (.int .i64 0), .lit (.int .i64 1)]) [] := by
  have hgr := group_bad1 (g := g) hok h1 h2 h3
  refine FnAt.of_body tys_ok Try.func34 (by rfl) rfl Try.ntmps34 (by rw [Try.results34]) (by simp) ?_
  
  repeat' (first
 | refine W.seq ?_
 | refine W.block ?_
 | (refine W.region tys_ok [] ?_; conv => whnf)
 | (refine W.drawAll tys_ok [] mixed rfl ?_; conv => whnf)
 | (refine W.ret ?_; conv => whnf)
 | (refine W.skip ?_; conv => whnf)
 | (refine W.exit ?_; conv => whnf)
 | (refine call_at (al := true) (hgr) rfl rfl rfl rfl ?_; conv => whnf)

    | (refine W.cond rfl (fun hb => ?_) (fun hb => ?_) <;> (try simp only [minL, maxL, pickB, getD_int, getD_sl, getD_bool, len_int, len_sl, len_bool, decide_eq_true_eq, decide_eq_false_iff_not, Bool.and_eq_true, Bool.or_eq_true, Bool.and_eq_false_iff, Bool.or_eq_false_iff, Bool.not_eq_true', Bool.not_eq_false', Bool.true_eq_false, Bool.false_eq_true, Int.toNat_natCast, Int.ofNat_lt, Int.ofNat_le, not_true_eq_false, not_false_eq_true, or_false, false_or, and_true, true_and, or_true, true_or, and_false, false_and] at hb) <;> (try (first | (cases hb; done) | exact absurd hb (by decide) | (exfalso; omega))))
    | ((with_reducible refine And.intro ?_ ?_); (focus ((repeat' (first | (with_reducible rfl) | (with_reducible refine And.intro ?_ ?_) | omega | rfl | exact Or.inl rfl | exact Or.inr rfl | (focus ((try simp only [minL, maxL, pickB, getD_int, getD_sl, getD_bool, len_int, len_sl, len_bool, decide_eq_true_eq, decide_eq_false_iff_not, Bool.and_eq_true, Bool.or_eq_true, Bool.and_eq_false_iff, Bool.or_eq_false_iff, Bool.not_eq_true', Bool.not_eq_false', Bool.true_eq_false, Bool.false_eq_true, Int.toNat_natCast, Int.ofNat_lt, Int.ofNat_le, not_true_eq_false, not_false_eq_true, or_false, false_or, and_true, true_and, or_true, true_or, and_false, false_and, InK, Path.imp, List.length_replicate, List.length_set, List.length_append, List.length_cons, List.length_nil] at *); omega)) | (refine app_le rfl ?_; omega))); done)); (conv => whnf))
    | ((with_reducible refine And.intro (Side.out ?_) ?_); rotate_left; (conv => whnf))
    | (refine retF1 ?_ <;> (conv => whnf) <;> repeat' (first
 | exact trivial
 | (with_reducible rfl)
 | ((with_reducible refine And.intro ?_ ?_) <;> conv => whnf)
 | omega
 | rfl
 | (refine congrArg (SV.arr _) ?_)
 | (refine congrArg (Value.int _) ?_)
 | (refine congrArg Value.bool ?_)))
 | (refine retF2 ?_ <;> (conv => whnf) <;> repeat' (first
 | exact trivial
 | (with_reducible rfl)
 | ((with_reducible refine And.intro ?_ ?_) <;> conv => whnf)
 | omega
 | rfl
 | (refine congrArg (SV.arr _) ?_)
 | (refine congrArg (Value.int _) ?_)
 | (refine congrArg Value.bool ?_)))); all_goals (try unfold Side)
  all_goals try (repeat' (first | (with_reducible rfl) | (with_reducible refine And.intro ?_ ?_) | omega | rfl | exact Or.inl rfl | exact Or.inr rfl | (focus ((try simp only [minL, maxL, pickB, getD_int, getD_sl, getD_bool, len_int, len_sl, len_bool, decide_eq_true_eq, decide_eq_false_iff_not, Bool.and_eq_true, Bool.or_eq_true, Bool.and_eq_false_iff, Bool.or_eq_false_iff, Bool.not_eq_true', Bool.not_eq_false', Bool.true_eq_false, Bool.false_eq_true, Int.toNat_natCast, Int.ofNat_lt, Int.ofNat_le, not_true_eq_false, not_false_eq_true, or_false, false_or, and_true, true_and, or_true, true_or, and_false, false_and, InK, Path.imp, List.length_replicate, List.length_set, List.length_append, List.length_cons, List.length_nil] at *); omega)) | (refine app_le rfl ?_; omega)))
set_option maxHeartbeats 2000000 in
theorem Alone_bad2 (hok : riverOk fl gs = true) (hg : grpB fl.length g = false) (hgl : g.length ≤ 1000) : FnAt Try.prog false 34 [.arr (.int .i64) fl, .arr (.sl (.int .i64)) gs, .arr (.int .i64) g] (.tup [.lit (.int .i64 0), .lit (.int .i64 2)]) [] := by
  have hgr := group_at hok hg hgl h1 h2 h3
  refine FnAt.of_body tys_ok Try.func34 (by rfl) rfl Try.ntmps34 (by rw [Try.results34]) (by simp) ?_
  
  repeat' (first
 | refine W.seq ?_
 | refine W.block ?_
 | (refine W.region tys_ok [] ?_; conv => whnf)
 | (refine W.drawAll tys_ok [] mixed rfl ?_; conv => whnf)
 | (refine W.ret ?_; conv => whnf)
 | (refine W.skip ?_; conv => whnf)
 | (refine W.exit ?_; conv => whnf)
 | (refine call_at (al := true) (hgr) rfl rfl rfl rfl ?_; conv => whnf)

    | (refine W.cond rfl (fun hb => ?_) (fun hb => ?_) <;> (try simp only [minL, maxL, pickB, getD_int, getD_sl, getD_bool, len_int, len_sl, len_bool, decide_eq_true_eq, decide_eq_false_iff_not, Bool.and_eq_true, Bool.or_eq_true, Bool.and_eq_false_iff, Bool.or_eq_false_iff, Bool.not_eq_true', Bool.not_eq_false', Bool.true_eq_false, Bool.false_eq_true, Int.toNat_natCast, Int.ofNat_lt, Int.ofNat_le, not_true_eq_false, not_false_eq_true, or_false, false_or, and_true, true_and, or_true, true_or, and_false, false_and] at hb) <;> (try (first | (cases hb; done) | exact absurd hb (by decide) | (exfalso; omega))))
    | ((with_reducible refine And.intro ?_ ?_); (focus ((repeat' (first | (with_reducible rfl) | (with_reducible refine And.intro ?_ ?_) | omega | rfl | exact Or.inl rfl | exact Or.inr rfl | (focus ((try simp only [minL, maxL, pickB, getD_int, getD_sl, getD_bool, len_int, len_sl, len_bool, decide_eq_true_eq, decide_eq_false_iff_not, Bool.and_eq_true, Bool.or_eq_true, Bool.and_eq_false_iff, Bool.or_eq_false_iff, Bool.not_eq_true', Bool.not_eq_false', Bool.true_eq_false, Bool.false_eq_true, Int.toNat_natCast, Int.ofNat_lt, Int.ofNat_le, not_true_eq_false, not_false_eq_true, or_false, false_or, and_true, true_and, or_true, true_or, and_false, false_and, InK, Path.imp, List.length_replicate, List.length_set, List.length_append, List.length_cons, List.length_nil] at *); omega)) | (refine app_le rfl ?_; omega))); done)); (conv => whnf))
    | ((with_reducible refine And.intro (Side.out ?_) ?_); rotate_left; (conv => whnf))
    | (refine retF1 ?_ <;> (conv => whnf) <;> repeat' (first
 | exact trivial
 | (with_reducible rfl)
 | ((with_reducible refine And.intro ?_ ?_) <;> conv => whnf)
 | omega
 | rfl
 | (refine congrArg (SV.arr _) ?_)
 | (refine congrArg (Value.int _) ?_)
 | (refine congrArg Value.bool ?_)))
 | (refine retF2 ?_ <;> (conv => whnf) <;> repeat' (first
 | exact trivial
 | (with_reducible rfl)
 | ((with_reducible refine And.intro ?_ ?_) <;> conv => whnf)
 | omega
 | rfl
 | (refine congrArg (SV.arr _) ?_)
 | (refine congrArg (Value.int _) ?_)
 | (refine congrArg Value.bool ?_)))); all_goals (try unfold Side)
  all_goals try (repeat' (first | (with_reducible rfl) | (with_reducible refine And.intro ?_ ?_) | omega | rfl | exact Or.inl rfl | exact Or.inr rfl | (focus ((try simp only [minL, maxL, pickB, getD_int, getD_sl, getD_bool, len_int, len_sl, len_bool, decide_eq_true_eq, decide_eq_false_iff_not, Bool.and_eq_true, Bool.or_eq_true, Bool.and_eq_false_iff, Bool.or_eq_false_iff, Bool.not_eq_true', Bool.not_eq_false', Bool.true_eq_false, Bool.false_eq_true, Int.toNat_natCast, Int.ofNat_lt, Int.ofNat_le, not_true_eq_false, not_false_eq_true, or_false, false_or, and_true, true_and, or_true, true_or, and_false, false_and, InK, Path.imp, List.length_replicate, List.length_set, List.length_append, List.length_cons, List.length_nil] at *); omega)) | (refine app_le rfl ?_; omega)))
set_option maxHeartbeats 2000000 in
theorem Aspires_bad1 (hok : riverOk fl gs = false) : FnAt Try.prog false 35 [.arr (.int .i64) fl, .arr (.sl (.int .i64)) gs, .arr (.int .i64) g] (.tup [.lit (.int .i64 0), .lit (.int .i64 1)]) [] := by
  have hgr := group_bad1 (g := g) hok h1 h2 h3
  refine FnAt.of_body tys_ok Try.func35 (by rfl) rfl Try.ntmps35 (by rw [Try.results35]) (by simp) ?_
  
  repeat' (first
 | refine W.seq ?_
 | refine W.block ?_
 | (refine W.region tys_ok [] ?_; conv => whnf)
 | (refine W.drawAll tys_ok [] mixed rfl ?_; conv => whnf)
 | (refine W.ret ?_; conv => whnf)
 | (refine W.skip ?_; conv => whnf)
 | (refine W.exit ?_; conv => whnf)
 | (refine call_at (al := true) (hgr) rfl rfl rfl rfl ?_; conv => whnf)

    | (refine W.cond rfl (fun hb => ?_) (fun hb => ?_) <;> (try simp only [minL, maxL, pickB, getD_int, getD_sl, getD_bool, len_int, len_sl, len_bool, decide_eq_true_eq, decide_eq_false_iff_not, Bool.and_eq_true, Bool.or_eq_true, Bool.and_eq_false_iff, Bool.or_eq_false_iff, Bool.not_eq_true', Bool.not_eq_false', Bool.true_eq_false, Bool.false_eq_true, Int.toNat_natCast, Int.ofNat_lt, Int.ofNat_le, not_true_eq_false, not_false_eq_true, or_false, false_or, and_true, true_and, or_true, true_or, and_false, false_and] at hb) <;> (try (first | (cases hb; done) | exact absurd hb (by decide) | (exfalso; omega))))
    | ((with_reducible refine And.intro ?_ ?_); (focus ((repeat' (first | (with_reducible rfl) | (with_reducible refine And.intro ?_ ?_) | omega | rfl | exact Or.inl rfl | exact Or.inr rfl | (focus ((try simp only [minL, maxL, pickB, getD_int, getD_sl, getD_bool, len_int, len_sl, len_bool, decide_eq_true_eq, decide_eq_false_iff_not, Bool.and_eq_true, Bool.or_eq_true, Bool.and_eq_false_iff, Bool.or_eq_false_iff, Bool.not_eq_true', Bool.not_eq_false', Bool.true_eq_false, Bool.false_eq_true, Int.toNat_natCast, Int.ofNat_lt, Int.ofNat_le, not_true_eq_false, not_false_eq_true, or_false, false_or, and_true, true_and, or_true, true_or, and_false, false_and, InK, Path.imp, List.length_replicate, List.length_set, List.length_append, List.length_cons, List.length_nil] at *); omega)) | (refine app_le rfl ?_; omega))); done)); (conv => whnf))
    | ((with_reducible refine And.intro (Side.out ?_) ?_); rotate_left; (conv => whnf))
    | (refine retF1 ?_ <;> (conv => whnf) <;> repeat' (first
 | exact trivial
 | (with_reducible rfl)
 | ((with_reducible refine And.intro ?_ ?_) <;> conv => whnf)
 | omega
 | rfl
 | (refine congrArg (SV.arr _) ?_)
 | (refine congrArg (Value.int _) ?_)
 | (refine congrArg Value.bool ?_)))
 | (refine retF2 ?_ <;> (conv => whnf) <;> repeat' (first
 | exact trivial
 | (with_reducible rfl)
 | ((with_reducible refine And.intro ?_ ?_) <;> conv => whnf)
 | omega
 | rfl
 | (refine congrArg (SV.arr _) ?_)
 | (refine congrArg (Value.int _) ?_)
 | (refine congrArg Value.bool ?_)))); all_goals (try unfold Side)
  all_goals try (repeat' (first | (with_reducible rfl) | (with_reducible refine And.intro ?_ ?_) | omega | rfl | exact Or.inl rfl | exact Or.inr rfl | (focus ((try simp only [minL, maxL, pickB, getD_int, getD_sl, getD_bool, len_int, len_sl, len_bool, decide_eq_true_eq, decide_eq_false_iff_not, Bool.and_eq_true, Bool.or_eq_true, Bool.and_eq_false_iff, Bool.or_eq_false_iff, Bool.not_eq_true', Bool.not_eq_false', Bool.true_eq_false, Bool.false_eq_true, Int.toNat_natCast, Int.ofNat_lt, Int.ofNat_le, not_true_eq_false, not_false_eq_true, or_false, false_or, and_true, true_and, or_true, true_or, and_false, false_and, InK, Path.imp, List.length_replicate, List.length_set, List.length_append, List.length_cons, List.length_nil] at *); omega)) | (refine app_le rfl ?_; omega)))
set_option maxHeartbeats 2000000 in
theorem Aspires_bad2 (hok : riverOk fl gs = true) (hg : grpB fl.length g = false) (hgl : g.length ≤ 1000) : FnAt Try.prog false 35 [.arr (.int .i64) fl, .arr (.sl (.int .i64)) gs, .arr (.int .i64) g] (.tup [.lit (.int .i64 0), .lit (.int .i64 2)]) [] := by
  have hgr := group_at hok hg hgl h1 h2 h3
  refine FnAt.of_body tys_ok Try.func35 (by rfl) rfl Try.ntmps35 (by rw [Try.results35]) (by simp) ?_
  
  repeat' (first
 | refine W.seq ?_
 | refine W.block ?_
 | (refine W.region tys_ok [] ?_; conv => whnf)
 | (refine W.drawAll tys_ok [] mixed rfl ?_; conv => whnf)
 | (refine W.ret ?_; conv => whnf)
 | (refine W.skip ?_; conv => whnf)
 | (refine W.exit ?_; conv => whnf)
 | (refine call_at (al := true) (hgr) rfl rfl rfl rfl ?_; conv => whnf)

    | (refine W.cond rfl (fun hb => ?_) (fun hb => ?_) <;> (try simp only [minL, maxL, pickB, getD_int, getD_sl, getD_bool, len_int, len_sl, len_bool, decide_eq_true_eq, decide_eq_false_iff_not, Bool.and_eq_true, Bool.or_eq_true, Bool.and_eq_false_iff, Bool.or_eq_false_iff, Bool.not_eq_true', Bool.not_eq_false', Bool.true_eq_false, Bool.false_eq_true, Int.toNat_natCast, Int.ofNat_lt, Int.ofNat_le, not_true_eq_false, not_false_eq_true, or_false, false_or, and_true, true_and, or_true, true_or, and_false, false_and] at hb) <;> (try (first | (cases hb; done) | exact absurd hb (by decide) | (exfalso; omega))))
    | ((with_reducible refine And.intro ?_ ?_); (focus ((repeat' (first | (with_reducible rfl) | (with_reducible refine And.intro ?_ ?_) | omega | rfl | exact Or.inl rfl | exact Or.inr rfl | (focus ((try simp only [minL, maxL, pickB, getD_int, getD_sl, getD_bool, len_int, len_sl, len_bool, decide_eq_true_eq, decide_eq_false_iff_not, Bool.and_eq_true, Bool.or_eq_true, Bool.and_eq_false_iff, Bool.or_eq_false_iff, Bool.not_eq_true', Bool.not_eq_false', Bool.true_eq_false, Bool.false_eq_true, Int.toNat_natCast, Int.ofNat_lt, Int.ofNat_le, not_true_eq_false, not_false_eq_true, or_false, false_or, and_true, true_and, or_true, true_or, and_false, false_and, InK, Path.imp, List.length_replicate, List.length_set, List.length_append, List.length_cons, List.length_nil] at *); omega)) | (refine app_le rfl ?_; omega))); done)); (conv => whnf))
    | ((with_reducible refine And.intro (Side.out ?_) ?_); rotate_left; (conv => whnf))
    | (refine retF1 ?_ <;> (conv => whnf) <;> repeat' (first
 | exact trivial
 | (with_reducible rfl)
 | ((with_reducible refine And.intro ?_ ?_) <;> conv => whnf)
 | omega
 | rfl
 | (refine congrArg (SV.arr _) ?_)
 | (refine congrArg (Value.int _) ?_)
 | (refine congrArg Value.bool ?_)))
 | (refine retF2 ?_ <;> (conv => whnf) <;> repeat' (first
 | exact trivial
 | (with_reducible rfl)
 | ((with_reducible refine And.intro ?_ ?_) <;> conv => whnf)
 | omega
 | rfl
 | (refine congrArg (SV.arr _) ?_)
 | (refine congrArg (Value.int _) ?_)
 | (refine congrArg Value.bool ?_)))); all_goals (try unfold Side)
  all_goals try (repeat' (first | (with_reducible rfl) | (with_reducible refine And.intro ?_ ?_) | omega | rfl | exact Or.inl rfl | exact Or.inr rfl | (focus ((try simp only [minL, maxL, pickB, getD_int, getD_sl, getD_bool, len_int, len_sl, len_bool, decide_eq_true_eq, decide_eq_false_iff_not, Bool.and_eq_true, Bool.or_eq_true, Bool.and_eq_false_iff, Bool.or_eq_false_iff, Bool.not_eq_true', Bool.not_eq_false', Bool.true_eq_false, Bool.false_eq_true, Int.toNat_natCast, Int.ofNat_lt, Int.ofNat_le, not_true_eq_false, not_false_eq_true, or_false, false_or, and_true, true_and, or_true, true_or, and_false, false_and, InK, Path.imp, List.length_replicate, List.length_set, List.length_append, List.length_cons, List.length_nil] at *); omega)) | (refine app_le rfl ?_; omega)))
set_option maxHeartbeats 2000000 in
theorem Aspires_good (hok : riverOk fl gs = true) (hg : grpB fl.length g = true) (hgl : g.length ≤ 1000) : FnAt Try.prog false 35 [.arr (.int .i64) fl, .arr (.sl (.int .i64)) gs, .arr (.int .i64) g] (.tup [.lit (.int .i64 (val fl (onlyL gs fl.length g))), .lit (.int .i64 0)]) [] := by
  have hgr := group_at hok hg hgl h1 h2 h3
  have h := riverOk.riv hok
  have ho := only_at fl gs g h (grpB.grp hg)
  have hR := h.only g
  have hv := value_at fl (onlyL gs fl.length g) hR.g hR.len hR.val
  refine FnAt.of_body tys_ok Try.func35 (by rfl) rfl Try.ntmps35 (by rw [Try.results35]) (by simp) ?_
  
  repeat' (first
 | refine W.seq ?_
 | refine W.block ?_
 | (refine W.region tys_ok [] ?_; conv => whnf)
 | (refine W.drawAll tys_ok [] mixed rfl ?_; conv => whnf)
 | (refine W.ret ?_; conv => whnf)
 | (refine W.skip ?_; conv => whnf)
 | (refine W.exit ?_; conv => whnf)
 | (refine call_at (al := true) (hgr) rfl rfl rfl rfl ?_; conv => whnf)
 | (refine call_at (al := true) (ho) rfl rfl rfl rfl ?_; conv => whnf)
 | (refine call_at (al := false) (hv) rfl rfl rfl rfl ?_; conv => whnf)

    | (refine W.cond rfl (fun hb => ?_) (fun hb => ?_) <;> (try simp only [minL, maxL, pickB, getD_int, getD_sl, getD_bool, len_int, len_sl, len_bool, decide_eq_true_eq, decide_eq_false_iff_not, Bool.and_eq_true, Bool.or_eq_true, Bool.and_eq_false_iff, Bool.or_eq_false_iff, Bool.not_eq_true', Bool.not_eq_false', Bool.true_eq_false, Bool.false_eq_true, Int.toNat_natCast, Int.ofNat_lt, Int.ofNat_le, not_true_eq_false, not_false_eq_true, or_false, false_or, and_true, true_and, or_true, true_or, and_false, false_and] at hb) <;> (try (first | (cases hb; done) | exact absurd hb (by decide) | (exfalso; omega))))
    | ((with_reducible refine And.intro ?_ ?_); (focus ((repeat' (first | (with_reducible rfl) | (with_reducible refine And.intro ?_ ?_) | omega | rfl | exact Or.inl rfl | exact Or.inr rfl | (focus ((try simp only [minL, maxL, pickB, getD_int, getD_sl, getD_bool, len_int, len_sl, len_bool, decide_eq_true_eq, decide_eq_false_iff_not, Bool.and_eq_true, Bool.or_eq_true, Bool.and_eq_false_iff, Bool.or_eq_false_iff, Bool.not_eq_true', Bool.not_eq_false', Bool.true_eq_false, Bool.false_eq_true, Int.toNat_natCast, Int.ofNat_lt, Int.ofNat_le, not_true_eq_false, not_false_eq_true, or_false, false_or, and_true, true_and, or_true, true_or, and_false, false_and, InK, Path.imp, List.length_replicate, List.length_set, List.length_append, List.length_cons, List.length_nil] at *); omega)) | (refine app_le rfl ?_; omega))); done)); (conv => whnf))
    | ((with_reducible refine And.intro (Side.out ?_) ?_); rotate_left; (conv => whnf))
    | (refine retF1 ?_ <;> (conv => whnf) <;> repeat' (first
 | exact trivial
 | (with_reducible rfl)
 | ((with_reducible refine And.intro ?_ ?_) <;> conv => whnf)
 | omega
 | rfl
 | (refine congrArg (SV.arr _) ?_)
 | (refine congrArg (Value.int _) ?_)
 | (refine congrArg Value.bool ?_)))
 | (refine retF2 ?_ <;> (conv => whnf) <;> repeat' (first
 | exact trivial
 | (with_reducible rfl)
 | ((with_reducible refine And.intro ?_ ?_) <;> conv => whnf)
 | omega
 | rfl
 | (refine congrArg (SV.arr _) ?_)
 | (refine congrArg (Value.int _) ?_)
 | (refine congrArg Value.bool ?_)))); all_goals (try unfold Side)
  all_goals try (repeat' (first | (with_reducible rfl) | (with_reducible refine And.intro ?_ ?_) | omega | rfl | exact Or.inl rfl | exact Or.inr rfl | (focus ((try simp only [minL, maxL, pickB, getD_int, getD_sl, getD_bool, len_int, len_sl, len_bool, decide_eq_true_eq, decide_eq_false_iff_not, Bool.and_eq_true, Bool.or_eq_true, Bool.and_eq_false_iff, Bool.or_eq_false_iff, Bool.not_eq_true', Bool.not_eq_false', Bool.true_eq_false, Bool.false_eq_true, Int.toNat_natCast, Int.ofNat_lt, Int.ofNat_le, not_true_eq_false, not_false_eq_true, or_false, false_or, and_true, true_and, or_true, true_or, and_false, false_and, InK, Path.imp, List.length_replicate, List.length_set, List.length_append, List.length_cons, List.length_nil] at *); omega)) | (refine app_le rfl ?_; omega)))
set_option maxHeartbeats 2000000 in
theorem Alone_good (hok : riverOk fl gs = true) (hg : grpB fl.length g = true) (hgl : g.length ≤ 1000) : FnAt Try.prog false 34 [.arr (.int .i64) fl, .arr (.sl (.int .i64)) gs, .arr (.int .i64) g] (.tup [.lit (.int .i64 (aloneL fl gs g)), .lit (.int .i64 0)]) [] := by
  have hgr := group_at hok hg hgl h1 h2 h3
  have h := riverOk.riv hok
  have hG := h.g
  have hl := h.len
  have hl8 := hG.len
  have hgp := grpB.grp hg
  have hgl := hgp.len
  refine FnAt.of_body tys_ok Try.func34 (by rfl) rfl Try.ntmps34 (by rw [Try.results34]) (by simp) ?_
  
  repeat' (first
 | refine W.seq ?_
 | refine W.block ?_
 | (refine W.region tys_ok [] ?_; conv => whnf)
 | (refine W.drawAll tys_ok [] mixed rfl ?_; conv => whnf)
 | (refine W.ret ?_; conv => whnf)
 | (refine W.skip ?_; conv => whnf)
 | (refine W.exit ?_; conv => whnf)
 | (refine call_at (al := true) (hgr) rfl rfl rfl rfl ?_; conv => whnf)

    | (refine W.cond rfl (fun hb => ?_) (fun hb => ?_) <;> (try simp only [minL, maxL, pickB, getD_int, getD_sl, getD_bool, len_int, len_sl, len_bool, decide_eq_true_eq, decide_eq_false_iff_not, Bool.and_eq_true, Bool.or_eq_true, Bool.and_eq_false_iff, Bool.or_eq_false_iff, Bool.not_eq_true', Bool.not_eq_false', Bool.true_eq_false, Bool.false_eq_true, Int.toNat_natCast, Int.ofNat_lt, Int.ofNat_le, not_true_eq_false, not_false_eq_true, or_false, false_or, and_true, true_and, or_true, true_or, and_false, false_and] at hb) <;> (try (first | (cases hb; done) | exact absurd hb (by decide) | (exfalso; omega))))
    | ((with_reducible refine And.intro ?_ ?_); (focus ((repeat' (first | (with_reducible rfl) | (with_reducible refine And.intro ?_ ?_) | omega | rfl | exact Or.inl rfl | exact Or.inr rfl | (focus ((try simp only [minL, maxL, pickB, getD_int, getD_sl, getD_bool, len_int, len_sl, len_bool, decide_eq_true_eq, decide_eq_false_iff_not, Bool.and_eq_true, Bool.or_eq_true, Bool.and_eq_false_iff, Bool.or_eq_false_iff, Bool.not_eq_true', Bool.not_eq_false', Bool.true_eq_false, Bool.false_eq_true, Int.toNat_natCast, Int.ofNat_lt, Int.ofNat_le, not_true_eq_false, not_false_eq_true, or_false, false_or, and_true, true_and, or_true, true_or, and_false, false_and, InK, Path.imp, List.length_replicate, List.length_set, List.length_append, List.length_cons, List.length_nil] at *); omega)) | (refine app_le rfl ?_; omega))); done)); (conv => whnf))
    | ((with_reducible refine And.intro (Side.out ?_) ?_); rotate_left; (conv => whnf))
    | (refine retF1 ?_ <;> (conv => whnf) <;> repeat' (first
 | exact trivial
 | (with_reducible rfl)
 | ((with_reducible refine And.intro ?_ ?_) <;> conv => whnf)
 | omega
 | rfl
 | (refine congrArg (SV.arr _) ?_)
 | (refine congrArg (Value.int _) ?_)
 | (refine congrArg Value.bool ?_)))
 | (refine retF2 ?_ <;> (conv => whnf) <;> repeat' (first
 | exact trivial
 | (with_reducible rfl)
 | ((with_reducible refine And.intro ?_ ?_) <;> conv => whnf)
 | omega
 | rfl
 | (refine congrArg (SV.arr _) ?_)
 | (refine congrArg (Value.int _) ?_)
 | (refine congrArg Value.bool ?_)))); all_goals (try unfold Side)
  all_goals try (repeat' (first | (with_reducible rfl) | (with_reducible refine And.intro ?_ ?_) | omega | rfl | exact Or.inl rfl | exact Or.inr rfl | (focus ((try simp only [minL, maxL, pickB, getD_int, getD_sl, getD_bool, len_int, len_sl, len_bool, decide_eq_true_eq, decide_eq_false_iff_not, Bool.and_eq_true, Bool.or_eq_true, Bool.and_eq_false_iff, Bool.or_eq_false_iff, Bool.not_eq_true', Bool.not_eq_false', Bool.true_eq_false, Bool.false_eq_true, Int.toNat_natCast, Int.ofNat_lt, Int.ofNat_le, not_true_eq_false, not_false_eq_true, or_false, false_or, and_true, true_and, or_true, true_or, and_false, false_and, InK, Path.imp, List.length_replicate, List.length_set, List.length_append, List.length_cons, List.length_nil] at *); omega)) | (refine app_le rfl ?_; omega)))
  refine W.loop (fun x : List Int × Int => ⟨[(8, .padr 9000 0), (2, .st false (.arr (.int .i64) x.1)), (10, .lit (.int .i64 x.2))], [(9000, .box [.st false (.arr (.int .i64) fl), .st false (.arr (.sl (.int .i64)) gs)])]⟩)
    (fun x => 0 ≤ x.2 ∧ (∃ i, i ≤ g.length ∧ x.1 = g.drop i ∧ x.2 ≤ 160000 * i) ∧ x.2 + aloneL fl gs x.1 = aloneL fl gs g) (fun x => x.1.length) (g, 0) ?_ ?_
  · refine ⟨⟨Int.le_refl _, ⟨0, Nat.zero_le _, rfl, Int.le_refl _⟩, by simp⟩, ?_⟩
    refine subF.ok ?_ <;> (conv => whnf) <;> repeat' (first
 | exact trivial
 | (with_reducible rfl)
 | ((with_reducible refine And.intro ?_ ?_) <;> conv => whnf)
 | omega
 | rfl
 | (refine congrArg (SV.arr _) ?_)
 | (refine congrArg (Value.int _) ?_)
 | (refine congrArg Value.bool ?_))
  · rintro ⟨r, s⟩ ⟨g2, ⟨i, g1, hr, g3⟩, g4⟩
    dsimp only at g1 g2 g3 g4 hr ⊢
    have hrl : r.length = g.length - i := by rw [hr, List.length_drop]
    have hrl' : @List.length (Ty.int .i64).T r = g.length - i := hrl
    have hrv : ∀ j, j < r.length → 0 ≤ r.getD j 0 ∧ r.getD j 0 < fl.length := fun j hj => by rw [hr, getD_drop]; exact hgp.val _ (by omega)
    by_cases hi : i < g.length
    · repeat' (first
 | refine W.seq ?_
 | refine W.block ?_
 | (refine W.region tys_ok [] ?_; conv => whnf)
 | (refine W.drawAll tys_ok [] mixed rfl ?_; conv => whnf)
 | (refine W.ret ?_; conv => whnf)
 | (refine W.skip ?_; conv => whnf)
 | (refine W.exit ?_; conv => whnf)

    | (refine W.cond rfl (fun hb => ?_) (fun hb => ?_) <;> (try simp only [minL, maxL, pickB, getD_int, getD_sl, getD_bool, len_int, len_sl, len_bool, decide_eq_true_eq, decide_eq_false_iff_not, Bool.and_eq_true, Bool.or_eq_true, Bool.and_eq_false_iff, Bool.or_eq_false_iff, Bool.not_eq_true', Bool.not_eq_false', Bool.true_eq_false, Bool.false_eq_true, Int.toNat_natCast, Int.ofNat_lt, Int.ofNat_le, not_true_eq_false, not_false_eq_true, or_false, false_or, and_true, true_and, or_true, true_or, and_false, false_and] at hb) <;> (try (first | (cases hb; done) | exact absurd hb (by decide) | (exfalso; omega))))
    | ((with_reducible refine And.intro ?_ ?_); (focus ((repeat' (first | (with_reducible rfl) | (with_reducible refine And.intro ?_ ?_) | omega | rfl | exact Or.inl rfl | exact Or.inr rfl | (focus ((try simp only [minL, maxL, pickB, getD_int, getD_sl, getD_bool, len_int, len_sl, len_bool, decide_eq_true_eq, decide_eq_false_iff_not, Bool.and_eq_true, Bool.or_eq_true, Bool.and_eq_false_iff, Bool.or_eq_false_iff, Bool.not_eq_true', Bool.not_eq_false', Bool.true_eq_false, Bool.false_eq_true, Int.toNat_natCast, Int.ofNat_lt, Int.ofNat_le, not_true_eq_false, not_false_eq_true, or_false, false_or, and_true, true_and, or_true, true_or, and_false, false_and, InK, Path.imp, List.length_replicate, List.length_set, List.length_append, List.length_cons, List.length_nil] at *); omega)) | (refine app_le rfl ?_; omega))); done)); (conv => whnf))
    | ((with_reducible refine And.intro (Side.out ?_) ?_); rotate_left; (conv => whnf))
    | (refine retF1 ?_ <;> (conv => whnf) <;> repeat' (first
 | exact trivial
 | (with_reducible rfl)
 | ((with_reducible refine And.intro ?_ ?_) <;> conv => whnf)
 | omega
 | rfl
 | (refine congrArg (SV.arr _) ?_)
 | (refine congrArg (Value.int _) ?_)
 | (refine congrArg Value.bool ?_)))
 | (refine retF2 ?_ <;> (conv => whnf) <;> repeat' (first
 | exact trivial
 | (with_reducible rfl)
 | ((with_reducible refine And.intro ?_ ?_) <;> conv => whnf)
 | omega
 | rfl
 | (refine congrArg (SV.arr _) ?_)
 | (refine congrArg (Value.int _) ?_)
 | (refine congrArg Value.bool ?_)))); all_goals (try unfold Side)
      all_goals try (repeat' (first | (with_reducible rfl) | (with_reducible refine And.intro ?_ ?_) | omega | rfl | exact Or.inl rfl | exact Or.inr rfl | (focus ((try simp only [minL, maxL, pickB, getD_int, getD_sl, getD_bool, len_int, len_sl, len_bool, decide_eq_true_eq, decide_eq_false_iff_not, Bool.and_eq_true, Bool.or_eq_true, Bool.and_eq_false_iff, Bool.or_eq_false_iff, Bool.not_eq_true', Bool.not_eq_false', Bool.true_eq_false, Bool.false_eq_true, Int.toNat_natCast, Int.ofNat_lt, Int.ofNat_le, not_true_eq_false, not_false_eq_true, or_false, false_or, and_true, true_and, or_true, true_or, and_false, false_and, InK, Path.imp, List.length_replicate, List.length_set, List.length_append, List.length_cons, List.length_nil] at *); omega)) | (refine app_le rfl ?_; omega)))
      refine W.loop (fun n : Nat => ⟨[(8, .padr 9000 0), (2, .st false (.arr (.int .i64) r)), (10, .lit (.int .i64 s)), (11, .lit (.int .i64 n))], [(9000, .box [.st false (.arr (.int .i64) fl), .st false (.arr (.sl (.int .i64)) gs)])]⟩)
        (fun n => 0 < n ∧ n ≤ r.length ∧ ∀ j, 0 < j → j < n → r.getD j 0 = r.getD (j - 1) 0 + 1) (fun n => r.length - n) 1 ?_ ?_
      · refine ⟨⟨by omega, by omega, fun j h1 h2 => by omega⟩, ?_⟩
        refine subF.ok ?_ <;> (conv => whnf) <;> repeat' (first
 | exact trivial
 | (with_reducible rfl)
 | ((with_reducible refine And.intro ?_ ?_) <;> conv => whnf)
 | omega
 | rfl
 | (refine congrArg (SV.arr _) ?_)
 | (refine congrArg (Value.int _) ?_)
 | (refine congrArg Value.bool ?_))
      · rintro n ⟨hk1, hk2, hk3⟩
        have e1 : ((n : Int) - 1).toNat = n - 1 := by omega
        have hv1 := hrv (n - 1) (by omega)
        have hv1' := hv1
        rw [← e1] at hv1'
        have hvi := hrv 0 (by omega)
        by_cases hc : n < r.length ∧ r.getD n 0 = r.getD ((n : Int) - 1).toNat 0 + 1
        · obtain ⟨hc1, hc2⟩ := hc
          repeat' (first
 | refine W.seq ?_
 | refine W.block ?_
 | (refine W.region tys_ok [] ?_; conv => whnf)
 | (refine W.drawAll tys_ok [] mixed rfl ?_; conv => whnf)
 | (refine W.ret ?_; conv => whnf)
 | (refine W.skip ?_; conv => whnf)
 | (refine W.exit ?_; conv => whnf)

    | (refine W.cond rfl (fun hb => ?_) (fun hb => ?_) <;> (try simp only [minL, maxL, pickB, getD_int, getD_sl, getD_bool, len_int, len_sl, len_bool, decide_eq_true_eq, decide_eq_false_iff_not, Bool.and_eq_true, Bool.or_eq_true, Bool.and_eq_false_iff, Bool.or_eq_false_iff, Bool.not_eq_true', Bool.not_eq_false', Bool.true_eq_false, Bool.false_eq_true, Int.toNat_natCast, Int.ofNat_lt, Int.ofNat_le, not_true_eq_false, not_false_eq_true, or_false, false_or, and_true, true_and, or_true, true_or, and_false, false_and] at hb) <;> (try (first | (cases hb; done) | exact absurd hb (by decide) | (exfalso; omega))))
    | ((with_reducible refine And.intro ?_ ?_); (focus ((repeat' (first | (with_reducible rfl) | (with_reducible refine And.intro ?_ ?_) | omega | rfl | exact Or.inl rfl | exact Or.inr rfl | (focus ((try simp only [minL, maxL, pickB, getD_int, getD_sl, getD_bool, len_int, len_sl, len_bool, decide_eq_true_eq, decide_eq_false_iff_not, Bool.and_eq_true, Bool.or_eq_true, Bool.and_eq_false_iff, Bool.or_eq_false_iff, Bool.not_eq_true', Bool.not_eq_false', Bool.true_eq_false, Bool.false_eq_true, Int.toNat_natCast, Int.ofNat_lt, Int.ofNat_le, not_true_eq_false, not_false_eq_true, or_false, false_or, and_true, true_and, or_true, true_or, and_false, false_and, InK, Path.imp, List.length_replicate, List.length_set, List.length_append, List.length_cons, List.length_nil] at *); omega)) | (refine app_le rfl ?_; omega))); done)); (conv => whnf))
    | ((with_reducible refine And.intro (Side.out ?_) ?_); rotate_left; (conv => whnf))
    | (refine retF1 ?_ <;> (conv => whnf) <;> repeat' (first
 | exact trivial
 | (with_reducible rfl)
 | ((with_reducible refine And.intro ?_ ?_) <;> conv => whnf)
 | omega
 | rfl
 | (refine congrArg (SV.arr _) ?_)
 | (refine congrArg (Value.int _) ?_)
 | (refine congrArg Value.bool ?_)))
 | (refine retF2 ?_ <;> (conv => whnf) <;> repeat' (first
 | exact trivial
 | (with_reducible rfl)
 | ((with_reducible refine And.intro ?_ ?_) <;> conv => whnf)
 | omega
 | rfl
 | (refine congrArg (SV.arr _) ?_)
 | (refine congrArg (Value.int _) ?_)
 | (refine congrArg Value.bool ?_)))); all_goals (try unfold Side)
          all_goals try (repeat' (first | (with_reducible rfl) | (with_reducible refine And.intro ?_ ?_) | omega | rfl | exact Or.inl rfl | exact Or.inr rfl | (focus ((try simp only [minL, maxL, pickB, getD_int, getD_sl, getD_bool, len_int, len_sl, len_bool, decide_eq_true_eq, decide_eq_false_iff_not, Bool.and_eq_true, Bool.or_eq_true, Bool.and_eq_false_iff, Bool.or_eq_false_iff, Bool.not_eq_true', Bool.not_eq_false', Bool.true_eq_false, Bool.false_eq_true, Int.toNat_natCast, Int.ofNat_lt, Int.ofNat_le, not_true_eq_false, not_false_eq_true, or_false, false_or, and_true, true_and, or_true, true_or, and_false, false_and, InK, Path.imp, List.length_replicate, List.length_set, List.length_append, List.length_cons, List.length_nil] at *); omega)) | (refine app_le rfl ?_; omega)))
          refine ⟨n + 1, ⟨⟨by omega, by omega, fun j h1 h2 => ?_⟩, by omega⟩, ?_⟩
          · by_cases e : j = n
            · subst e; rw [← e1]; exact hc2
            · exact hk3 j h1 (by omega)
          · refine subF.ok ?_ <;> (conv => whnf) <;> repeat' (first
 | exact trivial
 | (with_reducible rfl)
 | ((with_reducible refine And.intro ?_ ?_) <;> conv => whnf)
 | omega
 | rfl
 | (refine congrArg (SV.arr _) ?_)
 | (refine congrArg (Value.int _) ?_)
 | (refine congrArg Value.bool ?_))
        · have hst := alone_step (fl := fl) (gs := gs) hk1 hk2 hk3 (by rw [← e1]; exact hc)
          have hcs := consec hk3 (n - 1) (by omega)
          have hcs' := hcs
          rw [← e1] at hcs'
          have hp := part_gen fl gs (r.getD 0 0) (r.getD ((n : Int) - 1).toNat 0 + 1) (by omega) (by omega) (by omega) (by omega) (by omega) (by omega)
          have hRp := h.part (r.getD 0 0).toNat (r.getD ((n : Int) - 1).toNat 0 + 1).toNat
          have hv := value_at _ _ hRp.g hRp.len hRp.val
          have hrb := rowV_bound (fl := fl) hG (r.getD 0 0).toNat n
          have e2 : val ((fl.take (r.getD ((n : Int) - 1).toNat 0 + 1).toNat).drop (r.getD 0 0).toNat) ((gs.take (r.getD ((n : Int) - 1).toNat 0 + 1).toNat).drop (r.getD 0 0).toNat) = rowV fl gs (r.getD 0 0).toNat n := by
            rw [rowV, show (r.getD 0 0).toNat + n = (r.getD ((n : Int) - 1).toNat 0 + 1).toNat from by omega]
          rw [e2] at hv
          repeat' (first
 | refine W.seq ?_
 | refine W.block ?_
 | (refine W.region tys_ok [] ?_; conv => whnf)
 | (refine W.drawAll tys_ok [] mixed rfl ?_; conv => whnf)
 | (refine W.ret ?_; conv => whnf)
 | (refine W.skip ?_; conv => whnf)
 | (refine W.exit ?_; conv => whnf)
 | (refine call_at (al := true) (hp) rfl rfl rfl rfl ?_; conv => whnf)
 | (refine call_at (al := false) (hv) rfl rfl rfl rfl ?_; conv => whnf)

    | (refine W.cond rfl (fun hb => ?_) (fun hb => ?_) <;> (try simp only [minL, maxL, pickB, getD_int, getD_sl, getD_bool, len_int, len_sl, len_bool, decide_eq_true_eq, decide_eq_false_iff_not, Bool.and_eq_true, Bool.or_eq_true, Bool.and_eq_false_iff, Bool.or_eq_false_iff, Bool.not_eq_true', Bool.not_eq_false', Bool.true_eq_false, Bool.false_eq_true, Int.toNat_natCast, Int.ofNat_lt, Int.ofNat_le, not_true_eq_false, not_false_eq_true, or_false, false_or, and_true, true_and, or_true, true_or, and_false, false_and] at hb) <;> (try (first | (cases hb; done) | exact absurd hb (by decide) | (exfalso; omega))))
    | ((with_reducible refine And.intro ?_ ?_); (focus ((repeat' (first | (with_reducible rfl) | (with_reducible refine And.intro ?_ ?_) | omega | rfl | exact Or.inl rfl | exact Or.inr rfl | (focus ((try simp only [minL, maxL, pickB, getD_int, getD_sl, getD_bool, len_int, len_sl, len_bool, decide_eq_true_eq, decide_eq_false_iff_not, Bool.and_eq_true, Bool.or_eq_true, Bool.and_eq_false_iff, Bool.or_eq_false_iff, Bool.not_eq_true', Bool.not_eq_false', Bool.true_eq_false, Bool.false_eq_true, Int.toNat_natCast, Int.ofNat_lt, Int.ofNat_le, not_true_eq_false, not_false_eq_true, or_false, false_or, and_true, true_and, or_true, true_or, and_false, false_and, InK, Path.imp, List.length_replicate, List.length_set, List.length_append, List.length_cons, List.length_nil] at *); omega)) | (refine app_le rfl ?_; omega))); done)); (conv => whnf))
    | ((with_reducible refine And.intro (Side.out ?_) ?_); rotate_left; (conv => whnf))
    | (refine retF1 ?_ <;> (conv => whnf) <;> repeat' (first
 | exact trivial
 | (with_reducible rfl)
 | ((with_reducible refine And.intro ?_ ?_) <;> conv => whnf)
 | omega
 | rfl
 | (refine congrArg (SV.arr _) ?_)
 | (refine congrArg (Value.int _) ?_)
 | (refine congrArg Value.bool ?_)))
 | (refine retF2 ?_ <;> (conv => whnf) <;> repeat' (first
 | exact trivial
 | (with_reducible rfl)
 | ((with_reducible refine And.intro ?_ ?_) <;> conv => whnf)
 | omega
 | rfl
 | (refine congrArg (SV.arr _) ?_)
 | (refine congrArg (Value.int _) ?_)
 | (refine congrArg Value.bool ?_)))); all_goals (try unfold Side)
          all_goals try (repeat' (first | (with_reducible rfl) | (with_reducible refine And.intro ?_ ?_) | omega | rfl | exact Or.inl rfl | exact Or.inr rfl | (focus ((try simp only [minL, maxL, pickB, getD_int, getD_sl, getD_bool, len_int, len_sl, len_bool, decide_eq_true_eq, decide_eq_false_iff_not, Bool.and_eq_true, Bool.or_eq_true, Bool.and_eq_false_iff, Bool.or_eq_false_iff, Bool.not_eq_true', Bool.not_eq_false', Bool.true_eq_false, Bool.false_eq_true, Int.toNat_natCast, Int.ofNat_lt, Int.ofNat_le, not_true_eq_false, not_false_eq_true, or_false, false_or, and_true, true_and, or_true, true_or, and_false, false_and, InK, Path.imp, List.length_replicate, List.length_set, List.length_append, List.length_cons, List.length_nil] at *); omega)) | (refine app_le rfl ?_; omega)))
          refine ⟨(r.drop n, s + rowV fl gs (r.getD 0 0).toNat n), ⟨⟨?_, ⟨i + n, ?_, ?_, ?_⟩, ?_⟩, ?_⟩, ?_⟩
          · dsimp only; omega
          · omega
          · dsimp only; rw [hr, List.drop_drop]
          · dsimp only; omega
          · dsimp only; omega
          · dsimp only; rw [List.length_drop]; omega
          · refine subF.ok ?_ <;> (conv => whnf) <;> repeat' (first
 | exact trivial
 | (with_reducible rfl)
 | ((with_reducible refine And.intro ?_ ?_) <;> conv => whnf)
 | omega
 | rfl
 | (refine congrArg (SV.arr _) ?_)
 | (refine congrArg (Value.int _) ?_)
 | (refine congrArg Value.bool ?_))
            show (r.take r.length).drop n = r.drop n
            rw [List.take_length]
    · have hre : r = [] := List.eq_nil_of_length_eq_zero (by omega)
      subst hre
      rw [show aloneL fl gs [] = 0 from rfl] at g4
      repeat' (first
 | refine W.seq ?_
 | refine W.block ?_
 | (refine W.region tys_ok [] ?_; conv => whnf)
 | (refine W.drawAll tys_ok [] mixed rfl ?_; conv => whnf)
 | (refine W.ret ?_; conv => whnf)
 | (refine W.skip ?_; conv => whnf)
 | (refine W.exit ?_; conv => whnf)

    | (refine W.cond rfl (fun hb => ?_) (fun hb => ?_) <;> (try simp only [minL, maxL, pickB, getD_int, getD_sl, getD_bool, len_int, len_sl, len_bool, decide_eq_true_eq, decide_eq_false_iff_not, Bool.and_eq_true, Bool.or_eq_true, Bool.and_eq_false_iff, Bool.or_eq_false_iff, Bool.not_eq_true', Bool.not_eq_false', Bool.true_eq_false, Bool.false_eq_true, Int.toNat_natCast, Int.ofNat_lt, Int.ofNat_le, not_true_eq_false, not_false_eq_true, or_false, false_or, and_true, true_and, or_true, true_or, and_false, false_and] at hb) <;> (try (first | (cases hb; done) | exact absurd hb (by decide) | (exfalso; omega))))
    | ((with_reducible refine And.intro ?_ ?_); (focus ((repeat' (first | (with_reducible rfl) | (with_reducible refine And.intro ?_ ?_) | omega | rfl | exact Or.inl rfl | exact Or.inr rfl | (focus ((try simp only [minL, maxL, pickB, getD_int, getD_sl, getD_bool, len_int, len_sl, len_bool, decide_eq_true_eq, decide_eq_false_iff_not, Bool.and_eq_true, Bool.or_eq_true, Bool.and_eq_false_iff, Bool.or_eq_false_iff, Bool.not_eq_true', Bool.not_eq_false', Bool.true_eq_false, Bool.false_eq_true, Int.toNat_natCast, Int.ofNat_lt, Int.ofNat_le, not_true_eq_false, not_false_eq_true, or_false, false_or, and_true, true_and, or_true, true_or, and_false, false_and, InK, Path.imp, List.length_replicate, List.length_set, List.length_append, List.length_cons, List.length_nil] at *); omega)) | (refine app_le rfl ?_; omega))); done)); (conv => whnf))
    | ((with_reducible refine And.intro (Side.out ?_) ?_); rotate_left; (conv => whnf))
    | (refine retF1 ?_ <;> (conv => whnf) <;> repeat' (first
 | exact trivial
 | (with_reducible rfl)
 | ((with_reducible refine And.intro ?_ ?_) <;> conv => whnf)
 | omega
 | rfl
 | (refine congrArg (SV.arr _) ?_)
 | (refine congrArg (Value.int _) ?_)
 | (refine congrArg Value.bool ?_)))
 | (refine retF2 ?_ <;> (conv => whnf) <;> repeat' (first
 | exact trivial
 | (with_reducible rfl)
 | ((with_reducible refine And.intro ?_ ?_) <;> conv => whnf)
 | omega
 | rfl
 | (refine congrArg (SV.arr _) ?_)
 | (refine congrArg (Value.int _) ?_)
 | (refine congrArg Value.bool ?_)))); all_goals (try unfold Side)
      all_goals try (repeat' (first | (with_reducible rfl) | (with_reducible refine And.intro ?_ ?_) | omega | rfl | exact Or.inl rfl | exact Or.inr rfl | (focus ((try simp only [minL, maxL, pickB, getD_int, getD_sl, getD_bool, len_int, len_sl, len_bool, decide_eq_true_eq, decide_eq_false_iff_not, Bool.and_eq_true, Bool.or_eq_true, Bool.and_eq_false_iff, Bool.or_eq_false_iff, Bool.not_eq_true', Bool.not_eq_false', Bool.true_eq_false, Bool.false_eq_true, Int.toNat_natCast, Int.ofNat_lt, Int.ofNat_le, not_true_eq_false, not_false_eq_true, or_false, false_or, and_true, true_and, or_true, true_or, and_false, false_and, InK, Path.imp, List.length_replicate, List.length_set, List.length_append, List.length_cons, List.length_nil] at *); omega)) | (refine app_le rfl ?_; omega)))
end
set_option maxHeartbeats 2000000 in
theorem WaterGroups_at (fl : List Int) (gs : List (List Int)) (y : List Int) : FnAt Try.prog false 11 [.agg [.arr (.int .i64) fl, .arr (.sl (.int .i64)) gs], .arr (.int .i64) y] (.lit (.bool true)) [] := by
  obtain ⟨F, hF⟩ : ∃ F, F = fl.take 9 := ⟨_, rfl⟩
  obtain ⟨G, hG⟩ : ∃ G, G = fewG gs := ⟨_, rfl⟩
  obtain ⟨U, hUe⟩ : ∃ U, U = y.take 9 := ⟨_, rfl⟩
  have hU : U.length ≤ 9 := by rw [hUe, List.length_take]; omega
  have hfew := few_eq hF hG
  have hcut := cut_eq (n := 9) (by omega) hUe
  obtain ⟨hl1, hl2, hl3⟩ := (few_few hF hG).len
  clear hF hG hUe
  have hRv := River_ref F G hl1 hl2 hl3
  cases hok : riverOk F G with
  | false =>
    rw [hok] at hRv
    have hA := Alone_bad1 (g := U) hl1 hl2 hl3 hok
    have hB := Aspires_bad1 (g := U) hl1 hl2 hl3 hok
    refine FnAt.of_body tys_ok Try.func11 (by rfl) rfl Try.ntmps11 (by rw [Try.results11]) (by simp) ?_
  
    repeat' (first
 | refine W.seq ?_
 | refine W.block ?_
 | (refine W.region tys_ok [] ?_; conv => whnf)
 | (refine W.drawAll tys_ok [] mixed rfl ?_; conv => whnf)
 | (refine W.ret ?_; conv => whnf)
 | (refine W.skip ?_; conv => whnf)
 | (refine W.exit ?_; conv => whnf)
 | (refine call_at (al := false) (hfew) rfl rfl rfl rfl ?_; conv => whnf)
 | (refine call_at (al := false) (hcut) rfl rfl rfl rfl ?_; conv => whnf)
 | (refine call_at (al := false) (hA) rfl rfl rfl rfl ?_; conv => whnf)
 | (refine call_at (al := false) (hB) rfl rfl rfl rfl ?_; conv => whnf)
 | (refine call_at (al := false) (hRv) rfl rfl rfl rfl ?_; conv => whnf)
 | (refine call_at (al := false) (lives_at) rfl rfl rfl rfl ?_; conv => whnf)

    | (refine W.cond rfl (fun hb => ?_) (fun hb => ?_) <;> (try simp only [minL, maxL, pickB, getD_int, getD_sl, getD_bool, len_int, len_sl, len_bool, decide_eq_true_eq, decide_eq_false_iff_not, Bool.and_eq_true, Bool.or_eq_true, Bool.and_eq_false_iff, Bool.or_eq_false_iff, Bool.not_eq_true', Bool.not_eq_false', Bool.true_eq_false, Bool.false_eq_true, Int.toNat_natCast, Int.ofNat_lt, Int.ofNat_le, not_true_eq_false, not_false_eq_true, or_false, false_or, and_true, true_and, or_true, true_or, and_false, false_and] at hb) <;> (try (first | (cases hb; done) | exact absurd hb (by decide) | (exfalso; omega))))
    | ((with_reducible refine And.intro ?_ ?_); (focus ((repeat' (first | (with_reducible rfl) | (with_reducible refine And.intro ?_ ?_) | omega | rfl | exact Or.inl rfl | exact Or.inr rfl | (focus ((try simp only [minL, maxL, pickB, getD_int, getD_sl, getD_bool, len_int, len_sl, len_bool, decide_eq_true_eq, decide_eq_false_iff_not, Bool.and_eq_true, Bool.or_eq_true, Bool.and_eq_false_iff, Bool.or_eq_false_iff, Bool.not_eq_true', Bool.not_eq_false', Bool.true_eq_false, Bool.false_eq_true, Int.toNat_natCast, Int.ofNat_lt, Int.ofNat_le, not_true_eq_false, not_false_eq_true, or_false, false_or, and_true, true_and, or_true, true_or, and_false, false_and, InK, Path.imp, List.length_replicate, List.length_set, List.length_append, List.length_cons, List.length_nil] at *); omega)) | (refine app_le rfl ?_; omega))); done)); (conv => whnf))
    | ((with_reducible refine And.intro (Side.out ?_) ?_); rotate_left; (conv => whnf))
    | (refine retF1 ?_ <;> (conv => whnf) <;> repeat' (first
 | exact trivial
 | (with_reducible rfl)
 | ((with_reducible refine And.intro ?_ ?_) <;> conv => whnf)
 | omega
 | rfl
 | (refine congrArg (SV.arr _) ?_)
 | (refine congrArg (Value.int _) ?_)
 | (refine congrArg Value.bool ?_)))
 | (refine retF2 ?_ <;> (conv => whnf) <;> repeat' (first
 | exact trivial
 | (with_reducible rfl)
 | ((with_reducible refine And.intro ?_ ?_) <;> conv => whnf)
 | omega
 | rfl
 | (refine congrArg (SV.arr _) ?_)
 | (refine congrArg (Value.int _) ?_)
 | (refine congrArg Value.bool ?_)))); all_goals (try unfold Side)
    all_goals try (repeat' (first | (with_reducible rfl) | (with_reducible refine And.intro ?_ ?_) | omega | rfl | exact Or.inl rfl | exact Or.inr rfl | (focus ((try simp only [minL, maxL, pickB, getD_int, getD_sl, getD_bool, len_int, len_sl, len_bool, decide_eq_true_eq, decide_eq_false_iff_not, Bool.and_eq_true, Bool.or_eq_true, Bool.and_eq_false_iff, Bool.or_eq_false_iff, Bool.not_eq_true', Bool.not_eq_false', Bool.true_eq_false, Bool.false_eq_true, Int.toNat_natCast, Int.ofNat_lt, Int.ofNat_le, not_true_eq_false, not_false_eq_true, or_false, false_or, and_true, true_and, or_true, true_or, and_false, false_and, InK, Path.imp, List.length_replicate, List.length_set, List.length_append, List.length_cons, List.length_nil] at *); omega)) | (refine app_le rfl ?_; omega)))
  | true =>
    rw [hok] at hRv
    have h := riverOk.riv hok
    have hl8 := h.g.len
    have hl := h.len
    have hlp := (riverOk.river hok).pos
    have hGr := Group_ref F.length U (by omega) (by omega)
    cases hg : grpB F.length U with
    | false =>
      rw [hg] at hGr
      have hA := Alone_bad2 (g := U) hl1 hl2 hl3 hok hg (by omega)
      have hB := Aspires_bad2 (g := U) hl1 hl2 hl3 hok hg (by omega)
      refine FnAt.of_body tys_ok Try.func11 (by rfl) rfl Try.ntmps11 (by rw [Try.results11]) (by simp) ?_
  
      repeat' (first
 | refine W.seq ?_
 | refine W.block ?_
 | (refine W.region tys_ok [] ?_; conv => whnf)
 | (refine W.drawAll tys_ok [] mixed rfl ?_; conv => whnf)
 | (refine W.ret ?_; conv => whnf)
 | (refine W.skip ?_; conv => whnf)
 | (refine W.exit ?_; conv => whnf)
 | (refine call_at (al := false) (hfew) rfl rfl rfl rfl ?_; conv => whnf)
 | (refine call_at (al := false) (hcut) rfl rfl rfl rfl ?_; conv => whnf)
 | (refine call_at (al := false) (hA) rfl rfl rfl rfl ?_; conv => whnf)
 | (refine call_at (al := false) (hB) rfl rfl rfl rfl ?_; conv => whnf)
 | (refine call_at (al := false) (hRv) rfl rfl rfl rfl ?_; conv => whnf)
 | (refine call_at (al := false) (hGr) rfl rfl rfl rfl ?_; conv => whnf)
 | (refine call_at (al := false) (lives_at) rfl rfl rfl rfl ?_; conv => whnf)

    | (refine W.cond rfl (fun hb => ?_) (fun hb => ?_) <;> (try simp only [minL, maxL, pickB, getD_int, getD_sl, getD_bool, len_int, len_sl, len_bool, decide_eq_true_eq, decide_eq_false_iff_not, Bool.and_eq_true, Bool.or_eq_true, Bool.and_eq_false_iff, Bool.or_eq_false_iff, Bool.not_eq_true', Bool.not_eq_false', Bool.true_eq_false, Bool.false_eq_true, Int.toNat_natCast, Int.ofNat_lt, Int.ofNat_le, not_true_eq_false, not_false_eq_true, or_false, false_or, and_true, true_and, or_true, true_or, and_false, false_and] at hb) <;> (try (first | (cases hb; done) | exact absurd hb (by decide) | (exfalso; omega))))
    | ((with_reducible refine And.intro ?_ ?_); (focus ((repeat' (first | (with_reducible rfl) | (with_reducible refine And.intro ?_ ?_) | omega | rfl | exact Or.inl rfl | exact Or.inr rfl | (focus ((try simp only [minL, maxL, pickB, getD_int, getD_sl, getD_bool, len_int, len_sl, len_bool, decide_eq_true_eq, decide_eq_false_iff_not, Bool.and_eq_true, Bool.or_eq_true, Bool.and_eq_false_iff, Bool.or_eq_false_iff, Bool.not_eq_true', Bool.not_eq_false', Bool.true_eq_false, Bool.false_eq_true, Int.toNat_natCast, Int.ofNat_lt, Int.ofNat_le, not_true_eq_false, not_false_eq_true, or_false, false_or, and_true, true_and, or_true, true_or, and_false, false_and, InK, Path.imp, List.length_replicate, List.length_set, List.length_append, List.length_cons, List.length_nil] at *); omega)) | (refine app_le rfl ?_; omega))); done)); (conv => whnf))
    | ((with_reducible refine And.intro (Side.out ?_) ?_); rotate_left; (conv => whnf))
    | (refine retF1 ?_ <;> (conv => whnf) <;> repeat' (first
 | exact trivial
 | (with_reducible rfl)
 | ((with_reducible refine And.intro ?_ ?_) <;> conv => whnf)
 | omega
 | rfl
 | (refine congrArg (SV.arr _) ?_)
 | (refine congrArg (Value.int _) ?_)
 | (refine congrArg Value.bool ?_)))
 | (refine retF2 ?_ <;> (conv => whnf) <;> repeat' (first
 | exact trivial
 | (with_reducible rfl)
 | ((with_reducible refine And.intro ?_ ?_) <;> conv => whnf)
 | omega
 | rfl
 | (refine congrArg (SV.arr _) ?_)
 | (refine congrArg (Value.int _) ?_)
 | (refine congrArg Value.bool ?_)))); all_goals (try unfold Side)
      all_goals try (repeat' (first | (with_reducible rfl) | (with_reducible refine And.intro ?_ ?_) | omega | rfl | exact Or.inl rfl | exact Or.inr rfl | (focus ((try simp only [minL, maxL, pickB, getD_int, getD_sl, getD_bool, len_int, len_sl, len_bool, decide_eq_true_eq, decide_eq_false_iff_not, Bool.and_eq_true, Bool.or_eq_true, Bool.and_eq_false_iff, Bool.or_eq_false_iff, Bool.not_eq_true', Bool.not_eq_false', Bool.true_eq_false, Bool.false_eq_true, Int.toNat_natCast, Int.ofNat_lt, Int.ofNat_le, not_true_eq_false, not_false_eq_true, or_false, false_or, and_true, true_and, or_true, true_or, and_false, false_and, InK, Path.imp, List.length_replicate, List.length_set, List.length_append, List.length_cons, List.length_nil] at *); omega)) | (refine app_le rfl ?_; omega)))
    | true =>
      rw [hg] at hGr
      have hA := Alone_good (g := U) hl1 hl2 hl3 hok hg (by omega)
      have hB := Aspires_good (g := U) hl1 hl2 hl3 hok hg (by omega)
      have hA2 := Alone_ref F G U h (grpB.grp hg)
      have hB2 := Aspires_ref F G U h (grpB.grp hg)
      refine FnAt.of_body tys_ok Try.func11 (by rfl) rfl Try.ntmps11 (by rw [Try.results11]) (by simp) ?_
  
      repeat' (first
 | refine W.seq ?_
 | refine W.block ?_
 | (refine W.region tys_ok [] ?_; conv => whnf)
 | (refine W.drawAll tys_ok [] mixed rfl ?_; conv => whnf)
 | (refine W.ret ?_; conv => whnf)
 | (refine W.skip ?_; conv => whnf)
 | (refine W.exit ?_; conv => whnf)
 | (refine call_at (al := false) (hfew) rfl rfl rfl rfl ?_; conv => whnf)
 | (refine call_at (al := false) (hcut) rfl rfl rfl rfl ?_; conv => whnf)
 | (refine call_at (al := false) (hA) rfl rfl rfl rfl ?_; conv => whnf)
 | (refine call_at (al := false) (hB) rfl rfl rfl rfl ?_; conv => whnf)
 | (refine call_at (al := false) (hRv) rfl rfl rfl rfl ?_; conv => whnf)
 | (refine call_at (al := false) (hGr) rfl rfl rfl rfl ?_; conv => whnf)
 | (refine call_at (al := false) (hA2) rfl rfl rfl rfl ?_; conv => whnf)
 | (refine call_at (al := false) (hB2) rfl rfl rfl rfl ?_; conv => whnf)
 | (refine call_at (al := false) (lives_at) rfl rfl rfl rfl ?_; conv => whnf)

    | (refine W.cond rfl (fun hb => ?_) (fun hb => ?_) <;> (try simp only [minL, maxL, pickB, getD_int, getD_sl, getD_bool, len_int, len_sl, len_bool, decide_eq_true_eq, decide_eq_false_iff_not, Bool.and_eq_true, Bool.or_eq_true, Bool.and_eq_false_iff, Bool.or_eq_false_iff, Bool.not_eq_true', Bool.not_eq_false', Bool.true_eq_false, Bool.false_eq_true, Int.toNat_natCast, Int.ofNat_lt, Int.ofNat_le, not_true_eq_false, not_false_eq_true, or_false, false_or, and_true, true_and, or_true, true_or, and_false, false_and] at hb) <;> (try (first | (cases hb; done) | exact absurd hb (by decide) | (exfalso; omega))))
    | ((with_reducible refine And.intro ?_ ?_); (focus ((repeat' (first | (with_reducible rfl) | (with_reducible refine And.intro ?_ ?_) | omega | rfl | exact Or.inl rfl | exact Or.inr rfl | (focus ((try simp only [minL, maxL, pickB, getD_int, getD_sl, getD_bool, len_int, len_sl, len_bool, decide_eq_true_eq, decide_eq_false_iff_not, Bool.and_eq_true, Bool.or_eq_true, Bool.and_eq_false_iff, Bool.or_eq_false_iff, Bool.not_eq_true', Bool.not_eq_false', Bool.true_eq_false, Bool.false_eq_true, Int.toNat_natCast, Int.ofNat_lt, Int.ofNat_le, not_true_eq_false, not_false_eq_true, or_false, false_or, and_true, true_and, or_true, true_or, and_false, false_and, InK, Path.imp, List.length_replicate, List.length_set, List.length_append, List.length_cons, List.length_nil] at *); omega)) | (refine app_le rfl ?_; omega))); done)); (conv => whnf))
    | ((with_reducible refine And.intro (Side.out ?_) ?_); rotate_left; (conv => whnf))
    | (refine retF1 ?_ <;> (conv => whnf) <;> repeat' (first
 | exact trivial
 | (with_reducible rfl)
 | ((with_reducible refine And.intro ?_ ?_) <;> conv => whnf)
 | omega
 | rfl
 | (refine congrArg (SV.arr _) ?_)
 | (refine congrArg (Value.int _) ?_)
 | (refine congrArg Value.bool ?_)))
 | (refine retF2 ?_ <;> (conv => whnf) <;> repeat' (first
 | exact trivial
 | (with_reducible rfl)
 | ((with_reducible refine And.intro ?_ ?_) <;> conv => whnf)
 | omega
 | rfl
 | (refine congrArg (SV.arr _) ?_)
 | (refine congrArg (Value.int _) ?_)
 | (refine congrArg Value.bool ?_)))); all_goals (try unfold Side)
      all_goals try (repeat' (first | (with_reducible rfl) | (with_reducible refine And.intro ?_ ?_) | omega | rfl | exact Or.inl rfl | exact Or.inr rfl | (focus ((try simp only [minL, maxL, pickB, getD_int, getD_sl, getD_bool, len_int, len_sl, len_bool, decide_eq_true_eq, decide_eq_false_iff_not, Bool.and_eq_true, Bool.or_eq_true, Bool.and_eq_false_iff, Bool.or_eq_false_iff, Bool.not_eq_true', Bool.not_eq_false', Bool.true_eq_false, Bool.false_eq_true, Int.toNat_natCast, Int.ofNat_lt, Int.ofNat_le, not_true_eq_false, not_false_eq_true, or_false, false_or, and_true, true_and, or_true, true_or, and_false, false_and, InK, Path.imp, List.length_replicate, List.length_set, List.length_append, List.length_cons, List.length_nil] at *); omega)) | (refine app_le rfl ?_; omega)))
      simp [pickB]
end Go.Proofs.Ytohfemfgnohhdaa
