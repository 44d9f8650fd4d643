/- The document's best use: what the function returns. No condition. -/
import Derived.Test.YtohfemfgnohhdaaW23
namespace Go.Proofs.Ytohfemfgnohhdaa
open Go Go.Vc
set_option linter.unusedVariables false
set_option linter.unusedSimpArgs false

/-- The table from place c on. -/
def afterX (T : Nat) (fl : List Int) (gs : List (List Int)) (c : Nat) : List (List Int) := (List.range (fl.length + 1)).map fun j => if c ≤ j then tabF T (fl.drop j) (gs.drop j) else []
theorem afterX_len {T c : Nat} {fl : List Int} {gs : List (List Int)} : (afterX T fl gs c).length = fl.length + 1 := by simp [afterX]
theorem afterX_get {T c j : Nat} {fl : List Int} {gs : List (List Int)} (hj : j < fl.length + 1) : (afterX T fl gs c).getD j [] = if c ≤ j then tabF T (fl.drop j) (gs.drop j) else [] := by
  rw [List.getD_eq_getElem?_getD, afterX, List.getElem?_map, List.getElem?_range hj]; rfl
theorem afterX_start {T : Nat} {fl : List Int} {gs : List (List Int)} : (List.replicate (fl.length + 1) ([] : List Int)).set fl.length (List.replicate (T + 1) 0) = afterX T fl gs fl.length := by
  apply List.ext_getElem?
  intro j
  rw [List.getElem?_set, List.length_replicate, List.getElem?_replicate]
  by_cases h : j < fl.length + 1
  · rw [afterX, List.getElem?_map, List.getElem?_range h]
    by_cases e : fl.length = j
    · subst e
      rw [if_pos rfl, if_pos h]
      simp only [Option.map_some, Nat.le_refl, if_true, List.drop_length]
      rfl
    · rw [if_neg e, if_pos h]
      simp only [Option.map_some]
      rw [if_neg (by omega)]
  · rw [afterX, List.getElem?_map, List.getElem?_eq_none (by simp; omega), if_neg (by omega), if_neg h]
    rfl
theorem afterX_step {T c : Nat} {fl : List Int} {gs : List (List Int)} (hc : c < fl.length) : (afterX T fl gs (c + 1)).set c (tabF T (fl.drop c) (gs.drop c)) = afterX T fl gs c := by
  apply List.ext_getElem?
  intro j
  rw [List.getElem?_set, afterX_len]
  by_cases e : c = j
  · subst e
    rw [if_pos rfl, if_pos (by omega), afterX, List.getElem?_map, List.getElem?_range (by omega)]
    simp
  · rw [if_neg e]
    by_cases h : j < fl.length + 1
    · rw [afterX, afterX, List.getElem?_map, List.getElem?_map, List.getElem?_range h]
      simp only [Option.map_some]
      congr 1
      by_cases h2 : c + 1 ≤ j
      · rw [if_pos h2, if_pos (by omega)]
      · rw [if_neg h2, if_neg (by omega)]
    · rw [afterX, afterX, List.getElem?_map, List.getElem?_map, List.getElem?_eq_none (by simp; omega)]
      rfl
/-- The first entries of row c. -/
def rowP (T : Nat) (fl : List Int) (gs : List (List Int)) (c w : Nat) : List Int := (List.range w).map fun (w : Nat) => mostL (fl.getD c 0) (gs.getD c []) w (tabF T (fl.drop (c + 1)) (gs.drop (c + 1))) (cntL (fl.getD c 0) (gs.getD c []) w)
theorem rowP_len {T c w : Nat} {fl : List Int} {gs : List (List Int)} : (rowP T fl gs c w).length = w := by simp [rowP]
theorem rowP_full {T c : Nat} {fl : List Int} {gs : List (List Int)} (hc : c < fl.length) (hl : fl.length = gs.length) : rowP T fl gs c (T + 1) = tabF T (fl.drop c) (gs.drop c) := by
  rw [drop_getD 0 hc, drop_getD [] (by omega : c < gs.length)]
  rfl
theorem rowP_succ {T c w : Nat} {fl : List Int} {gs : List (List Int)} : rowP T fl gs c (w + 1) = rowP T fl gs c w ++ [mostL (fl.getD c 0) (gs.getD c []) w (tabF T (fl.drop (c + 1)) (gs.drop (c + 1))) (cntL (fl.getD c 0) (gs.getD c []) w)] := by
  simp [rowP, List.range_succ]
theorem tabF_bound {T : Nat} : ∀ {fs : List Int} {gs : List (List Int)}, OkG gs → ∀ k, 0 ≤ (tabF T fs gs).getD k 0 ∧ (tabF T fs gs).getD k 0 ≤ 20000 * gs.length
  | f :: fs, g :: gs, hG, k => by
    have ih := tabF_bound (T := T) (fs := fs) (gs := gs) hG.tail
    have hs := hG.take_sum 0
    simp only [List.getD_cons_zero] at hs
    simp only [tabF]
    rw [List.getD_eq_getElem?_getD, List.getElem?_map]
    by_cases h : k < T + 1
    · rw [List.getElem?_range h]
      simp only [Option.map_some, Option.getD_some, List.length_cons]
      have := mostL_bound (f := f) (w := (k : Int)) hs ih (cntL f g k)
      omega
    · rw [List.getElem?_eq_none (by simp; omega)]
      simp only [Option.map_none, Option.getD_none]
      omega
  | [], gs, hG, k => by
    simp only [tabF]
    rw [List.getD_eq_getElem?_getD, List.getElem?_replicate]
    split <;> simp only [Option.getD_some, Option.getD_none] <;> omega
  | _ :: _, [], hG, k => by
    simp only [tabF]
    rw [List.getD_eq_getElem?_getD, List.getElem?_replicate]
    split <;> simp
theorem OkG.drop {gs : List (List Int)} (h : OkG gs) (n : Nat) : OkG (gs.drop n) := by
  induction n generalizing gs with
  | zero => exact h
  | succ n ih =>
    cases gs with
    | nil => exact h
    | cons g gs => exact ih h.tail

theorem getD_drop {α : Type} {d : α} {xs : List α} {n i : Nat} : (xs.drop n).getD i d = xs.getD (n + i) d := by
  rw [List.getD_eq_getElem?_getD, List.getElem?_drop, ← List.getD_eq_getElem?_getD]
theorem take_getD {α : Type} {d : α} {xs : List α} {i : Nat} (h : i < xs.length) : xs.take (i + 1) = xs.take i ++ [xs.getD i d] := by
  rw [List.take_add_one, List.getD_eq_getElem?_getD, List.getElem?_eq_getElem h]; rfl
theorem Sfx.drop {fs : List Int} {gs : List (List Int)} (h : Sfx fs gs) (n : Nat) : Sfx (fs.drop n) (gs.drop n) := by
  refine ⟨by rw [List.length_drop, List.length_drop, h.len], fun i hi => ?_, fun i j => ?_⟩
  · rw [getD_drop]; rw [List.length_drop] at hi; exact h.f0 _ (by omega)
  · rw [getD_drop]; exact h.g0 _ _
theorem set_getD_self {α : Type} {xs : List α} {i : Nat} {d : α} (hi : i < xs.length) : xs.set i (xs.getD i d) = xs := by
  apply List.ext_getElem?
  intro j
  rw [List.getElem?_set]
  split
  · rename_i e
    subst e
    rw [List.getD_eq_getElem?_getD, List.getElem?_eq_getElem hi]; simp [hi]
  · rfl
set_option maxHeartbeats 2000000 in
theorem Best_ref (fl : List Int) (gs : List (List Int)) (h : Riv fl gs) :
    FnAt Try.prog false 19 [.arr (.int .i64) fl, .arr (.sl (.int .i64)) gs] (.tup [.own 0, .lit (.int .i64 (val fl gs))]) [(0, .row 3 (.int .i64) true (bestL fl gs))] := by
  have hl := h.len
  have hG := h.g
  have hG8 := hG.len
  have hfs := sum_bound (m := 1000) h.val
  obtain ⟨T, hT⟩ : ∃ T : Nat, fl.sum = (T : Int) := ⟨fl.sum.toNat, by omega⟩
  refine FnAt.of_body tys_ok Try.func19 (by rfl) rfl Try.ntmps19 (by rw [Try.results19]) (by simp) ?_
  
  repeat' (first
    | refine W.seq ?_
    | refine W.block ?_
    | (refine W.region tys_ok [] ?_; conv => whnf)
    | (refine W.drawAll tys_ok [] mixed rfl ?_; conv => whnf)
    | (refine W.ret ?_; conv => whnf)
    | (refine W.skip ?_; conv => whnf)
    | (refine W.exit ?_; conv => whnf)
    | (refine W.cond rfl (fun hb => ?_) (fun hb => ?_) <;> (try simp only [minL, maxL, pickB, getD_int, getD_sl, getD_bool, len_int, len_sl, len_bool, decide_eq_true_eq, decide_eq_false_iff_not, Bool.and_eq_true, Bool.or_eq_true, Bool.and_eq_false_iff, Bool.or_eq_false_iff, Bool.not_eq_true', Bool.not_eq_false', Int.toNat_natCast, Int.ofNat_lt, Int.ofNat_le, not_true_eq_false, not_false_eq_true, or_false, false_or, and_true, true_and, or_true, true_or, and_false, false_and] at hb) <;> (try (first | (cases hb; done) | exact absurd hb (by decide) | (exfalso; omega))))
    | ((with_reducible refine And.intro ?_ ?_); (focus ((repeat' (first | (with_reducible rfl) | (with_reducible refine And.intro ?_ ?_) | omega | rfl | exact Or.inl rfl | exact Or.inr rfl | (focus ((try simp only [minL, maxL, pickB, getD_int, getD_sl, getD_bool, len_int, len_sl, len_bool, decide_eq_true_eq, decide_eq_false_iff_not, Bool.and_eq_true, Bool.or_eq_true, Bool.and_eq_false_iff, Bool.or_eq_false_iff, Bool.not_eq_true', Bool.not_eq_false', Int.toNat_natCast, Int.ofNat_lt, Int.ofNat_le, not_true_eq_false, not_false_eq_true, or_false, false_or, and_true, true_and, or_true, true_or, and_false, false_and, InK, Path.imp, List.length_replicate, List.length_set, List.length_append, List.length_cons, List.length_nil] at *); omega)))); done)); (conv => whnf))
    | ((with_reducible refine And.intro (Side.out ?_) ?_); rotate_left; (conv => whnf))
    | (refine Exists.intro _ (And.intro rfl (And.intro rfl (And.intro ?_ ?_))) <;> (conv => whnf) <;> repeat' (first
    | exact trivial
    | rfl
    | (refine And.intro (fun h => h) (Or.inl ?_))
    | (refine And.intro (fun _ => rfl) (Or.inl ?_))
    | (refine And.intro (fun h => Bool.noConfusion h) (Or.inl ?_))
    | (with_reducible refine And.intro (fun _ => rfl) ?_)
    | ((with_reducible refine And.intro ?_ ?_) <;> conv => whnf)
    | (refine congrArg (Value.int _) ?_)
    | (refine congrArg (SV.arr _) ?_)
    | (refine congrArg Value.bool ?_)))); all_goals (try unfold Side)
  refine W.loop (fun i : Nat => ⟨[(0, .st false (.arr (.int .i64) fl)), (1, .st false (.arr (.sl (.int .i64)) gs)), (6, .lit (.int .i64 (fl.take i).sum)), (7, .lit (.int .i64 i))], []⟩)
    (fun i => i ≤ fl.length) (fun i => fl.length - i) 0 ?_ ?_
  · refine ⟨by simp, ?_⟩
    refine ⟨rfl, ?_, ?_⟩ <;> (conv => whnf) <;> repeat' (first
    | exact trivial
    | rfl
    | (refine And.intro (fun h => h) (Or.inl ?_))
    | (refine And.intro (fun _ => rfl) (Or.inl ?_))
    | (refine And.intro (fun h => Bool.noConfusion h) (Or.inl ?_))
    | (with_reducible refine And.intro (fun _ => rfl) ?_)
    | ((with_reducible refine And.intro ?_ ?_) <;> conv => whnf)
    | (refine congrArg (Value.int _) ?_)
    | (refine congrArg (SV.arr _) ?_)
    | (refine congrArg Value.bool ?_))
  intro i hi
  have hsi := sum_bound (m := 1000) (xs := fl.take i) fun j hj => by
    rw [List.length_take] at hj
    rw [getD_take (by omega)]
    exact h.val j (by omega)
  rw [List.length_take] at hsi
  by_cases hil : i < fl.length
  · have hvi := h.val i hil
    repeat' (first
    | refine W.seq ?_
    | refine W.block ?_
    | (refine W.region tys_ok [] ?_; conv => whnf)
    | (refine W.drawAll tys_ok [] mixed rfl ?_; conv => whnf)
    | (refine W.ret ?_; conv => whnf)
    | (refine W.skip ?_; conv => whnf)
    | (refine W.exit ?_; conv => whnf)
    | (refine W.cond rfl (fun hb => ?_) (fun hb => ?_) <;> (try simp only [minL, maxL, pickB, getD_int, getD_sl, getD_bool, len_int, len_sl, len_bool, decide_eq_true_eq, decide_eq_false_iff_not, Bool.and_eq_true, Bool.or_eq_true, Bool.and_eq_false_iff, Bool.or_eq_false_iff, Bool.not_eq_true', Bool.not_eq_false', Int.toNat_natCast, Int.ofNat_lt, Int.ofNat_le, not_true_eq_false, not_false_eq_true, or_false, false_or, and_true, true_and, or_true, true_or, and_false, false_and] at hb) <;> (try (first | (cases hb; done) | exact absurd hb (by decide) | (exfalso; omega))))
    | ((with_reducible refine And.intro ?_ ?_); (focus ((repeat' (first | (with_reducible rfl) | (with_reducible refine And.intro ?_ ?_) | omega | rfl | exact Or.inl rfl | exact Or.inr rfl | (focus ((try simp only [minL, maxL, pickB, getD_int, getD_sl, getD_bool, len_int, len_sl, len_bool, decide_eq_true_eq, decide_eq_false_iff_not, Bool.and_eq_true, Bool.or_eq_true, Bool.and_eq_false_iff, Bool.or_eq_false_iff, Bool.not_eq_true', Bool.not_eq_false', Int.toNat_natCast, Int.ofNat_lt, Int.ofNat_le, not_true_eq_false, not_false_eq_true, or_false, false_or, and_true, true_and, or_true, true_or, and_false, false_and, InK, Path.imp, List.length_replicate, List.length_set, List.length_append, List.length_cons, List.length_nil] at *); omega)))); done)); (conv => whnf))
    | ((with_reducible refine And.intro (Side.out ?_) ?_); rotate_left; (conv => whnf))
    | (refine Exists.intro _ (And.intro rfl (And.intro rfl (And.intro ?_ ?_))) <;> (conv => whnf) <;> repeat' (first
    | exact trivial
    | rfl
    | (refine And.intro (fun h => h) (Or.inl ?_))
    | (refine And.intro (fun _ => rfl) (Or.inl ?_))
    | (refine And.intro (fun h => Bool.noConfusion h) (Or.inl ?_))
    | (with_reducible refine And.intro (fun _ => rfl) ?_)
    | ((with_reducible refine And.intro ?_ ?_) <;> conv => whnf)
    | (refine congrArg (Value.int _) ?_)
    | (refine congrArg (SV.arr _) ?_)
    | (refine congrArg Value.bool ?_)))); all_goals (try unfold Side)
    all_goals try (repeat' (first | (with_reducible rfl) | (with_reducible refine And.intro ?_ ?_) | omega | rfl | exact Or.inl rfl | exact Or.inr rfl | (focus ((try simp only [minL, maxL, pickB, getD_int, getD_sl, getD_bool, len_int, len_sl, len_bool, decide_eq_true_eq, decide_eq_false_iff_not, Bool.and_eq_true, Bool.or_eq_true, Bool.and_eq_false_iff, Bool.or_eq_false_iff, Bool.not_eq_true', Bool.not_eq_false', Int.toNat_natCast, Int.ofNat_lt, Int.ofNat_le, not_true_eq_false, not_false_eq_true, or_false, false_or, and_true, true_and, or_true, true_or, and_false, false_and, InK, Path.imp, List.length_replicate, List.length_set, List.length_append, List.length_cons, List.length_nil] at *); omega))))
    refine ⟨i + 1, ⟨by omega, by omega⟩, ?_⟩
    refine ⟨rfl, ?_, ?_⟩ <;> (conv => whnf) <;> repeat' (first
    | exact trivial
    | rfl
    | (refine And.intro (fun h => h) (Or.inl ?_))
    | (refine And.intro (fun _ => rfl) (Or.inl ?_))
    | (refine And.intro (fun h => Bool.noConfusion h) (Or.inl ?_))
    | (with_reducible refine And.intro (fun _ => rfl) ?_)
    | ((with_reducible refine And.intro ?_ ?_) <;> conv => whnf)
    | (refine congrArg (Value.int _) ?_)
    | (refine congrArg (SV.arr _) ?_)
    | (refine congrArg Value.bool ?_))
    rw [sum_take_succ hil]
    rfl
  have hi' : i = fl.length := by omega
  subst hi'
  rw [List.take_length] at hsi ⊢
  rw [hT]
  repeat' (first
    | refine W.seq ?_
    | refine W.block ?_
    | (refine W.region tys_ok [0, 30] ?_; conv => whnf)
    | (refine W.drawAll tys_ok [0, 30] mixed rfl ?_; conv => whnf)
    | (refine W.ret ?_; conv => whnf)
    | (refine W.skip ?_; conv => whnf)
    | (refine W.exit ?_; conv => whnf)
    | (refine W.cond rfl (fun hb => ?_) (fun hb => ?_) <;> (try simp only [minL, maxL, pickB, getD_int, getD_sl, getD_bool, len_int, len_sl, len_bool, decide_eq_true_eq, decide_eq_false_iff_not, Bool.and_eq_true, Bool.or_eq_true, Bool.and_eq_false_iff, Bool.or_eq_false_iff, Bool.not_eq_true', Bool.not_eq_false', Int.toNat_natCast, Int.ofNat_lt, Int.ofNat_le, not_true_eq_false, not_false_eq_true, or_false, false_or, and_true, true_and, or_true, true_or, and_false, false_and] at hb) <;> (try (first | (cases hb; done) | exact absurd hb (by decide) | (exfalso; omega))))
    | ((with_reducible refine And.intro ?_ ?_); (focus ((repeat' (first | (with_reducible rfl) | (with_reducible refine And.intro ?_ ?_) | omega | rfl | exact Or.inl rfl | exact Or.inr rfl | (focus ((try simp only [minL, maxL, pickB, getD_int, getD_sl, getD_bool, len_int, len_sl, len_bool, decide_eq_true_eq, decide_eq_false_iff_not, Bool.and_eq_true, Bool.or_eq_true, Bool.and_eq_false_iff, Bool.or_eq_false_iff, Bool.not_eq_true', Bool.not_eq_false', Int.toNat_natCast, Int.ofNat_lt, Int.ofNat_le, not_true_eq_false, not_false_eq_true, or_false, false_or, and_true, true_and, or_true, true_or, and_false, false_and, InK, Path.imp, List.length_replicate, List.length_set, List.length_append, List.length_cons, List.length_nil] at *); omega)))); done)); (conv => whnf))
    | ((with_reducible refine And.intro (Side.out ?_) ?_); rotate_left; (conv => whnf))
    | (refine Exists.intro _ (And.intro rfl (And.intro rfl (And.intro ?_ ?_))) <;> (conv => whnf) <;> repeat' (first
    | exact trivial
    | rfl
    | (refine And.intro (fun h => h) (Or.inl ?_))
    | (refine And.intro (fun _ => rfl) (Or.inl ?_))
    | (refine And.intro (fun h => Bool.noConfusion h) (Or.inl ?_))
    | (with_reducible refine And.intro (fun _ => rfl) ?_)
    | ((with_reducible refine And.intro ?_ ?_) <;> conv => whnf)
    | (refine congrArg (Value.int _) ?_)
    | (refine congrArg (SV.arr _) ?_)
    | (refine congrArg Value.bool ?_)))); all_goals (try unfold Side)
  all_goals try (repeat' (first | (with_reducible rfl) | (with_reducible refine And.intro ?_ ?_) | omega | rfl | exact Or.inl rfl | exact Or.inr rfl | (focus ((try simp only [minL, maxL, pickB, getD_int, getD_sl, getD_bool, len_int, len_sl, len_bool, decide_eq_true_eq, decide_eq_false_iff_not, Bool.and_eq_true, Bool.or_eq_true, Bool.and_eq_false_iff, Bool.or_eq_false_iff, Bool.not_eq_true', Bool.not_eq_false', Int.toNat_natCast, Int.ofNat_lt, Int.ofNat_le, not_true_eq_false, not_false_eq_true, or_false, false_or, and_true, true_and, or_true, true_or, and_false, false_and, InK, Path.imp, List.length_replicate, List.length_set, List.length_append, List.length_cons, List.length_nil] at *); omega))))
  refine W.loop (fun x : Nat × List (List Int) => ⟨[(0, .st false (.arr (.int .i64) fl)), (1, .st false (.arr (.sl (.int .i64)) gs)), (6, .lit (.int .i64 (T : Int))), (8, .mown 31000), (9, .lit (.int .i64 ((x.1 : Int) - 1)))], [(31000, .mat 22 3 (.int .i64) true x.2 none)]⟩)
    (fun x => x.1 ≤ fl.length ∧ x.2 = afterX T fl gs x.1) (fun x => x.1) (fl.length, afterX T fl gs fl.length) ?_ ?_
  · refine ⟨⟨Nat.le_refl _, rfl⟩, ?_⟩
    refine ⟨rfl, ?_, ?_⟩ <;> (conv => whnf) <;> repeat' (first
    | exact trivial
    | rfl
    | (refine And.intro (fun h => h) (Or.inl ?_))
    | (refine And.intro (fun _ => rfl) (Or.inl ?_))
    | (refine And.intro (fun h => Bool.noConfusion h) (Or.inl ?_))
    | (with_reducible refine And.intro (fun _ => rfl) ?_)
    | ((with_reducible refine And.intro ?_ ?_) <;> conv => whnf)
    | (refine congrArg (Value.int _) ?_)
    | (refine congrArg (SV.arr _) ?_)
    | (refine congrArg Value.bool ?_))
    show (List.replicate (((fl.length : Nat) : Int) + 1).toNat ([] : List Int)).set ((fl.length : Nat) : Int).toNat (List.replicate ((T : Int) + 1).toNat (0 : Int)) = afterX T fl gs fl.length
    rw [show (((fl.length : Nat) : Int) + 1).toNat = fl.length + 1 from by omega, show ((fl.length : Nat) : Int).toNat = fl.length from by omega, show ((T : Int) + 1).toNat = T + 1 from by omega]
    exact afterX_start
  rintro ⟨c, xs⟩ ⟨hc, hxs⟩
  dsimp only at hc hxs ⊢
  have hxl : xs.length = fl.length + 1 := by rw [hxs, afterX_len]
  have hxl' : @List.length (List (Ty.int .i64).T) xs = fl.length + 1 := hxl
  cases c with
  | succ c =>
    have e0 : (((c + 1 : Nat) : Int) - 1).toNat = c := by omega
    have e1 : (((c + 1 : Nat) : Int) - 1 + 1).toNat = c + 1 := by omega
    repeat' (first
    | refine W.seq ?_
    | refine W.block ?_
    | (refine W.region tys_ok [] ?_; conv => whnf)
    | (refine W.drawAll tys_ok [] mixed rfl ?_; conv => whnf)
    | (refine W.ret ?_; conv => whnf)
    | (refine W.skip ?_; conv => whnf)
    | (refine W.exit ?_; conv => whnf)
    | (refine W.cond rfl (fun hb => ?_) (fun hb => ?_) <;> (try simp only [minL, maxL, pickB, getD_int, getD_sl, getD_bool, len_int, len_sl, len_bool, decide_eq_true_eq, decide_eq_false_iff_not, Bool.and_eq_true, Bool.or_eq_true, Bool.and_eq_false_iff, Bool.or_eq_false_iff, Bool.not_eq_true', Bool.not_eq_false', Int.toNat_natCast, Int.ofNat_lt, Int.ofNat_le, not_true_eq_false, not_false_eq_true, or_false, false_or, and_true, true_and, or_true, true_or, and_false, false_and] at hb) <;> (try (first | (cases hb; done) | exact absurd hb (by decide) | (exfalso; omega))))
    | ((with_reducible refine And.intro ?_ ?_); (focus ((repeat' (first | (with_reducible rfl) | (with_reducible refine And.intro ?_ ?_) | omega | rfl | exact Or.inl rfl | exact Or.inr rfl | (focus ((try simp only [minL, maxL, pickB, getD_int, getD_sl, getD_bool, len_int, len_sl, len_bool, decide_eq_true_eq, decide_eq_false_iff_not, Bool.and_eq_true, Bool.or_eq_true, Bool.and_eq_false_iff, Bool.or_eq_false_iff, Bool.not_eq_true', Bool.not_eq_false', Int.toNat_natCast, Int.ofNat_lt, Int.ofNat_le, not_true_eq_false, not_false_eq_true, or_false, false_or, and_true, true_and, or_true, true_or, and_false, false_and, InK, Path.imp, List.length_replicate, List.length_set, List.length_append, List.length_cons, List.length_nil] at *); omega)))); done)); (conv => whnf))
    | ((with_reducible refine And.intro (Side.out ?_) ?_); rotate_left; (conv => whnf))
    | (refine Exists.intro _ (And.intro rfl (And.intro rfl (And.intro ?_ ?_))) <;> (conv => whnf) <;> repeat' (first
    | exact trivial
    | rfl
    | (refine And.intro (fun h => h) (Or.inl ?_))
    | (refine And.intro (fun _ => rfl) (Or.inl ?_))
    | (refine And.intro (fun h => Bool.noConfusion h) (Or.inl ?_))
    | (with_reducible refine And.intro (fun _ => rfl) ?_)
    | ((with_reducible refine And.intro ?_ ?_) <;> conv => whnf)
    | (refine congrArg (Value.int _) ?_)
    | (refine congrArg (SV.arr _) ?_)
    | (refine congrArg Value.bool ?_)))); all_goals (try unfold Side)
    all_goals try (repeat' (first | (with_reducible rfl) | (with_reducible refine And.intro ?_ ?_) | omega | rfl | exact Or.inl rfl | exact Or.inr rfl | (focus ((try simp only [minL, maxL, pickB, getD_int, getD_sl, getD_bool, len_int, len_sl, len_bool, decide_eq_true_eq, decide_eq_false_iff_not, Bool.and_eq_true, Bool.or_eq_true, Bool.and_eq_false_iff, Bool.or_eq_false_iff, Bool.not_eq_true', Bool.not_eq_false', Int.toNat_natCast, Int.ofNat_lt, Int.ofNat_le, not_true_eq_false, not_false_eq_true, or_false, false_or, and_true, true_and, or_true, true_or, and_false, false_and, InK, Path.imp, List.length_replicate, List.length_set, List.length_append, List.length_cons, List.length_nil] at *); omega))))
    refine W.loop (fun x : Nat × List (List Int) => ⟨[(0, .st false (.arr (.int .i64) fl)), (1, .st false (.arr (.sl (.int .i64)) gs)), (6, .lit (.int .i64 (T : Int))), (8, .mown 31000), (9, .lit (.int .i64 (((c + 1 : Nat) : Int) - 1))), (10, .lit (.int .i64 (x.1 : Int)))],
        [(31000, .mat 22 3 (.int .i64) true x.2 none)]⟩)
      (fun x => x.1 ≤ T + 1 ∧ x.2 = xs.set c (rowP T fl gs c x.1)) (fun x => T + 1 - x.1) (0, xs) ?_ ?_
    · refine ⟨⟨by simp, ?_⟩, ?_⟩
      · have e2 : xs.getD c [] = [] := by rw [hxs, afterX_get (by omega), if_neg (by omega)]
        show xs = xs.set c []
        conv => rhs; rw [← e2]
        exact (set_getD_self (by omega)).symm
      · refine ⟨rfl, ?_, ?_⟩ <;> (conv => whnf) <;> repeat' (first
    | exact trivial
    | rfl
    | (refine And.intro (fun h => h) (Or.inl ?_))
    | (refine And.intro (fun _ => rfl) (Or.inl ?_))
    | (refine And.intro (fun h => Bool.noConfusion h) (Or.inl ?_))
    | (with_reducible refine And.intro (fun _ => rfl) ?_)
    | ((with_reducible refine And.intro ?_ ?_) <;> conv => whnf)
    | (refine congrArg (Value.int _) ?_)
    | (refine congrArg (SV.arr _) ?_)
    | (refine congrArg Value.bool ?_))
    · rintro ⟨w, ys⟩ ⟨hw, hys⟩
      dsimp only at hw hys ⊢
      have hyl : ys.length = fl.length + 1 := by rw [hys, List.length_set, hxl]
      have hyl' : @List.length (List (Ty.int .i64).T) ys = fl.length + 1 := hyl
      have hrow : ys.getD c [] = rowP T fl gs c w := by rw [hys, getD_set (by omega), if_pos rfl]
      have hrl : @List.length (Ty.int .i64).T (@List.getD (List (Ty.int .i64).T) ys (((c + 1 : Nat) : Int) - 1).toNat []) = w := by
        show (ys.getD (((c + 1 : Nat) : Int) - 1).toNat []).length = w
        rw [e0, hrow, rowP_len]
      have htab : ys.getD (c + 1) [] = tabF T (fl.drop (c + 1)) (gs.drop (c + 1)) := by rw [hys, getD_set (by omega), if_neg (by omega), hxs, afterX_get (by omega), if_pos (by omega)]
      by_cases hwT : w ≤ T
      · have hmost := most_at fl gs (((c + 1 : Nat) : Int) - 1) w (ys.getD (((c + 1 : Nat) : Int) - 1 + 1).toNat []) hG hl (fun i hi => h.val i hi) (by omega) (by omega) (by omega)
          (by rw [e1, htab, tabF_len]; omega) (by rw [e1, htab, tabF_len]; omega) (fun k => by
            rw [e1, htab]
            have := tabF_bound (T := T) (fs := fl.drop (c + 1)) (hG.drop (c + 1)) k
            have := (hG.drop (c + 1)).len
            omega)
        repeat' (first
    | refine W.seq ?_
    | refine W.block ?_
    | (refine W.drawTo (id := 14) tys_ok [] mixed [0, 1] 17 (by decide +kernel) ?_; conv => whnf)
    | (refine W.region tys_ok [] ?_; conv => whnf)
    | (refine W.drawAll tys_ok [] mixed rfl ?_; conv => whnf)
    | (refine W.ret ?_; conv => whnf)
    | (refine W.skip ?_; conv => whnf)
    | (refine W.exit ?_; conv => whnf)
    | (refine ⟨false, _, _, _, _, rfl, Path.imp_of (hmost), rfl, rfl, rfl, ?_⟩; conv => whnf)
    | (refine W.cond rfl (fun hb => ?_) (fun hb => ?_) <;> (try simp only [minL, maxL, pickB, getD_int, getD_sl, getD_bool, len_int, len_sl, len_bool, decide_eq_true_eq, decide_eq_false_iff_not, Bool.and_eq_true, Bool.or_eq_true, Bool.and_eq_false_iff, Bool.or_eq_false_iff, Bool.not_eq_true', Bool.not_eq_false', Int.toNat_natCast, Int.ofNat_lt, Int.ofNat_le, not_true_eq_false, not_false_eq_true, or_false, false_or, and_true, true_and, or_true, true_or, and_false, false_and] at hb) <;> (try (first | (cases hb; done) | exact absurd hb (by decide) | (exfalso; omega))))
    | ((with_reducible refine And.intro ?_ ?_); (focus ((repeat' (first | (with_reducible rfl) | (with_reducible refine And.intro ?_ ?_) | omega | rfl | exact Or.inl rfl | exact Or.inr rfl | (focus ((try simp only [minL, maxL, pickB, getD_int, getD_sl, getD_bool, len_int, len_sl, len_bool, decide_eq_true_eq, decide_eq_false_iff_not, Bool.and_eq_true, Bool.or_eq_true, Bool.and_eq_false_iff, Bool.or_eq_false_iff, Bool.not_eq_true', Bool.not_eq_false', Int.toNat_natCast, Int.ofNat_lt, Int.ofNat_le, not_true_eq_false, not_false_eq_true, or_false, false_or, and_true, true_and, or_true, true_or, and_false, false_and, InK, Path.imp, List.length_replicate, List.length_set, List.length_append, List.length_cons, List.length_nil] at *); omega)))); done)); (conv => whnf))
    | ((with_reducible refine And.intro (Side.out ?_) ?_); rotate_left; (conv => whnf))
    | (refine Exists.intro _ (And.intro rfl (And.intro rfl (And.intro ?_ ?_))) <;> (conv => whnf) <;> repeat' (first
    | exact trivial
    | rfl
    | (refine And.intro (fun h => h) (Or.inl ?_))
    | (refine And.intro (fun _ => rfl) (Or.inl ?_))
    | (refine And.intro (fun h => Bool.noConfusion h) (Or.inl ?_))
    | (with_reducible refine And.intro (fun _ => rfl) ?_)
    | ((with_reducible refine And.intro ?_ ?_) <;> conv => whnf)
    | (refine congrArg (Value.int _) ?_)
    | (refine congrArg (SV.arr _) ?_)
    | (refine congrArg Value.bool ?_)))); all_goals (try unfold Side)
        all_goals try (repeat' (first | (with_reducible rfl) | (with_reducible refine And.intro ?_ ?_) | omega | rfl | exact Or.inl rfl | exact Or.inr rfl | (focus ((try simp only [minL, maxL, pickB, getD_int, getD_sl, getD_bool, len_int, len_sl, len_bool, decide_eq_true_eq, decide_eq_false_iff_not, Bool.and_eq_true, Bool.or_eq_true, Bool.and_eq_false_iff, Bool.or_eq_false_iff, Bool.not_eq_true', Bool.not_eq_false', Int.toNat_natCast, Int.ofNat_lt, Int.ofNat_le, not_true_eq_false, not_false_eq_true, or_false, false_or, and_true, true_and, or_true, true_or, and_false, false_and, InK, Path.imp, List.length_replicate, List.length_set, List.length_append, List.length_cons, List.length_nil] at *); omega))))
        · refine ⟨(w + 1, xs.set c (rowP T fl gs c (w + 1))), ⟨⟨?_, rfl⟩, ?_⟩, ?_⟩
          · dsimp only; omega
          · dsimp only; omega
          · refine ⟨rfl, ?_, ?_⟩ <;> (conv => whnf) <;> repeat' (first
    | exact trivial
    | rfl
    | (refine And.intro (fun h => h) (Or.inl ?_))
    | (refine And.intro (fun _ => rfl) (Or.inl ?_))
    | (refine And.intro (fun h => Bool.noConfusion h) (Or.inl ?_))
    | (with_reducible refine And.intro (fun _ => rfl) ?_)
    | ((with_reducible refine And.intro ?_ ?_) <;> conv => whnf)
    | (refine congrArg (Value.int _) ?_)
    | (refine congrArg (SV.arr _) ?_)
    | (refine congrArg Value.bool ?_))
            show ys.set (((c + 1 : Nat) : Int) - 1).toNat (ys.getD (((c + 1 : Nat) : Int) - 1).toNat [] ++ ([_] : List Int)) = xs.set c (rowP T fl gs c (w + 1))
            rw [e0, e1, hrow, htab, hys, List.set_set, rowP_succ]
        · refine Nat.lt_of_lt_of_eq (m := fl.length + 1) (by omega) ?_
          exact (List.length_set.trans hyl').symm
        · refine ⟨by omega, Nat.lt_of_lt_of_eq (m := fl.length + 1) (by omega) ?_⟩
          exact (List.length_set.trans hyl').symm
        · show @List.length Int (ys.getD (((c + 1 : Nat) : Int) - 1).toNat []) + 1 ≤ 4294967296
          rw [e0, hrow, rowP_len]; omega
      · have hwe : w = T + 1 := by omega
        subst hwe
        repeat' (first
    | refine W.seq ?_
    | refine W.block ?_
    | (refine W.region tys_ok [] ?_; conv => whnf)
    | (refine W.drawAll tys_ok [] mixed rfl ?_; conv => whnf)
    | (refine W.ret ?_; conv => whnf)
    | (refine W.skip ?_; conv => whnf)
    | (refine W.exit ?_; conv => whnf)
    | (refine W.cond rfl (fun hb => ?_) (fun hb => ?_) <;> (try simp only [minL, maxL, pickB, getD_int, getD_sl, getD_bool, len_int, len_sl, len_bool, decide_eq_true_eq, decide_eq_false_iff_not, Bool.and_eq_true, Bool.or_eq_true, Bool.and_eq_false_iff, Bool.or_eq_false_iff, Bool.not_eq_true', Bool.not_eq_false', Int.toNat_natCast, Int.ofNat_lt, Int.ofNat_le, not_true_eq_false, not_false_eq_true, or_false, false_or, and_true, true_and, or_true, true_or, and_false, false_and] at hb) <;> (try (first | (cases hb; done) | exact absurd hb (by decide) | (exfalso; omega))))
    | ((with_reducible refine And.intro ?_ ?_); (focus ((repeat' (first | (with_reducible rfl) | (with_reducible refine And.intro ?_ ?_) | omega | rfl | exact Or.inl rfl | exact Or.inr rfl | (focus ((try simp only [minL, maxL, pickB, getD_int, getD_sl, getD_bool, len_int, len_sl, len_bool, decide_eq_true_eq, decide_eq_false_iff_not, Bool.and_eq_true, Bool.or_eq_true, Bool.and_eq_false_iff, Bool.or_eq_false_iff, Bool.not_eq_true', Bool.not_eq_false', Int.toNat_natCast, Int.ofNat_lt, Int.ofNat_le, not_true_eq_false, not_false_eq_true, or_false, false_or, and_true, true_and, or_true, true_or, and_false, false_and, InK, Path.imp, List.length_replicate, List.length_set, List.length_append, List.length_cons, List.length_nil] at *); omega)))); done)); (conv => whnf))
    | ((with_reducible refine And.intro (Side.out ?_) ?_); rotate_left; (conv => whnf))
    | (refine Exists.intro _ (And.intro rfl (And.intro rfl (And.intro ?_ ?_))) <;> (conv => whnf) <;> repeat' (first
    | exact trivial
    | rfl
    | (refine And.intro (fun h => h) (Or.inl ?_))
    | (refine And.intro (fun _ => rfl) (Or.inl ?_))
    | (refine And.intro (fun h => Bool.noConfusion h) (Or.inl ?_))
    | (with_reducible refine And.intro (fun _ => rfl) ?_)
    | ((with_reducible refine And.intro ?_ ?_) <;> conv => whnf)
    | (refine congrArg (Value.int _) ?_)
    | (refine congrArg (SV.arr _) ?_)
    | (refine congrArg Value.bool ?_)))); all_goals (try unfold Side)
        all_goals try (repeat' (first | (with_reducible rfl) | (with_reducible refine And.intro ?_ ?_) | omega | rfl | exact Or.inl rfl | exact Or.inr rfl | (focus ((try simp only [minL, maxL, pickB, getD_int, getD_sl, getD_bool, len_int, len_sl, len_bool, decide_eq_true_eq, decide_eq_false_iff_not, Bool.and_eq_true, Bool.or_eq_true, Bool.and_eq_false_iff, Bool.or_eq_false_iff, Bool.not_eq_true', Bool.not_eq_false', Int.toNat_natCast, Int.ofNat_lt, Int.ofNat_le, not_true_eq_false, not_false_eq_true, or_false, false_or, and_true, true_and, or_true, true_or, and_false, false_and, InK, Path.imp, List.length_replicate, List.length_set, List.length_append, List.length_cons, List.length_nil] at *); omega))))
        refine ⟨(c, ys), ⟨⟨?_, ?_⟩, ?_⟩, ?_⟩
        · dsimp only; omega
        · dsimp only
          rw [hys, rowP_full (by omega) hl, hxs, afterX_step (by omega)]
        · dsimp only; omega
        · refine ⟨rfl, ?_, ?_⟩ <;> (conv => whnf) <;> repeat' (first
    | exact trivial
    | rfl
    | (refine And.intro (fun h => h) (Or.inl ?_))
    | (refine And.intro (fun _ => rfl) (Or.inl ?_))
    | (refine And.intro (fun h => Bool.noConfusion h) (Or.inl ?_))
    | (with_reducible refine And.intro (fun _ => rfl) ?_)
    | ((with_reducible refine And.intro ?_ ?_) <;> conv => whnf)
    | (refine congrArg (Value.int _) ?_)
    | (refine congrArg (SV.arr _) ?_)
    | (refine congrArg Value.bool ?_))
          omega
  | zero =>
    repeat' (first
    | refine W.seq ?_
    | refine W.block ?_
    | (refine W.region tys_ok [] ?_; conv => whnf)
    | (refine W.drawAll tys_ok [] mixed rfl ?_; conv => whnf)
    | (refine W.ret ?_; conv => whnf)
    | (refine W.skip ?_; conv => whnf)
    | (refine W.exit ?_; conv => whnf)
    | (refine W.cond rfl (fun hb => ?_) (fun hb => ?_) <;> (try simp only [minL, maxL, pickB, getD_int, getD_sl, getD_bool, len_int, len_sl, len_bool, decide_eq_true_eq, decide_eq_false_iff_not, Bool.and_eq_true, Bool.or_eq_true, Bool.and_eq_false_iff, Bool.or_eq_false_iff, Bool.not_eq_true', Bool.not_eq_false', Int.toNat_natCast, Int.ofNat_lt, Int.ofNat_le, not_true_eq_false, not_false_eq_true, or_false, false_or, and_true, true_and, or_true, true_or, and_false, false_and] at hb) <;> (try (first | (cases hb; done) | exact absurd hb (by decide) | (exfalso; omega))))
    | ((with_reducible refine And.intro ?_ ?_); (focus ((repeat' (first | (with_reducible rfl) | (with_reducible refine And.intro ?_ ?_) | omega | rfl | exact Or.inl rfl | exact Or.inr rfl | (focus ((try simp only [minL, maxL, pickB, getD_int, getD_sl, getD_bool, len_int, len_sl, len_bool, decide_eq_true_eq, decide_eq_false_iff_not, Bool.and_eq_true, Bool.or_eq_true, Bool.and_eq_false_iff, Bool.or_eq_false_iff, Bool.not_eq_true', Bool.not_eq_false', Int.toNat_natCast, Int.ofNat_lt, Int.ofNat_le, not_true_eq_false, not_false_eq_true, or_false, false_or, and_true, true_and, or_true, true_or, and_false, false_and, InK, Path.imp, List.length_replicate, List.length_set, List.length_append, List.length_cons, List.length_nil] at *); omega)))); done)); (conv => whnf))
    | ((with_reducible refine And.intro (Side.out ?_) ?_); rotate_left; (conv => whnf))
    | (refine Exists.intro _ (And.intro rfl (And.intro rfl (And.intro ?_ ?_))) <;> (conv => whnf) <;> repeat' (first
    | exact trivial
    | rfl
    | (refine And.intro (fun h => h) (Or.inl ?_))
    | (refine And.intro (fun _ => rfl) (Or.inl ?_))
    | (refine And.intro (fun h => Bool.noConfusion h) (Or.inl ?_))
    | (with_reducible refine And.intro (fun _ => rfl) ?_)
    | ((with_reducible refine And.intro ?_ ?_) <;> conv => whnf)
    | (refine congrArg (Value.int _) ?_)
    | (refine congrArg (SV.arr _) ?_)
    | (refine congrArg Value.bool ?_)))); all_goals (try unfold Side)
    all_goals try (repeat' (first | (with_reducible rfl) | (with_reducible refine And.intro ?_ ?_) | omega | rfl | exact Or.inl rfl | exact Or.inr rfl | (focus ((try simp only [minL, maxL, pickB, getD_int, getD_sl, getD_bool, len_int, len_sl, len_bool, decide_eq_true_eq, decide_eq_false_iff_not, Bool.and_eq_true, Bool.or_eq_true, Bool.and_eq_false_iff, Bool.or_eq_false_iff, Bool.not_eq_true', Bool.not_eq_false', Int.toNat_natCast, Int.ofNat_lt, Int.ofNat_le, not_true_eq_false, not_false_eq_true, or_false, false_or, and_true, true_and, or_true, true_or, and_false, false_and, InK, Path.imp, List.length_replicate, List.length_set, List.length_append, List.length_cons, List.length_nil] at *); omega))))
    refine W.loop (fun x : Nat × Int => ⟨[(0, .st false (.arr (.int .i64) fl)), (1, .st false (.arr (.sl (.int .i64)) gs)), (6, .lit (.int .i64 (T : Int))), (8, .mown 31000), (11, .own 70000), (12, .lit (.int .i64 x.2)), (13, .lit (.int .i64 (x.1 : Int)))],
        [(31000, .mat 22 3 (.int .i64) true xs none), (70000, .row 3 (.int .i64) true ((bestL fl gs).take x.1))]⟩)
      (fun x => x.1 ≤ fl.length ∧ 0 ≤ x.2 ∧ x.2 + (fl.drop x.1).sum ≤ T ∧ LexOpt (fl.drop x.1) (gs.drop x.1) x.2 ((bestL fl gs).drop x.1)) (fun x => fl.length - x.1) (0, 0) ?_ ?_
    · refine ⟨⟨Nat.zero_le _, Int.le_refl _, ?_, h.lexOpt⟩, ?_⟩
      · rw [List.drop_zero, hT]; omega
      · refine ⟨rfl, ?_, ?_⟩ <;> (conv => whnf) <;> repeat' (first
    | exact trivial
    | rfl
    | (refine And.intro (fun h => h) (Or.inl ?_))
    | (refine And.intro (fun _ => rfl) (Or.inl ?_))
    | (refine And.intro (fun h => Bool.noConfusion h) (Or.inl ?_))
    | (with_reducible refine And.intro (fun _ => rfl) ?_)
    | ((with_reducible refine And.intro ?_ ?_) <;> conv => whnf)
    | (refine congrArg (Value.int _) ?_)
    | (refine congrArg (SV.arr _) ?_)
    | (refine congrArg Value.bool ?_))
    · rintro ⟨i, left⟩ ⟨hi, h0, h1, hopt⟩
      dsimp only at hi h0 h1 hopt ⊢
      have hbl := h.best_len
      have hxi : ∀ j, j ≤ fl.length → xs.getD j [] = tabF T (fl.drop j) (gs.drop j) := fun j hj => by rw [hxs, afterX_get (by omega), if_pos (by omega)]
      by_cases hil : i < fl.length
      · have hfi := h.val i hil
        have hsfx : Sfx (fl.drop i) (gs.drop i) := h.sfx.drop i
        have hsfx1 : Sfx (fl.drop (i + 1)) (gs.drop (i + 1)) := h.sfx.drop (i + 1)
        have eF : fl.drop i = fl.getD i 0 :: fl.drop (i + 1) := drop_getD 0 hil
        have eG : gs.drop i = gs.getD i [] :: gs.drop (i + 1) := drop_getD [] (by omega)
        have eB : (bestL fl gs).drop i = (bestL fl gs).getD i 0 :: (bestL fl gs).drop (i + 1) := drop_getD 0 (by omega)
        have hst := LexOpt.step (f := fl.getD i 0) (u := (bestL fl gs).getD i 0) (fs := fl.drop (i + 1)) (us := (bestL fl gs).drop (i + 1)) (g := gs.getD i []) (gs := gs.drop (i + 1)) (w := left) (by rw [← eF, ← eG]; exact hsfx) h0 (fun j hj => by rw [getD_drop]; have := hG.lens (i + 1 + j) (by rw [List.length_drop] at hj; omega); omega) (by rw [← eF, ← eG, ← eB]; exact hopt)
        obtain ⟨ho, hu0, hu1, hu2, hu3, hu4⟩ := hst
        rw [← eF, ← eG] at hu3 hu4
        have hsum : (fl.drop i).sum = fl.getD i 0 + (fl.drop (i + 1)).sum := by rw [eF, List.sum_cons]
        have hsn := sum_nonneg (fs := fl.drop (i + 1)) hsfx1.f0
        obtain ⟨u, hu⟩ : ∃ u : Nat, (bestL fl gs).getD i 0 = (u : Int) := ⟨((bestL fl gs).getD i 0).toNat, by omega⟩
        rw [hu] at ho hu0 hu1 hu2 hu3 hu4
        have e1 : ((i : Int) + 1).toNat = i + 1 := by omega
        have hbt : @List.length (Ty.int .i64).T ((bestL fl gs).take i) = i := by
          show ((bestL fl gs).take i).length = i
          rw [List.length_take]; omega
        have hr0 : @List.length (Ty.int .i64).T (@List.getD (List (Ty.int .i64).T) xs i []) = T + 1 := by
          show (xs.getD i []).length = T + 1
          rw [hxi i hi, tabF_len]
        have hr1 : @List.length (Ty.int .i64).T (@List.getD (List (Ty.int .i64).T) xs ((i : Int) + 1).toNat []) = T + 1 := by
          show (xs.getD ((i : Int) + 1).toNat []).length = T + 1
          rw [e1, hxi (i + 1) hil, tabF_len]
        repeat' (first
    | refine W.seq ?_
    | refine W.block ?_
    | (refine W.region tys_ok [] ?_; conv => whnf)
    | (refine W.drawAll tys_ok [] mixed rfl ?_; conv => whnf)
    | (refine W.ret ?_; conv => whnf)
    | (refine W.skip ?_; conv => whnf)
    | (refine W.exit ?_; conv => whnf)
    | (refine W.cond rfl (fun hb => ?_) (fun hb => ?_) <;> (try simp only [minL, maxL, pickB, getD_int, getD_sl, getD_bool, len_int, len_sl, len_bool, decide_eq_true_eq, decide_eq_false_iff_not, Bool.and_eq_true, Bool.or_eq_true, Bool.and_eq_false_iff, Bool.or_eq_false_iff, Bool.not_eq_true', Bool.not_eq_false', Int.toNat_natCast, Int.ofNat_lt, Int.ofNat_le, not_true_eq_false, not_false_eq_true, or_false, false_or, and_true, true_and, or_true, true_or, and_false, false_and] at hb) <;> (try (first | (cases hb; done) | exact absurd hb (by decide) | (exfalso; omega))))
    | ((with_reducible refine And.intro ?_ ?_); (focus ((repeat' (first | (with_reducible rfl) | (with_reducible refine And.intro ?_ ?_) | omega | rfl | exact Or.inl rfl | exact Or.inr rfl | (focus ((try simp only [minL, maxL, pickB, getD_int, getD_sl, getD_bool, len_int, len_sl, len_bool, decide_eq_true_eq, decide_eq_false_iff_not, Bool.and_eq_true, Bool.or_eq_true, Bool.and_eq_false_iff, Bool.or_eq_false_iff, Bool.not_eq_true', Bool.not_eq_false', Int.toNat_natCast, Int.ofNat_lt, Int.ofNat_le, not_true_eq_false, not_false_eq_true, or_false, false_or, and_true, true_and, or_true, true_or, and_false, false_and, InK, Path.imp, List.length_replicate, List.length_set, List.length_append, List.length_cons, List.length_nil] at *); omega)))); done)); (conv => whnf))
    | ((with_reducible refine And.intro (Side.out ?_) ?_); rotate_left; (conv => whnf))
    | (refine Exists.intro _ (And.intro rfl (And.intro rfl (And.intro ?_ ?_))) <;> (conv => whnf) <;> repeat' (first
    | exact trivial
    | rfl
    | (refine And.intro (fun h => h) (Or.inl ?_))
    | (refine And.intro (fun _ => rfl) (Or.inl ?_))
    | (refine And.intro (fun h => Bool.noConfusion h) (Or.inl ?_))
    | (with_reducible refine And.intro (fun _ => rfl) ?_)
    | ((with_reducible refine And.intro ?_ ?_) <;> conv => whnf)
    | (refine congrArg (Value.int _) ?_)
    | (refine congrArg (SV.arr _) ?_)
    | (refine congrArg Value.bool ?_)))); all_goals (try unfold Side)
        all_goals try (repeat' (first | (with_reducible rfl) | (with_reducible refine And.intro ?_ ?_) | omega | rfl | exact Or.inl rfl | exact Or.inr rfl | (focus ((try simp only [minL, maxL, pickB, getD_int, getD_sl, getD_bool, len_int, len_sl, len_bool, decide_eq_true_eq, decide_eq_false_iff_not, Bool.and_eq_true, Bool.or_eq_true, Bool.and_eq_false_iff, Bool.or_eq_false_iff, Bool.not_eq_true', Bool.not_eq_false', Int.toNat_natCast, Int.ofNat_lt, Int.ofNat_le, not_true_eq_false, not_false_eq_true, or_false, false_or, and_true, true_and, or_true, true_or, and_false, false_and, InK, Path.imp, List.length_replicate, List.length_set, List.length_append, List.length_cons, List.length_nil] at *); omega))))
        refine W.loop (fun x : Nat => ⟨[(0, .st false (.arr (.int .i64) fl)), (1, .st false (.arr (.sl (.int .i64)) gs)), (6, .lit (.int .i64 (T : Int))), (8, .mown 31000), (11, .own 70000), (12, .lit (.int .i64 left)), (13, .lit (.int .i64 (i : Int))), (14, .lit (.int .i64 (x : Int)))],
            [(31000, .mat 22 3 (.int .i64) true xs none), (70000, .row 3 (.int .i64) true ((bestL fl gs).take i))]⟩)
          (fun x => x ≤ u) (fun x => u - x) 0 ?_ ?_
        · refine ⟨Nat.zero_le _, ?_⟩
          refine ⟨rfl, ?_, ?_⟩ <;> (conv => whnf) <;> repeat' (first
    | exact trivial
    | rfl
    | (refine And.intro (fun h => h) (Or.inl ?_))
    | (refine And.intro (fun _ => rfl) (Or.inl ?_))
    | (refine And.intro (fun h => Bool.noConfusion h) (Or.inl ?_))
    | (with_reducible refine And.intro (fun _ => rfl) ?_)
    | ((with_reducible refine And.intro ?_ ?_) <;> conv => whnf)
    | (refine congrArg (Value.int _) ?_)
    | (refine congrArg (SV.arr _) ?_)
    | (refine congrArg Value.bool ?_))
        · intro x hx
          have hg := gain_at (gs.getD i []) x (by omega) (by have := hG.lens i (by omega); omega) (fun j hj => by have := hG.val i (by omega) j hj; omega)
          have ht1 : (xs.getD ((i : Int) + 1).toNat []).getD (min (T : Int) (left + fl.getD i 0 - x)).toNat 0 = mx (fl.drop (i + 1)) (gs.drop (i + 1)) (left + fl.getD i 0 - x) := by
            rw [e1, hxi (i + 1) hil, show min (T : Int) (left + fl.getD i 0 - x) = left + fl.getD i 0 - x from by omega, tabF_eq hsfx1 (by omega) (by omega)]
          have ht0 : (xs.getD i []).getD left.toNat 0 = mx (fl.drop i) (gs.drop i) left := by
            rw [hxi i hi, tabF_eq hsfx h0 h1]
          repeat' (first
    | refine W.seq ?_
    | refine W.block ?_
    | (refine W.drawTo (id := 22) tys_ok [] mixed [0, 1, 4, 5, 6, 7, 8, 9, 10, 11] 3 (by decide +kernel) ?_; conv => whnf)
    | (refine W.region tys_ok [] ?_; conv => whnf)
    | (refine W.drawAll tys_ok [] mixed rfl ?_; conv => whnf)
    | (refine W.ret ?_; conv => whnf)
    | (refine W.skip ?_; conv => whnf)
    | (refine W.exit ?_; conv => whnf)
    | (refine ⟨false, _, _, _, _, rfl, Path.imp_of (hg), rfl, rfl, rfl, ?_⟩; conv => whnf)
    | (refine W.cond rfl (fun hb => ?_) (fun hb => ?_) <;> (try simp only [minL, maxL, pickB, getD_int, getD_sl, getD_bool, len_int, len_sl, len_bool, decide_eq_true_eq, decide_eq_false_iff_not, Bool.and_eq_true, Bool.or_eq_true, Bool.and_eq_false_iff, Bool.or_eq_false_iff, Bool.not_eq_true', Bool.not_eq_false', Int.toNat_natCast, Int.ofNat_lt, Int.ofNat_le, not_true_eq_false, not_false_eq_true, or_false, false_or, and_true, true_and, or_true, true_or, and_false, false_and] at hb) <;> (try (first | (cases hb; done) | exact absurd hb (by decide) | (exfalso; omega))))
    | ((with_reducible refine And.intro ?_ ?_); (focus ((repeat' (first | (with_reducible rfl) | (with_reducible refine And.intro ?_ ?_) | omega | rfl | exact Or.inl rfl | exact Or.inr rfl | (focus ((try simp only [minL, maxL, pickB, getD_int, getD_sl, getD_bool, len_int, len_sl, len_bool, decide_eq_true_eq, decide_eq_false_iff_not, Bool.and_eq_true, Bool.or_eq_true, Bool.and_eq_false_iff, Bool.or_eq_false_iff, Bool.not_eq_true', Bool.not_eq_false', Int.toNat_natCast, Int.ofNat_lt, Int.ofNat_le, not_true_eq_false, not_false_eq_true, or_false, false_or, and_true, true_and, or_true, true_or, and_false, false_and, InK, Path.imp, List.length_replicate, List.length_set, List.length_append, List.length_cons, List.length_nil] at *); omega)))); done)); (conv => whnf))
    | ((with_reducible refine And.intro (Side.out ?_) ?_); rotate_left; (conv => whnf))
    | (refine Exists.intro _ (And.intro rfl (And.intro rfl (And.intro ?_ ?_))) <;> (conv => whnf) <;> repeat' (first
    | exact trivial
    | rfl
    | (refine And.intro (fun h => h) (Or.inl ?_))
    | (refine And.intro (fun _ => rfl) (Or.inl ?_))
    | (refine And.intro (fun h => Bool.noConfusion h) (Or.inl ?_))
    | (with_reducible refine And.intro (fun _ => rfl) ?_)
    | ((with_reducible refine And.intro ?_ ?_) <;> conv => whnf)
    | (refine congrArg (Value.int _) ?_)
    | (refine congrArg (SV.arr _) ?_)
    | (refine congrArg Value.bool ?_)))); all_goals (try unfold Side)
          all_goals try (repeat' (first | (with_reducible rfl) | (with_reducible refine And.intro ?_ ?_) | omega | rfl | exact Or.inl rfl | exact Or.inr rfl | (focus ((try simp only [minL, maxL, pickB, getD_int, getD_sl, getD_bool, len_int, len_sl, len_bool, decide_eq_true_eq, decide_eq_false_iff_not, Bool.and_eq_true, Bool.or_eq_true, Bool.and_eq_false_iff, Bool.or_eq_false_iff, Bool.not_eq_true', Bool.not_eq_false', Int.toNat_natCast, Int.ofNat_lt, Int.ofNat_le, not_true_eq_false, not_false_eq_true, or_false, false_or, and_true, true_and, or_true, true_or, and_false, false_and, InK, Path.imp, List.length_replicate, List.length_set, List.length_append, List.length_cons, List.length_nil] at *); omega))))
          · rename_i hb
            have hb : ((gs.getD i []).take x).sum + (xs.getD ((i : Int) + 1).toNat []).getD (min (T : Int) (left + fl.getD i 0 - x)).toNat 0 = (xs.getD i []).getD left.toNat 0 := of_decide_eq_true hb
            have hxu : x = u := by
              by_cases e : x = u
              · exact e
              · exact absurd ((congrArg (fun t => ((gs.getD i []).take x).sum + t) ht1).symm.trans (hb.trans ht0)) (hu4 x (by omega))
            subst hxu
            refine ⟨(i + 1, left + fl.getD i 0 - x), ⟨⟨?_, ?_, ?_, ?_⟩, ?_⟩, ?_⟩
            · exact hil
            · dsimp only; omega
            · dsimp only; omega
            · exact ho
            · dsimp only; omega
            · refine ⟨rfl, ?_, ?_⟩ <;> (conv => whnf) <;> repeat' (first
    | exact trivial
    | rfl
    | (refine And.intro (fun h => h) (Or.inl ?_))
    | (refine And.intro (fun _ => rfl) (Or.inl ?_))
    | (refine And.intro (fun h => Bool.noConfusion h) (Or.inl ?_))
    | (with_reducible refine And.intro (fun _ => rfl) ?_)
    | ((with_reducible refine And.intro ?_ ?_) <;> conv => whnf)
    | (refine congrArg (Value.int _) ?_)
    | (refine congrArg (SV.arr _) ?_)
    | (refine congrArg Value.bool ?_))
              show (bestL fl gs).take i ++ [(x : Int)] = (bestL fl gs).take (i + 1)
              rw [← hu, take_getD (by omega)]
          rotate_left
          · rename_i hb
            have hb : ¬ (((gs.getD i []).take x).sum + (xs.getD ((i : Int) + 1).toNat []).getD (min (T : Int) (left + fl.getD i 0 - x)).toNat 0 = (xs.getD i []).getD left.toNat 0) := of_decide_eq_false hb
            have hxu : x ≠ u := by
              intro e
              subst e
              exact hb ((congrArg (fun t => ((gs.getD i []).take x).sum + t) ht1).trans (hu3.trans ht0.symm))
            refine ⟨x + 1, ⟨by omega, by omega⟩, ?_⟩
            refine ⟨rfl, ?_, ?_⟩ <;> (conv => whnf) <;> repeat' (first
    | exact trivial
    | rfl
    | (refine And.intro (fun h => h) (Or.inl ?_))
    | (refine And.intro (fun _ => rfl) (Or.inl ?_))
    | (refine And.intro (fun h => Bool.noConfusion h) (Or.inl ?_))
    | (with_reducible refine And.intro (fun _ => rfl) ?_)
    | ((with_reducible refine And.intro ?_ ?_) <;> conv => whnf)
    | (refine congrArg (Value.int _) ?_)
    | (refine congrArg (SV.arr _) ?_)
    | (refine congrArg Value.bool ?_))
          · show InK .i64 (((gs.getD i []).take x).sum + (xs.getD ((i : Int) + 1).toNat []).getD (min (T : Int) (left + fl.getD i 0 - x)).toNat 0)
            rw [ht1]
            have := hG.take_sum i x
            have := tabF_bound (T := T) (fs := fl.drop (i + 1)) (hG.drop (i + 1)) (left + fl.getD i 0 - x).toNat
            rw [tabF_eq hsfx1 (by omega) (by omega)] at this
            have := (hG.drop (i + 1)).len
            (repeat' (first | (with_reducible rfl) | (with_reducible refine And.intro ?_ ?_) | omega | rfl | exact Or.inl rfl | exact Or.inr rfl | (focus ((try simp only [minL, maxL, pickB, getD_int, getD_sl, getD_bool, len_int, len_sl, len_bool, decide_eq_true_eq, decide_eq_false_iff_not, Bool.and_eq_true, Bool.or_eq_true, Bool.and_eq_false_iff, Bool.or_eq_false_iff, Bool.not_eq_true', Bool.not_eq_false', Int.toNat_natCast, Int.ofNat_lt, Int.ofNat_le, not_true_eq_false, not_false_eq_true, or_false, false_or, and_true, true_and, or_true, true_or, and_false, false_and, InK, Path.imp, List.length_replicate, List.length_set, List.length_append, List.length_cons, List.length_nil] at *); omega))))
          · show @List.length (Ty.int .i64).T ((bestL fl gs).take i) + 1 ≤ 4294967296
            omega
      · have hie : i = fl.length := by omega
        subst hie
        have hr0 : @List.length (Ty.int .i64).T (@List.getD (List (Ty.int .i64).T) xs 0 []) = T + 1 := by
          show (xs.getD 0 []).length = T + 1
          rw [hxi 0 (Nat.zero_le _), tabF_len]
        have hr1 : Int.toNat 0 < @List.length (Ty.int .i64).T (@List.getD (List (Ty.int .i64).T) xs (Int.toNat 0) []) := by
          show 0 < @List.length (Ty.int .i64).T (@List.getD (List (Ty.int .i64).T) xs 0 [])
          omega
        repeat' (first
    | refine W.seq ?_
    | refine W.block ?_
    | (refine W.region tys_ok [] ?_; conv => whnf)
    | (refine W.drawAll tys_ok [] mixed rfl ?_; conv => whnf)
    | (refine W.ret ?_; conv => whnf)
    | (refine W.skip ?_; conv => whnf)
    | (refine W.exit ?_; conv => whnf)
    | (refine W.cond rfl (fun hb => ?_) (fun hb => ?_) <;> (try simp only [minL, maxL, pickB, getD_int, getD_sl, getD_bool, len_int, len_sl, len_bool, decide_eq_true_eq, decide_eq_false_iff_not, Bool.and_eq_true, Bool.or_eq_true, Bool.and_eq_false_iff, Bool.or_eq_false_iff, Bool.not_eq_true', Bool.not_eq_false', Int.toNat_natCast, Int.ofNat_lt, Int.ofNat_le, not_true_eq_false, not_false_eq_true, or_false, false_or, and_true, true_and, or_true, true_or, and_false, false_and] at hb) <;> (try (first | (cases hb; done) | exact absurd hb (by decide) | (exfalso; omega))))
    | ((with_reducible refine And.intro ?_ ?_); (focus ((repeat' (first | (with_reducible rfl) | (with_reducible refine And.intro ?_ ?_) | omega | rfl | exact Or.inl rfl | exact Or.inr rfl | (focus ((try simp only [minL, maxL, pickB, getD_int, getD_sl, getD_bool, len_int, len_sl, len_bool, decide_eq_true_eq, decide_eq_false_iff_not, Bool.and_eq_true, Bool.or_eq_true, Bool.and_eq_false_iff, Bool.or_eq_false_iff, Bool.not_eq_true', Bool.not_eq_false', Int.toNat_natCast, Int.ofNat_lt, Int.ofNat_le, not_true_eq_false, not_false_eq_true, or_false, false_or, and_true, true_and, or_true, true_or, and_false, false_and, InK, Path.imp, List.length_replicate, List.length_set, List.length_append, List.length_cons, List.length_nil] at *); omega)))); done)); (conv => whnf))
    | ((with_reducible refine And.intro (Side.out ?_) ?_); rotate_left; (conv => whnf))
    | (refine Exists.intro _ (And.intro rfl (And.intro rfl (And.intro ?_ ?_))) <;> (conv => whnf) <;> repeat' (first
    | exact trivial
    | rfl
    | (refine And.intro (fun h => h) (Or.inl ?_))
    | (refine And.intro (fun _ => rfl) (Or.inl ?_))
    | (refine And.intro (fun h => Bool.noConfusion h) (Or.inl ?_))
    | (with_reducible refine And.intro (fun _ => rfl) ?_)
    | ((with_reducible refine And.intro ?_ ?_) <;> conv => whnf)
    | (refine congrArg (Value.int _) ?_)
    | (refine congrArg (SV.arr _) ?_)
    | (refine congrArg Value.bool ?_)))); all_goals (try unfold Side)
        all_goals try (repeat' (first | (with_reducible rfl) | (with_reducible refine And.intro ?_ ?_) | omega | rfl | exact Or.inl rfl | exact Or.inr rfl | (focus ((try simp only [minL, maxL, pickB, getD_int, getD_sl, getD_bool, len_int, len_sl, len_bool, decide_eq_true_eq, decide_eq_false_iff_not, Bool.and_eq_true, Bool.or_eq_true, Bool.and_eq_false_iff, Bool.or_eq_false_iff, Bool.not_eq_true', Bool.not_eq_false', Int.toNat_natCast, Int.ofNat_lt, Int.ofNat_le, not_true_eq_false, not_false_eq_true, or_false, false_or, and_true, true_and, or_true, true_or, and_false, false_and, InK, Path.imp, List.length_replicate, List.length_set, List.length_append, List.length_cons, List.length_nil] at *); omega))))
        · show (xs.getD 0 []).getD 0 0 = val fl gs
          rw [hxi 0 (Nat.zero_le _), ← h.mx]
          exact tabF_eq h.sfx (Int.le_refl 0) (by rw [hT]; omega)
        · show (bestL fl gs).take fl.length = bestL fl gs
          rw [← hbl, List.take_length]
