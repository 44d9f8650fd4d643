/- The document's check of rights. No condition. -/
import Derived.Test.YtohfemfgnohhdaaW10
namespace Go.Proofs.Ytohfemfgnohhdaa
open Go Go.Vc
set_option linter.unusedVariables false
set_option linter.unusedSimpArgs false

/-- What the document's check finds from place i on, with the ages seen so far. -/
def seenT (ag : List Int) (n : Nat) : Nat → List Bool
  | 0 => List.replicate n false
  | i + 1 => (seenT ag n i).set (ag.getD i 0).toNat true
def inR (v lo hi : Int) : Bool := decide (lo ≤ v) && decide (v ≤ hi)
def badAt (fl ri ag : List Int) (i : Nat) : Bool :=
  !(inR (fl.getD i 0) 0 30) || !(inR (ri.getD i 0) 0 30) || !(inR (ag.getD i 0) 0 ((fl.length : Int) - 1)) || (seenT ag fl.length i).getD (ag.getD i 0).toNat false
def goodT (fl ri ag : List Int) : Nat → Bool
  | 0 => true
  | i + 1 => goodT fl ri ag i && !(badAt fl ri ag i)
def rightsRef (fl ri ag : List Int) : Bool := decide (1 ≤ fl.length) && decide (fl.length ≤ 8) && decide (ri.length = fl.length) && decide (ag.length = fl.length) && goodT fl ri ag fl.length
theorem goodT_get {fl ri ag : List Int} : ∀ {n : Nat}, goodT fl ri ag n = true → ∀ i, i < n → badAt fl ri ag i = false
  | 0, _, i, h => by omega
  | n + 1, hn, i, h => by
    simp only [goodT, Bool.and_eq_true, Bool.not_eq_true'] at hn
    by_cases e : i = n
    · rw [e]; exact hn.2
    · exact goodT_get hn.1 i (by omega)
theorem seenT_len {ag : List Int} {n : Nat} : ∀ {i : Nat}, (seenT ag n i).length = n
  | 0 => by simp [seenT]
  | i + 1 => by simp only [seenT, List.length_set]; exact seenT_len

theorem Rights_ok (fl ri ag : List Int) (h1 : fl.length ≤ 1000) (h2 : ri.length ≤ 1000) (h3 : ag.length ≤ 1000) :
    FnAt Try.prog false 23 [.arr (.int .i64) fl, .arr (.int .i64) ri, .arr (.int .i64) ag] (.lit (.bool (rightsRef fl ri ag))) [] := by
  refine FnAt.of_body tys_ok Try.func23 (by rfl) rfl Try.ntmps23 (by rw [Try.results23]) (by simp) ?_
  
  repeat' (first
    | refine W.seq ?_
    | refine W.block ?_
    | (refine W.region tys_ok [] ?_; conv => whnf)
    | (refine W.drawAll tys_ok [] mixed rfl ?_; conv => whnf)
    | (refine W.ret ?_; conv => whnf)
    | (refine W.skip ?_; conv => whnf)
    | (refine W.exit ?_; conv => whnf)
    | (refine ⟨false, _, _, _, _, rfl, Path.imp_of (in_at _ _ _), rfl, rfl, rfl, ?_⟩; conv => whnf)
    | (refine W.cond rfl (fun hb => ?_) (fun hb => ?_) <;> (try simp only [minL, maxL, pickB, getD_int, getD_sl, getD_bool, len_int, len_sl, len_bool, decide_eq_true_eq, decide_eq_false_iff_not, Bool.and_eq_true, Bool.or_eq_true, Bool.and_eq_false_iff, Bool.or_eq_false_iff, Bool.not_eq_true', Bool.not_eq_false', Int.toNat_natCast, Int.ofNat_lt, Int.ofNat_le, not_true_eq_false, not_false_eq_true, or_false, false_or, and_true, true_and, or_true, true_or, and_false, false_and] at hb) <;> (try (first | (cases hb; done) | exact absurd hb (by decide) | (exfalso; omega))))
    | ((with_reducible refine And.intro ?_ ?_); (focus ((repeat' (first | rfl | exact Or.inl rfl | exact Or.inr rfl | (with_reducible refine And.intro ?_ ?_) | omega | (focus ((try simp only [minL, maxL, pickB, getD_int, getD_sl, getD_bool, len_int, len_sl, len_bool, decide_eq_true_eq, decide_eq_false_iff_not, Bool.and_eq_true, Bool.or_eq_true, Bool.and_eq_false_iff, Bool.or_eq_false_iff, Bool.not_eq_true', Bool.not_eq_false', Int.toNat_natCast, Int.ofNat_lt, Int.ofNat_le, not_true_eq_false, not_false_eq_true, or_false, false_or, and_true, true_and, or_true, true_or, and_false, false_and, InK, Path.imp] at *); omega)))); done)); (conv => whnf))
    | ((with_reducible refine And.intro (Side.out ?_) ?_); rotate_left; (conv => whnf))
    | (refine Exists.intro _ (And.intro rfl (And.intro rfl (And.intro ?_ ?_))) <;> (conv => whnf) <;> repeat' (first
    | exact trivial
    | rfl
    | (refine And.intro (fun h => h) (Or.inl ?_))
    | (refine And.intro (fun _ => rfl) (Or.inl ?_))
    | (refine And.intro (fun h => Bool.noConfusion h) (Or.inl ?_))
    | (with_reducible refine And.intro (fun _ => rfl) ?_)
    | ((with_reducible refine And.intro ?_ ?_) <;> conv => whnf)
    | (refine congrArg (Value.int _) ?_)
    | (refine congrArg (SV.arr _) ?_)
    | (refine congrArg Value.bool ?_)))); all_goals (try unfold Side)
  all_goals try (repeat' (first | rfl | exact Or.inl rfl | exact Or.inr rfl | (with_reducible refine And.intro ?_ ?_) | omega | (focus ((try simp only [minL, maxL, pickB, getD_int, getD_sl, getD_bool, len_int, len_sl, len_bool, decide_eq_true_eq, decide_eq_false_iff_not, Bool.and_eq_true, Bool.or_eq_true, Bool.and_eq_false_iff, Bool.or_eq_false_iff, Bool.not_eq_true', Bool.not_eq_false', Int.toNat_natCast, Int.ofNat_lt, Int.ofNat_le, not_true_eq_false, not_false_eq_true, or_false, false_or, and_true, true_and, or_true, true_or, and_false, false_and, InK, Path.imp] at *); omega))))
  · simp only [rightsRef]
    symm
    simp only [Bool.and_eq_false_iff, decide_eq_false_iff_not]
    rcases hb with (h | h) | h
    all_goals (refine .inl ?_; omega)
  have hgood : rightsRef fl ri ag = goodT fl ri ag fl.length := by
    have e1 : decide (1 ≤ fl.length) = true := by simp only [decide_eq_true_eq]; omega
    have e2 : decide (fl.length ≤ 8) = true := by simp only [decide_eq_true_eq]; omega
    have e3 : decide (ri.length = fl.length) = true := by simp only [decide_eq_true_eq]; omega
    have e4 : decide (ag.length = fl.length) = true := by simp only [decide_eq_true_eq]; omega
    simp only [rightsRef, e1, e2, e3, e4, Bool.true_and]
  refine W.loop (fun i : Nat => ⟨[(0, .st false (.arr (.int .i64) fl)), (1, .st false (.arr (.int .i64) ri)), (2, .st false (.arr (.int .i64) ag)), (7, .lit (.int .i64 fl.length)), (8, .own 29000), (9, .lit (.int .i64 i))], [(29000, .row 4 .bool true (seenT ag fl.length i))]⟩)
    (fun i => i ≤ fl.length ∧ goodT fl ri ag i = true) (fun i => fl.length - i) 0 ?_ ?_
  · refine ⟨by simp [goodT], ?_⟩
    refine ⟨rfl, ?_, ?_⟩ <;> (conv => whnf) <;> repeat' (first
    | exact trivial
    | rfl
    | (refine And.intro (fun h => h) (Or.inl ?_))
    | (refine And.intro (fun _ => rfl) (Or.inl ?_))
    | (refine And.intro (fun h => Bool.noConfusion h) (Or.inl ?_))
    | (with_reducible refine And.intro (fun _ => rfl) ?_)
    | ((with_reducible refine And.intro ?_ ?_) <;> conv => whnf)
    | (refine congrArg (Value.int _) ?_)
    | (refine congrArg (SV.arr _) ?_)
    | (refine congrArg Value.bool ?_))
  · rintro i ⟨hi, hp⟩
    have hsl := seenT_len (ag := ag) (n := fl.length) (i := i)
    by_cases hil : i < fl.length
    · repeat' (first
    | refine W.seq ?_
    | refine W.block ?_
    | (refine W.region tys_ok [] ?_; conv => whnf)
    | (refine W.drawAll tys_ok [] mixed rfl ?_; conv => whnf)
    | (refine W.ret ?_; conv => whnf)
    | (refine W.skip ?_; conv => whnf)
    | (refine W.exit ?_; conv => whnf)
    | (refine ⟨false, _, _, _, _, rfl, Path.imp_of (in_at _ _ _), rfl, rfl, rfl, ?_⟩; conv => whnf)
    | (refine W.cond rfl (fun hb => ?_) (fun hb => ?_) <;> (try simp only [minL, maxL, pickB, getD_int, getD_sl, getD_bool, len_int, len_sl, len_bool, decide_eq_true_eq, decide_eq_false_iff_not, Bool.and_eq_true, Bool.or_eq_true, Bool.and_eq_false_iff, Bool.or_eq_false_iff, Bool.not_eq_true', Bool.not_eq_false', Int.toNat_natCast, Int.ofNat_lt, Int.ofNat_le, not_true_eq_false, not_false_eq_true, or_false, false_or, and_true, true_and, or_true, true_or, and_false, false_and] at hb) <;> (try (first | (cases hb; done) | exact absurd hb (by decide) | (exfalso; omega))))
    | ((with_reducible refine And.intro ?_ ?_); (focus ((repeat' (first | rfl | exact Or.inl rfl | exact Or.inr rfl | (with_reducible refine And.intro ?_ ?_) | omega | (focus ((try simp only [minL, maxL, pickB, getD_int, getD_sl, getD_bool, len_int, len_sl, len_bool, decide_eq_true_eq, decide_eq_false_iff_not, Bool.and_eq_true, Bool.or_eq_true, Bool.and_eq_false_iff, Bool.or_eq_false_iff, Bool.not_eq_true', Bool.not_eq_false', Int.toNat_natCast, Int.ofNat_lt, Int.ofNat_le, not_true_eq_false, not_false_eq_true, or_false, false_or, and_true, true_and, or_true, true_or, and_false, false_and, InK, Path.imp] at *); omega)))); done)); (conv => whnf))
    | ((with_reducible refine And.intro (Side.out ?_) ?_); rotate_left; (conv => whnf))
    | (refine Exists.intro _ (And.intro rfl (And.intro rfl (And.intro ?_ ?_))) <;> (conv => whnf) <;> repeat' (first
    | exact trivial
    | rfl
    | (refine And.intro (fun h => h) (Or.inl ?_))
    | (refine And.intro (fun _ => rfl) (Or.inl ?_))
    | (refine And.intro (fun h => Bool.noConfusion h) (Or.inl ?_))
    | (with_reducible refine And.intro (fun _ => rfl) ?_)
    | ((with_reducible refine And.intro ?_ ?_) <;> conv => whnf)
    | (refine congrArg (Value.int _) ?_)
    | (refine congrArg (SV.arr _) ?_)
    | (refine congrArg Value.bool ?_)))); all_goals (try unfold Side)
      all_goals try (repeat' (first | rfl | exact Or.inl rfl | exact Or.inr rfl | (with_reducible refine And.intro ?_ ?_) | omega | (focus ((try simp only [minL, maxL, pickB, getD_int, getD_sl, getD_bool, len_int, len_sl, len_bool, decide_eq_true_eq, decide_eq_false_iff_not, Bool.and_eq_true, Bool.or_eq_true, Bool.and_eq_false_iff, Bool.or_eq_false_iff, Bool.not_eq_true', Bool.not_eq_false', Int.toNat_natCast, Int.ofNat_lt, Int.ofNat_le, not_true_eq_false, not_false_eq_true, or_false, false_or, and_true, true_and, or_true, true_or, and_false, false_and, InK, Path.imp] at *); omega))))
      · symm
        rw [hgood]
        cases h : goodT fl ri ag fl.length with
        | false => rfl
        | true =>
          have h5 := goodT_get h i hil
          simp only [badAt, inR, Bool.or_eq_false_iff, Bool.not_eq_false', Bool.and_eq_true, decide_eq_true_eq] at h5
          rcases hb with ((h6 | h6) | h6) | h6
          · omega
          · omega
          · omega
          · rw [h5.2] at h6; cases h6
      · have h5 : badAt fl ri ag i = false := by
          simp only [badAt, inR, Bool.or_eq_false_iff, Bool.not_eq_false', Bool.and_eq_true, decide_eq_true_eq]
          exact hb
        refine ⟨i + 1, ⟨⟨by omega, ?_⟩, by omega⟩, ?_⟩
        · simp only [goodT, hp, h5, Bool.not_false, Bool.true_and]
        · refine ⟨rfl, ?_, ?_⟩ <;> (conv => whnf) <;> repeat' (first
    | exact trivial
    | rfl
    | (refine And.intro (fun h => h) (Or.inl ?_))
    | (refine And.intro (fun _ => rfl) (Or.inl ?_))
    | (refine And.intro (fun h => Bool.noConfusion h) (Or.inl ?_))
    | (with_reducible refine And.intro (fun _ => rfl) ?_)
    | ((with_reducible refine And.intro ?_ ?_) <;> conv => whnf)
    | (refine congrArg (Value.int _) ?_)
    | (refine congrArg (SV.arr _) ?_)
    | (refine congrArg Value.bool ?_))
    · have hi' : i = fl.length := by omega
      subst hi'
      repeat' (first
    | refine W.seq ?_
    | refine W.block ?_
    | (refine W.region tys_ok [] ?_; conv => whnf)
    | (refine W.drawAll tys_ok [] mixed rfl ?_; conv => whnf)
    | (refine W.ret ?_; conv => whnf)
    | (refine W.skip ?_; conv => whnf)
    | (refine W.exit ?_; conv => whnf)
    | (refine W.cond rfl (fun hb => ?_) (fun hb => ?_) <;> (try simp only [minL, maxL, pickB, getD_int, getD_sl, getD_bool, len_int, len_sl, len_bool, decide_eq_true_eq, decide_eq_false_iff_not, Bool.and_eq_true, Bool.or_eq_true, Bool.and_eq_false_iff, Bool.or_eq_false_iff, Bool.not_eq_true', Bool.not_eq_false', Int.toNat_natCast, Int.ofNat_lt, Int.ofNat_le, not_true_eq_false, not_false_eq_true, or_false, false_or, and_true, true_and, or_true, true_or, and_false, false_and] at hb) <;> (try (first | (cases hb; done) | exact absurd hb (by decide) | (exfalso; omega))))
    | ((with_reducible refine And.intro ?_ ?_); (focus ((repeat' (first | rfl | exact Or.inl rfl | exact Or.inr rfl | (with_reducible refine And.intro ?_ ?_) | omega | (focus ((try simp only [minL, maxL, pickB, getD_int, getD_sl, getD_bool, len_int, len_sl, len_bool, decide_eq_true_eq, decide_eq_false_iff_not, Bool.and_eq_true, Bool.or_eq_true, Bool.and_eq_false_iff, Bool.or_eq_false_iff, Bool.not_eq_true', Bool.not_eq_false', Int.toNat_natCast, Int.ofNat_lt, Int.ofNat_le, not_true_eq_false, not_false_eq_true, or_false, false_or, and_true, true_and, or_true, true_or, and_false, false_and, InK, Path.imp] at *); omega)))); done)); (conv => whnf))
    | ((with_reducible refine And.intro (Side.out ?_) ?_); rotate_left; (conv => whnf))
    | (refine Exists.intro _ (And.intro rfl (And.intro rfl (And.intro ?_ ?_))) <;> (conv => whnf) <;> repeat' (first
    | exact trivial
    | rfl
    | (refine And.intro (fun h => h) (Or.inl ?_))
    | (refine And.intro (fun _ => rfl) (Or.inl ?_))
    | (refine And.intro (fun h => Bool.noConfusion h) (Or.inl ?_))
    | (with_reducible refine And.intro (fun _ => rfl) ?_)
    | ((with_reducible refine And.intro ?_ ?_) <;> conv => whnf)
    | (refine congrArg (Value.int _) ?_)
    | (refine congrArg (SV.arr _) ?_)
    | (refine congrArg Value.bool ?_)))); all_goals (try unfold Side)
      all_goals try (repeat' (first | rfl | exact Or.inl rfl | exact Or.inr rfl | (with_reducible refine And.intro ?_ ?_) | omega | (focus ((try simp only [minL, maxL, pickB, getD_int, getD_sl, getD_bool, len_int, len_sl, len_bool, decide_eq_true_eq, decide_eq_false_iff_not, Bool.and_eq_true, Bool.or_eq_true, Bool.and_eq_false_iff, Bool.or_eq_false_iff, Bool.not_eq_true', Bool.not_eq_false', Int.toNat_natCast, Int.ofNat_lt, Int.ofNat_le, not_true_eq_false, not_false_eq_true, or_false, false_or, and_true, true_and, or_true, true_or, and_false, false_and, InK, Path.imp] at *); omega))))
      rw [hgood, hp]

theorem seenT_get {ag : List Int} {n : Nat} (hv : ∀ i, i < n → 0 ≤ ag.getD i 0 ∧ ag.getD i 0 < n) : ∀ {i : Nat}, i ≤ n → ∀ v, v < n → ((seenT ag n i).getD v false = true ↔ ∃ j, j < i ∧ ag.getD j 0 = v)
  | 0, _, v, hvn => by
    simp only [seenT, List.getD_eq_getElem?_getD, List.getElem?_replicate]
    rw [if_pos hvn]
    simp
  | i + 1, hi, v, hvn => by
    have ih := seenT_get hv (i := i) (by omega) v hvn
    have hl := seenT_len (ag := ag) (n := n) (i := i)
    have h1 := hv i (by omega)
    simp only [seenT, List.getD_eq_getElem?_getD, List.getElem?_set] at ih ⊢
    split
    · rename_i e
      rw [if_pos (by omega)]
      simp only [Option.getD_some, true_iff]
      exact ⟨i, by omega, by simp only [List.getD_eq_getElem?_getD] at h1 e ⊢; omega⟩
    · rename_i e
      rw [ih]
      constructor
      · rintro ⟨j, h2, h3⟩; exact ⟨j, by omega, h3⟩
      · rintro ⟨j, h2, h3⟩
        refine ⟨j, ?_, h3⟩
        rcases Nat.lt_or_ge j i with h4 | h4
        · exact h4
        · have : j = i := by omega
          subst this
          exfalso
          apply e
          simp only [List.getD_eq_getElem?_getD] at h1
          omega
