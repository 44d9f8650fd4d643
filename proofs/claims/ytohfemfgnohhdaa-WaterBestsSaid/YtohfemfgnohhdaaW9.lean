/- Calls: what the program's function returns. No condition. -/
import Derived.Test.YtohfemfgnohhdaaW8
namespace Go.Proofs.Ytohfemfgnohhdaa
open Go Go.Vc
set_option linter.unusedVariables false
set_option linter.unusedSimpArgs false

theorem set_zero {us : List Int} {i : Nat} (hi : i < us.length) (h : us.getD i 0 = 0) : us.set i 0 = us := by
  apply List.ext_getElem?
  intro j
  rw [List.getElem?_set]
  split
  · rename_i e
    subst e
    rw [List.getD_eq_getElem?_getD, List.getElem?_eq_getElem hi] at h
    simp only [Option.getD_some] at h
    simp [hi, h]
  · rfl

theorem Calls_ok (fl ri ag : List Int) (h1 : fl.length ≤ 1000) (h2 : ri.length ≤ 1000) (h3 : ag.length ≤ 1000) :
    FnAt Try.prog false 22 [.arr (.int .i64) fl, .arr (.int .i64) ri, .arr (.int .i64) ag] (.tup [.own 0, .lit (.int .i64 (cond (rightsOk fl ri ag) 0 1))]) [(0, .row 3 (.int .i64) true (cond (rightsOk fl ri ag) (callsT fl ri ag fl.length) []))] := by
  refine FnAt.of_body tys_ok Try.func22 (by rfl) rfl Try.ntmps22 (by rw [Try.results22]) (by simp) ?_
  
  repeat' (first
    | refine W.seq ?_
    | refine W.block ?_
    | (refine W.region tys_ok [] ?_; conv => whnf)
    | (refine W.drawAll tys_ok [] mixed rfl ?_; conv => whnf)
    | (refine W.ret ?_; conv => whnf)
    | (refine W.skip ?_; conv => whnf)
    | (refine W.exit ?_; conv => whnf)
    | (refine ⟨false, _, _, _, _, rfl, Path.imp_of (within_at fl _ h1), rfl, rfl, rfl, ?_⟩; conv => whnf)
    | (refine ⟨false, _, _, _, _, rfl, Path.imp_of (within_at ri _ h2), rfl, rfl, rfl, ?_⟩; conv => whnf)
    | (refine ⟨false, _, _, _, _, rfl, Path.imp_of (within_at ag _ h3), rfl, rfl, rfl, ?_⟩; conv => whnf)
    | (refine W.cond rfl (fun hb => ?_) (fun hb => ?_) <;> (try simp only [minL, maxL, pickB, getD_int, getD_sl, getD_bool, len_int, len_sl, len_bool, decide_eq_true_eq, decide_eq_false_iff_not, Bool.and_eq_true, Bool.or_eq_true, Bool.and_eq_false_iff, Bool.or_eq_false_iff, Bool.not_eq_true', Bool.not_eq_false', Int.toNat_natCast, Int.ofNat_lt, Int.ofNat_le, not_true_eq_false, not_false_eq_true, or_false, false_or, and_true, true_and, or_true, true_or, and_false, false_and] at hb) <;> (try (first | (cases hb; done) | exact absurd hb (by decide) | (exfalso; omega))))
    | ((with_reducible refine And.intro ?_ ?_); (focus ((repeat' (first | rfl | exact Or.inl rfl | exact Or.inr rfl | (with_reducible refine And.intro ?_ ?_) | omega | (focus ((try simp only [minL, maxL, pickB, getD_int, getD_sl, getD_bool, len_int, len_sl, len_bool, decide_eq_true_eq, decide_eq_false_iff_not, Bool.and_eq_true, Bool.or_eq_true, Bool.and_eq_false_iff, Bool.or_eq_false_iff, Bool.not_eq_true', Bool.not_eq_false', Int.toNat_natCast, Int.ofNat_lt, Int.ofNat_le, not_true_eq_false, not_false_eq_true, or_false, false_or, and_true, true_and, or_true, true_or, and_false, false_and, InK, Path.imp] at *); omega)))); done)); (conv => whnf))
    | ((with_reducible refine And.intro (Side.out ?_) ?_); rotate_left; (conv => whnf))
    | (refine Exists.intro _ (And.intro rfl (And.intro rfl (And.intro ?_ ?_))) <;> (conv => whnf) <;> repeat' (first
    | exact trivial
    | rfl
    | (refine And.intro (fun h => h) (Or.inl ?_))
    | (refine And.intro (fun _ => rfl) (Or.inl ?_))
    | (refine And.intro (fun h => Bool.noConfusion h) (Or.inl ?_))
    | (with_reducible refine And.intro (fun _ => rfl) ?_)
    | ((with_reducible refine And.intro ?_ ?_) <;> conv => whnf)
    | (refine congrArg (Value.int _) ?_)
    | (refine congrArg (SV.arr _) ?_)
    | (refine congrArg Value.bool ?_)))); all_goals (try unfold Side)
  all_goals try (repeat' (first | rfl | exact Or.inl rfl | exact Or.inr rfl | (with_reducible refine And.intro ?_ ?_) | omega | (focus ((try simp only [minL, maxL, pickB, getD_int, getD_sl, getD_bool, len_int, len_sl, len_bool, decide_eq_true_eq, decide_eq_false_iff_not, Bool.and_eq_true, Bool.or_eq_true, Bool.and_eq_false_iff, Bool.or_eq_false_iff, Bool.not_eq_true', Bool.not_eq_false', Int.toNat_natCast, Int.ofNat_lt, Int.ofNat_le, not_true_eq_false, not_false_eq_true, or_false, false_or, and_true, true_and, or_true, true_or, and_false, false_and, InK, Path.imp] at *); omega))))
  iterate 2
    · have hbad : rightsOk fl ri ag = false := by
        simp only [rightsOk, within, Bool.and_eq_false_iff, decide_eq_false_iff_not, Bool.not_eq_false']
        rcases hb with ((((h | h) | h) | h) | h) | h
        all_goals first | (simp only [h]; simp; done) | (refine .inl (.inl (.inl (.inl ?_))); omega)
      rw [hbad] <;> rfl
  have hgood : rightsOk fl ri ag = hasT ag fl.length := by
    have e1 : decide (1 ≤ fl.length) = true := by simp only [decide_eq_true_eq]; omega
    have e2 : decide (fl.length ≤ 8) = true := by simp only [decide_eq_true_eq]; omega
    have e3 : decide (ri.length = fl.length) = true := by simp only [decide_eq_true_eq]; omega
    have e4 : decide (ag.length = fl.length) = true := by simp only [decide_eq_true_eq]; omega
    simp only [rightsOk, within, e1, e2, e3, e4, hb.2, hb.1.2, hb.1.1.2, Bool.not_false, Bool.true_and]
  refine W.loop (fun i : Nat => ⟨[(0, .st false (.arr (.int .i64) fl)), (1, .st false (.arr (.int .i64) ri)), (2, .st false (.arr (.int .i64) ag)), (8, .lit (.int .i64 fl.length)), (51, .lit (.int .i64 fl.length)), (52, .lit (.int .i64 i))], []⟩)
    (fun i => i ≤ fl.length ∧ hasT ag i = true) (fun i => fl.length - i) 0 ?_ ?_
  · refine ⟨by simp [hasT], ?_⟩
    refine ⟨rfl, ?_, ?_⟩ <;> (conv => whnf) <;> repeat' (first
    | exact trivial
    | rfl
    | (refine And.intro (fun h => h) (Or.inl ?_))
    | (refine And.intro (fun _ => rfl) (Or.inl ?_))
    | (refine And.intro (fun h => Bool.noConfusion h) (Or.inl ?_))
    | (with_reducible refine And.intro (fun _ => rfl) ?_)
    | ((with_reducible refine And.intro ?_ ?_) <;> conv => whnf)
    | (refine congrArg (Value.int _) ?_)
    | (refine congrArg (SV.arr _) ?_)
    | (refine congrArg Value.bool ?_))
  · rintro i ⟨hi, hp⟩
    by_cases hil : i < fl.length
    · repeat' (first
    | refine W.seq ?_
    | refine W.block ?_
    | (refine W.region tys_ok [] ?_; conv => whnf)
    | (refine W.drawAll tys_ok [] mixed rfl ?_; conv => whnf)
    | (refine W.ret ?_; conv => whnf)
    | (refine W.skip ?_; conv => whnf)
    | (refine W.exit ?_; conv => whnf)
    | (refine ⟨false, _, _, _, _, rfl, Path.imp_of (contains_at ag i (by omega)), rfl, rfl, rfl, ?_⟩; conv => whnf)
    | (refine W.cond rfl (fun hb => ?_) (fun hb => ?_) <;> (try simp only [minL, maxL, pickB, getD_int, getD_sl, getD_bool, len_int, len_sl, len_bool, decide_eq_true_eq, decide_eq_false_iff_not, Bool.and_eq_true, Bool.or_eq_true, Bool.and_eq_false_iff, Bool.or_eq_false_iff, Bool.not_eq_true', Bool.not_eq_false', Int.toNat_natCast, Int.ofNat_lt, Int.ofNat_le, not_true_eq_false, not_false_eq_true, or_false, false_or, and_true, true_and, or_true, true_or, and_false, false_and] at hb) <;> (try (first | (cases hb; done) | exact absurd hb (by decide) | (exfalso; omega))))
    | ((with_reducible refine And.intro ?_ ?_); (focus ((repeat' (first | rfl | exact Or.inl rfl | exact Or.inr rfl | (with_reducible refine And.intro ?_ ?_) | omega | (focus ((try simp only [minL, maxL, pickB, getD_int, getD_sl, getD_bool, len_int, len_sl, len_bool, decide_eq_true_eq, decide_eq_false_iff_not, Bool.and_eq_true, Bool.or_eq_true, Bool.and_eq_false_iff, Bool.or_eq_false_iff, Bool.not_eq_true', Bool.not_eq_false', Int.toNat_natCast, Int.ofNat_lt, Int.ofNat_le, not_true_eq_false, not_false_eq_true, or_false, false_or, and_true, true_and, or_true, true_or, and_false, false_and, InK, Path.imp] at *); omega)))); done)); (conv => whnf))
    | ((with_reducible refine And.intro (Side.out ?_) ?_); rotate_left; (conv => whnf))
    | (refine Exists.intro _ (And.intro rfl (And.intro rfl (And.intro ?_ ?_))) <;> (conv => whnf) <;> repeat' (first
    | exact trivial
    | rfl
    | (refine And.intro (fun h => h) (Or.inl ?_))
    | (refine And.intro (fun _ => rfl) (Or.inl ?_))
    | (refine And.intro (fun h => Bool.noConfusion h) (Or.inl ?_))
    | (with_reducible refine And.intro (fun _ => rfl) ?_)
    | ((with_reducible refine And.intro ?_ ?_) <;> conv => whnf)
    | (refine congrArg (Value.int _) ?_)
    | (refine congrArg (SV.arr _) ?_)
    | (refine congrArg Value.bool ?_)))); all_goals (try unfold Side)
      all_goals try (repeat' (first | rfl | exact Or.inl rfl | exact Or.inr rfl | (with_reducible refine And.intro ?_ ?_) | omega | (focus ((try simp only [minL, maxL, pickB, getD_int, getD_sl, getD_bool, len_int, len_sl, len_bool, decide_eq_true_eq, decide_eq_false_iff_not, Bool.and_eq_true, Bool.or_eq_true, Bool.and_eq_false_iff, Bool.or_eq_false_iff, Bool.not_eq_true', Bool.not_eq_false', Int.toNat_natCast, Int.ofNat_lt, Int.ofNat_le, not_true_eq_false, not_false_eq_true, or_false, false_or, and_true, true_and, or_true, true_or, and_false, false_and, InK, Path.imp] at *); omega))))
      iterate 2
        · have hbad : rightsOk fl ri ag = false := by
            rw [hgood]
            cases h : hasT ag fl.length with
            | false => rfl
            | true =>
              have := hasT_get h i hil
              simp only [has, decide_eq_true_eq] at this
              omega
          rw [hbad] <;> rfl
      · refine ⟨i + 1, ⟨⟨by omega, ?_⟩, by omega⟩, ?_⟩
        · simp only [hasT, has, hp, Bool.true_and, decide_eq_true_eq]
          omega
        · refine ⟨rfl, ?_, ?_⟩ <;> (conv => whnf) <;> repeat' (first
    | exact trivial
    | rfl
    | (refine And.intro (fun h => h) (Or.inl ?_))
    | (refine And.intro (fun _ => rfl) (Or.inl ?_))
    | (refine And.intro (fun h => Bool.noConfusion h) (Or.inl ?_))
    | (with_reducible refine And.intro (fun _ => rfl) ?_)
    | ((with_reducible refine And.intro ?_ ?_) <;> conv => whnf)
    | (refine congrArg (Value.int _) ?_)
    | (refine congrArg (SV.arr _) ?_)
    | (refine congrArg Value.bool ?_))
    · have hi' : i = fl.length := by omega
      subst hi'
      have hok : rightsOk fl ri ag = true := hgood.trans hp
      have hR := rightsOk.rights hok
      repeat' (first
    | refine W.seq ?_
    | refine W.block ?_
    | (refine W.region tys_ok [] ?_; conv => whnf)
    | (refine W.drawAll tys_ok [] mixed rfl ?_; conv => whnf)
    | (refine W.ret ?_; conv => whnf)
    | (refine W.skip ?_; conv => whnf)
    | (refine W.exit ?_; conv => whnf)
    | (refine W.cond rfl (fun hb => ?_) (fun hb => ?_) <;> (try simp only [minL, maxL, pickB, getD_int, getD_sl, getD_bool, len_int, len_sl, len_bool, decide_eq_true_eq, decide_eq_false_iff_not, Bool.and_eq_true, Bool.or_eq_true, Bool.and_eq_false_iff, Bool.or_eq_false_iff, Bool.not_eq_true', Bool.not_eq_false', Int.toNat_natCast, Int.ofNat_lt, Int.ofNat_le, not_true_eq_false, not_false_eq_true, or_false, false_or, and_true, true_and, or_true, true_or, and_false, false_and] at hb) <;> (try (first | (cases hb; done) | exact absurd hb (by decide) | (exfalso; omega))))
    | ((with_reducible refine And.intro ?_ ?_); (focus ((repeat' (first | rfl | exact Or.inl rfl | exact Or.inr rfl | (with_reducible refine And.intro ?_ ?_) | omega | (focus ((try simp only [minL, maxL, pickB, getD_int, getD_sl, getD_bool, len_int, len_sl, len_bool, decide_eq_true_eq, decide_eq_false_iff_not, Bool.and_eq_true, Bool.or_eq_true, Bool.and_eq_false_iff, Bool.or_eq_false_iff, Bool.not_eq_true', Bool.not_eq_false', Int.toNat_natCast, Int.ofNat_lt, Int.ofNat_le, not_true_eq_false, not_false_eq_true, or_false, false_or, and_true, true_and, or_true, true_or, and_false, false_and, InK, Path.imp] at *); omega)))); done)); (conv => whnf))
    | ((with_reducible refine And.intro (Side.out ?_) ?_); rotate_left; (conv => whnf))
    | (refine Exists.intro _ (And.intro rfl (And.intro rfl (And.intro ?_ ?_))) <;> (conv => whnf) <;> repeat' (first
    | exact trivial
    | rfl
    | (refine And.intro (fun h => h) (Or.inl ?_))
    | (refine And.intro (fun _ => rfl) (Or.inl ?_))
    | (refine And.intro (fun h => Bool.noConfusion h) (Or.inl ?_))
    | (with_reducible refine And.intro (fun _ => rfl) ?_)
    | ((with_reducible refine And.intro ?_ ?_) <;> conv => whnf)
    | (refine congrArg (Value.int _) ?_)
    | (refine congrArg (SV.arr _) ?_)
    | (refine congrArg Value.bool ?_)))); all_goals (try unfold Side)
      all_goals try (repeat' (first | rfl | exact Or.inl rfl | exact Or.inr rfl | (with_reducible refine And.intro ?_ ?_) | omega | (focus ((try simp only [minL, maxL, pickB, getD_int, getD_sl, getD_bool, len_int, len_sl, len_bool, decide_eq_true_eq, decide_eq_false_iff_not, Bool.and_eq_true, Bool.or_eq_true, Bool.and_eq_false_iff, Bool.or_eq_false_iff, Bool.not_eq_true', Bool.not_eq_false', Int.toNat_natCast, Int.ofNat_lt, Int.ofNat_le, not_true_eq_false, not_false_eq_true, or_false, false_or, and_true, true_and, or_true, true_or, and_false, false_and, InK, Path.imp] at *); omega))))
      refine W.loop (fun a : Nat => ⟨[(0, .st false (.arr (.int .i64) fl)), (1, .st false (.arr (.int .i64) ri)), (2, .st false (.arr (.int .i64) ag)), (10, .own 62000), (62, .lit (.int .i64 fl.length)), (63, .lit (.int .i64 a))], [(62000, .row 3 (.int .i64) true (callsT fl ri ag a))]⟩)
        (fun a => a ≤ fl.length) (fun a => fl.length - a) 0 ?_ ?_
      · refine ⟨by simp, ?_⟩
        refine ⟨rfl, ?_, ?_⟩ <;> (conv => whnf) <;> repeat' (first
    | exact trivial
    | rfl
    | (refine And.intro (fun h => h) (Or.inl ?_))
    | (refine And.intro (fun _ => rfl) (Or.inl ?_))
    | (refine And.intro (fun h => Bool.noConfusion h) (Or.inl ?_))
    | (with_reducible refine And.intro (fun _ => rfl) ?_)
    | ((with_reducible refine And.intro ?_ ?_) <;> conv => whnf)
    | (refine congrArg (Value.int _) ?_)
    | (refine congrArg (SV.arr _) ?_)
    | (refine congrArg Value.bool ?_))
      · intro a ha
        have g := callsT_given hR ha
        have hgl := g.len
        have hlr := hR.lr
        have hla := hR.la
        by_cases hal : a < fl.length
        · obtain ⟨hs1, hs2, hs3⟩ := has_spec (hR.hs a hal)
          have hri := hR.vr (ix ag a) (by omega)
          repeat' (first
    | refine W.seq ?_
    | refine W.block ?_
    | (refine W.region tys_ok [] ?_; conv => whnf)
    | (refine W.drawAll tys_ok [] mixed rfl ?_; conv => whnf)
    | (refine W.ret ?_; conv => whnf)
    | (refine W.skip ?_; conv => whnf)
    | (refine W.exit ?_; conv => whnf)
    | (refine ⟨false, _, _, _, _, rfl, Path.imp_of (index_at ag a (by omega)), rfl, rfl, rfl, ?_⟩; conv => whnf)
    | (refine W.cond rfl (fun hb => ?_) (fun hb => ?_) <;> (try simp only [minL, maxL, pickB, getD_int, getD_sl, getD_bool, len_int, len_sl, len_bool, decide_eq_true_eq, decide_eq_false_iff_not, Bool.and_eq_true, Bool.or_eq_true, Bool.and_eq_false_iff, Bool.or_eq_false_iff, Bool.not_eq_true', Bool.not_eq_false', Int.toNat_natCast, Int.ofNat_lt, Int.ofNat_le, not_true_eq_false, not_false_eq_true, or_false, false_or, and_true, true_and, or_true, true_or, and_false, false_and] at hb) <;> (try (first | (cases hb; done) | exact absurd hb (by decide) | (exfalso; omega))))
    | ((with_reducible refine And.intro ?_ ?_); (focus ((repeat' (first | rfl | exact Or.inl rfl | exact Or.inr rfl | (with_reducible refine And.intro ?_ ?_) | omega | (focus ((try simp only [minL, maxL, pickB, getD_int, getD_sl, getD_bool, len_int, len_sl, len_bool, decide_eq_true_eq, decide_eq_false_iff_not, Bool.and_eq_true, Bool.or_eq_true, Bool.and_eq_false_iff, Bool.or_eq_false_iff, Bool.not_eq_true', Bool.not_eq_false', Int.toNat_natCast, Int.ofNat_lt, Int.ofNat_le, not_true_eq_false, not_false_eq_true, or_false, false_or, and_true, true_and, or_true, true_or, and_false, false_and, InK, Path.imp] at *); omega)))); done)); (conv => whnf))
    | ((with_reducible refine And.intro (Side.out ?_) ?_); rotate_left; (conv => whnf))
    | (refine Exists.intro _ (And.intro rfl (And.intro rfl (And.intro ?_ ?_))) <;> (conv => whnf) <;> repeat' (first
    | exact trivial
    | rfl
    | (refine And.intro (fun h => h) (Or.inl ?_))
    | (refine And.intro (fun _ => rfl) (Or.inl ?_))
    | (refine And.intro (fun h => Bool.noConfusion h) (Or.inl ?_))
    | (with_reducible refine And.intro (fun _ => rfl) ?_)
    | ((with_reducible refine And.intro ?_ ?_) <;> conv => whnf)
    | (refine congrArg (Value.int _) ?_)
    | (refine congrArg (SV.arr _) ?_)
    | (refine congrArg Value.bool ?_)))); all_goals (try unfold Side)
          all_goals try (repeat' (first | rfl | exact Or.inl rfl | exact Or.inr rfl | (with_reducible refine And.intro ?_ ?_) | omega | (focus ((try simp only [minL, maxL, pickB, getD_int, getD_sl, getD_bool, len_int, len_sl, len_bool, decide_eq_true_eq, decide_eq_false_iff_not, Bool.and_eq_true, Bool.or_eq_true, Bool.and_eq_false_iff, Bool.or_eq_false_iff, Bool.not_eq_true', Bool.not_eq_false', Int.toNat_natCast, Int.ofNat_lt, Int.ofNat_le, not_true_eq_false, not_false_eq_true, or_false, false_or, and_true, true_and, or_true, true_or, and_false, false_and, InK, Path.imp] at *); omega))))
          generalize hu : callsT fl ri ag a = us at g hgl
          have hz := g.zero a (Nat.le_refl _) hal
          refine W.loop (fun j : Nat => ⟨[(0, .st false (.arr (.int .i64) fl)), (1, .st false (.arr (.int .i64) ri)), (2, .st false (.arr (.int .i64) ag)), (10, .own 62000), (62, .lit (.int .i64 fl.length)), (63, .lit (.int .i64 a)),
              (12, .lit (.int .i64 (ix ag a))), (72, .lit (.int .i64 (ri.getD (ix ag a) 0))), (73, .lit (.int .i64 j))], [(62000, .row 3 (.int .i64) true (us.set (ix ag a) (top (pIx fl us (ix ag a)) j : Nat)))]⟩)
            (fun j => (j : Int) ≤ ri.getD (ix ag a) 0) (fun j => (ri.getD (ix ag a) 0).toNat - j) 0 ?_ ?_
          · refine ⟨(by have := hri.1; show ((0 : Nat) : Int) ≤ _; omega), ?_⟩
            refine ⟨rfl, ?_, ?_⟩ <;> (conv => whnf) <;> repeat' (first
    | exact trivial
    | rfl
    | (refine And.intro (fun h => h) (Or.inl ?_))
    | (refine And.intro (fun _ => rfl) (Or.inl ?_))
    | (refine And.intro (fun h => Bool.noConfusion h) (Or.inl ?_))
    | (with_reducible refine And.intro (fun _ => rfl) ?_)
    | ((with_reducible refine And.intro ?_ ?_) <;> conv => whnf)
    | (refine congrArg (Value.int _) ?_)
    | (refine congrArg (SV.arr _) ?_)
    | (refine congrArg Value.bool ?_))
            · exact hs1
            · exact (set_zero (by omega) hz).symm
          · intro j hj
            have htop := top_le (p := pIx fl us (ix ag a)) (n := j)
            have hsl : (us.set (ix ag a) (top (pIx fl us (ix ag a)) j : Nat)).length = us.length := List.length_set
            have hgd : (us.set (ix ag a) (top (pIx fl us (ix ag a)) j : Nat)).getD (ix ag a) 0 = (top (pIx fl us (ix ag a)) j : Nat) := by rw [set_getD (by omega), if_pos rfl]
            have hss : (us.set (ix ag a) (top (pIx fl us (ix ag a)) j : Nat)).set (ix ag a) ((us.set (ix ag a) (top (pIx fl us (ix ag a)) j : Nat)).getD (ix ag a) 0 + 1) = us.set (ix ag a) ((top (pIx fl us (ix ag a)) j + 1 : Nat) : Int) := by
              rw [hgd, List.set_set]; rfl
            by_cases hjl : (j : Int) < ri.getD (ix ag a) 0
            · have hw := with_at (us.set (ix ag a) (top (pIx fl us (ix ag a)) j : Nat)) (ix ag a) (by omega) (by omega) (by omega)
              rw [hss] at hw
              have hsl2 : (us.set (ix ag a) ((top (pIx fl us (ix ag a)) j + 1 : Nat) : Int)).length = us.length := List.length_set
              have hps := possible_at fl (us.set (ix ag a) ((top (pIx fl us (ix ag a)) j + 1 : Nat) : Int)) (by omega) (by have := hR.len; omega) (fun i hi => by have := hR.vf i hi; omega) (fun i hi => by
                rw [set_getD (by omega)]
                split
                · omega
                · exact (g.val i (by omega)).1)
              have hts := top_step (pIx_down (fl := fl) (us := us) (i := ix ag a) (by omega)) (n := j)
              repeat' (first
    | refine W.seq ?_
    | refine W.block ?_
    | (refine W.region tys_ok [] ?_; conv => whnf)
    | (refine W.drawAll tys_ok [] mixed rfl ?_; conv => whnf)
    | (refine W.ret ?_; conv => whnf)
    | (refine W.skip ?_; conv => whnf)
    | (refine W.exit ?_; conv => whnf)
    | (refine ⟨false, _, _, _, _, rfl, Path.imp_of (hw), rfl, rfl, rfl, ?_⟩; conv => whnf)
    | (refine ⟨false, _, _, _, _, rfl, Path.imp_of (hps), rfl, rfl, rfl, ?_⟩; conv => whnf)
    | (refine W.cond rfl (fun hb => ?_) (fun hb => ?_) <;> (try simp only [minL, maxL, pickB, getD_int, getD_sl, getD_bool, len_int, len_sl, len_bool, decide_eq_true_eq, decide_eq_false_iff_not, Bool.and_eq_true, Bool.or_eq_true, Bool.and_eq_false_iff, Bool.or_eq_false_iff, Bool.not_eq_true', Bool.not_eq_false', Int.toNat_natCast, Int.ofNat_lt, Int.ofNat_le, not_true_eq_false, not_false_eq_true, or_false, false_or, and_true, true_and, or_true, true_or, and_false, false_and] at hb) <;> (try (first | (cases hb; done) | exact absurd hb (by decide) | (exfalso; omega))))
    | ((with_reducible refine And.intro ?_ ?_); (focus ((repeat' (first | rfl | exact Or.inl rfl | exact Or.inr rfl | (with_reducible refine And.intro ?_ ?_) | omega | (focus ((try simp only [minL, maxL, pickB, getD_int, getD_sl, getD_bool, len_int, len_sl, len_bool, decide_eq_true_eq, decide_eq_false_iff_not, Bool.and_eq_true, Bool.or_eq_true, Bool.and_eq_false_iff, Bool.or_eq_false_iff, Bool.not_eq_true', Bool.not_eq_false', Int.toNat_natCast, Int.ofNat_lt, Int.ofNat_le, not_true_eq_false, not_false_eq_true, or_false, false_or, and_true, true_and, or_true, true_or, and_false, false_and, InK, Path.imp] at *); omega)))); done)); (conv => whnf))
    | ((with_reducible refine And.intro (Side.out ?_) ?_); rotate_left; (conv => whnf))
    | (refine Exists.intro _ (And.intro rfl (And.intro rfl (And.intro ?_ ?_))) <;> (conv => whnf) <;> repeat' (first
    | exact trivial
    | rfl
    | (refine And.intro (fun h => h) (Or.inl ?_))
    | (refine And.intro (fun _ => rfl) (Or.inl ?_))
    | (refine And.intro (fun h => Bool.noConfusion h) (Or.inl ?_))
    | (with_reducible refine And.intro (fun _ => rfl) ?_)
    | ((with_reducible refine And.intro ?_ ?_) <;> conv => whnf)
    | (refine congrArg (Value.int _) ?_)
    | (refine congrArg (SV.arr _) ?_)
    | (refine congrArg Value.bool ?_)))); all_goals (try unfold Side)
              all_goals try (repeat' (first | rfl | exact Or.inl rfl | exact Or.inr rfl | (with_reducible refine And.intro ?_ ?_) | omega | (focus ((try simp only [minL, maxL, pickB, getD_int, getD_sl, getD_bool, len_int, len_sl, len_bool, decide_eq_true_eq, decide_eq_false_iff_not, Bool.and_eq_true, Bool.or_eq_true, Bool.and_eq_false_iff, Bool.or_eq_false_iff, Bool.not_eq_true', Bool.not_eq_false', Int.toNat_natCast, Int.ofNat_lt, Int.ofNat_le, not_true_eq_false, not_false_eq_true, or_false, false_or, and_true, true_and, or_true, true_or, and_false, false_and, InK, Path.imp] at *); omega))))
              · have e : pIx fl us (ix ag a) (top (pIx fl us (ix ag a)) j + 1) = true := hb
                rw [e] at hts
                refine ⟨j + 1, ⟨by omega, by omega⟩, ?_⟩
                refine ⟨rfl, ?_, ?_⟩ <;> (conv => whnf) <;> repeat' (first
    | exact trivial
    | rfl
    | (refine And.intro (fun h => h) (Or.inl ?_))
    | (refine And.intro (fun _ => rfl) (Or.inl ?_))
    | (refine And.intro (fun h => Bool.noConfusion h) (Or.inl ?_))
    | (with_reducible refine And.intro (fun _ => rfl) ?_)
    | ((with_reducible refine And.intro ?_ ?_) <;> conv => whnf)
    | (refine congrArg (Value.int _) ?_)
    | (refine congrArg (SV.arr _) ?_)
    | (refine congrArg Value.bool ?_))
                rw [hts]
                rfl
              · have e : pIx fl us (ix ag a) (top (pIx fl us (ix ag a)) j + 1) = false := hb
                rw [e] at hts
                refine ⟨j + 1, ⟨by omega, by omega⟩, ?_⟩
                refine ⟨rfl, ?_, ?_⟩ <;> (conv => whnf) <;> repeat' (first
    | exact trivial
    | rfl
    | (refine And.intro (fun h => h) (Or.inl ?_))
    | (refine And.intro (fun _ => rfl) (Or.inl ?_))
    | (refine And.intro (fun h => Bool.noConfusion h) (Or.inl ?_))
    | (with_reducible refine And.intro (fun _ => rfl) ?_)
    | ((with_reducible refine And.intro ?_ ?_) <;> conv => whnf)
    | (refine congrArg (Value.int _) ?_)
    | (refine congrArg (SV.arr _) ?_)
    | (refine congrArg Value.bool ?_))
                rw [hts]
                rfl
            · have hje : j = (ri.getD (ix ag a) 0).toNat := by omega
              repeat' (first
    | refine W.seq ?_
    | refine W.block ?_
    | (refine W.region tys_ok [] ?_; conv => whnf)
    | (refine W.drawAll tys_ok [] mixed rfl ?_; conv => whnf)
    | (refine W.ret ?_; conv => whnf)
    | (refine W.skip ?_; conv => whnf)
    | (refine W.exit ?_; conv => whnf)
    | (refine W.cond rfl (fun hb => ?_) (fun hb => ?_) <;> (try simp only [minL, maxL, pickB, getD_int, getD_sl, getD_bool, len_int, len_sl, len_bool, decide_eq_true_eq, decide_eq_false_iff_not, Bool.and_eq_true, Bool.or_eq_true, Bool.and_eq_false_iff, Bool.or_eq_false_iff, Bool.not_eq_true', Bool.not_eq_false', Int.toNat_natCast, Int.ofNat_lt, Int.ofNat_le, not_true_eq_false, not_false_eq_true, or_false, false_or, and_true, true_and, or_true, true_or, and_false, false_and] at hb) <;> (try (first | (cases hb; done) | exact absurd hb (by decide) | (exfalso; omega))))
    | ((with_reducible refine And.intro ?_ ?_); (focus ((repeat' (first | rfl | exact Or.inl rfl | exact Or.inr rfl | (with_reducible refine And.intro ?_ ?_) | omega | (focus ((try simp only [minL, maxL, pickB, getD_int, getD_sl, getD_bool, len_int, len_sl, len_bool, decide_eq_true_eq, decide_eq_false_iff_not, Bool.and_eq_true, Bool.or_eq_true, Bool.and_eq_false_iff, Bool.or_eq_false_iff, Bool.not_eq_true', Bool.not_eq_false', Int.toNat_natCast, Int.ofNat_lt, Int.ofNat_le, not_true_eq_false, not_false_eq_true, or_false, false_or, and_true, true_and, or_true, true_or, and_false, false_and, InK, Path.imp] at *); omega)))); done)); (conv => whnf))
    | ((with_reducible refine And.intro (Side.out ?_) ?_); rotate_left; (conv => whnf))
    | (refine Exists.intro _ (And.intro rfl (And.intro rfl (And.intro ?_ ?_))) <;> (conv => whnf) <;> repeat' (first
    | exact trivial
    | rfl
    | (refine And.intro (fun h => h) (Or.inl ?_))
    | (refine And.intro (fun _ => rfl) (Or.inl ?_))
    | (refine And.intro (fun h => Bool.noConfusion h) (Or.inl ?_))
    | (with_reducible refine And.intro (fun _ => rfl) ?_)
    | ((with_reducible refine And.intro ?_ ?_) <;> conv => whnf)
    | (refine congrArg (Value.int _) ?_)
    | (refine congrArg (SV.arr _) ?_)
    | (refine congrArg Value.bool ?_)))); all_goals (try unfold Side)
              all_goals try (repeat' (first | rfl | exact Or.inl rfl | exact Or.inr rfl | (with_reducible refine And.intro ?_ ?_) | omega | (focus ((try simp only [minL, maxL, pickB, getD_int, getD_sl, getD_bool, len_int, len_sl, len_bool, decide_eq_true_eq, decide_eq_false_iff_not, Bool.and_eq_true, Bool.or_eq_true, Bool.and_eq_false_iff, Bool.or_eq_false_iff, Bool.not_eq_true', Bool.not_eq_false', Int.toNat_natCast, Int.ofNat_lt, Int.ofNat_le, not_true_eq_false, not_false_eq_true, or_false, false_or, and_true, true_and, or_true, true_or, and_false, false_and, InK, Path.imp] at *); omega))))
              refine ⟨a + 1, ⟨by omega, by omega⟩, ?_⟩
              refine ⟨rfl, ?_, ?_⟩ <;> (conv => whnf) <;> repeat' (first
    | exact trivial
    | rfl
    | (refine And.intro (fun h => h) (Or.inl ?_))
    | (refine And.intro (fun _ => rfl) (Or.inl ?_))
    | (refine And.intro (fun h => Bool.noConfusion h) (Or.inl ?_))
    | (with_reducible refine And.intro (fun _ => rfl) ?_)
    | ((with_reducible refine And.intro ?_ ?_) <;> conv => whnf)
    | (refine congrArg (Value.int _) ?_)
    | (refine congrArg (SV.arr _) ?_)
    | (refine congrArg Value.bool ?_))
              rw [hje, ← hu]
              rfl
        · have hi' : a = fl.length := by omega
          subst hi'
          repeat' (first
    | refine W.seq ?_
    | refine W.block ?_
    | (refine W.region tys_ok [] ?_; conv => whnf)
    | (refine W.drawAll tys_ok [] mixed rfl ?_; conv => whnf)
    | (refine W.ret ?_; conv => whnf)
    | (refine W.skip ?_; conv => whnf)
    | (refine W.exit ?_; conv => whnf)
    | (refine W.cond rfl (fun hb => ?_) (fun hb => ?_) <;> (try simp only [minL, maxL, pickB, getD_int, getD_sl, getD_bool, len_int, len_sl, len_bool, decide_eq_true_eq, decide_eq_false_iff_not, Bool.and_eq_true, Bool.or_eq_true, Bool.and_eq_false_iff, Bool.or_eq_false_iff, Bool.not_eq_true', Bool.not_eq_false', Int.toNat_natCast, Int.ofNat_lt, Int.ofNat_le, not_true_eq_false, not_false_eq_true, or_false, false_or, and_true, true_and, or_true, true_or, and_false, false_and] at hb) <;> (try (first | (cases hb; done) | exact absurd hb (by decide) | (exfalso; omega))))
    | ((with_reducible refine And.intro ?_ ?_); (focus ((repeat' (first | rfl | exact Or.inl rfl | exact Or.inr rfl | (with_reducible refine And.intro ?_ ?_) | omega | (focus ((try simp only [minL, maxL, pickB, getD_int, getD_sl, getD_bool, len_int, len_sl, len_bool, decide_eq_true_eq, decide_eq_false_iff_not, Bool.and_eq_true, Bool.or_eq_true, Bool.and_eq_false_iff, Bool.or_eq_false_iff, Bool.not_eq_true', Bool.not_eq_false', Int.toNat_natCast, Int.ofNat_lt, Int.ofNat_le, not_true_eq_false, not_false_eq_true, or_false, false_or, and_true, true_and, or_true, true_or, and_false, false_and, InK, Path.imp] at *); omega)))); done)); (conv => whnf))
    | ((with_reducible refine And.intro (Side.out ?_) ?_); rotate_left; (conv => whnf))
    | (refine Exists.intro _ (And.intro rfl (And.intro rfl (And.intro ?_ ?_))) <;> (conv => whnf) <;> repeat' (first
    | exact trivial
    | rfl
    | (refine And.intro (fun h => h) (Or.inl ?_))
    | (refine And.intro (fun _ => rfl) (Or.inl ?_))
    | (refine And.intro (fun h => Bool.noConfusion h) (Or.inl ?_))
    | (with_reducible refine And.intro (fun _ => rfl) ?_)
    | ((with_reducible refine And.intro ?_ ?_) <;> conv => whnf)
    | (refine congrArg (Value.int _) ?_)
    | (refine congrArg (SV.arr _) ?_)
    | (refine congrArg Value.bool ?_)))); all_goals (try unfold Side)
          all_goals try (repeat' (first | rfl | exact Or.inl rfl | exact Or.inr rfl | (with_reducible refine And.intro ?_ ?_) | omega | (focus ((try simp only [minL, maxL, pickB, getD_int, getD_sl, getD_bool, len_int, len_sl, len_bool, decide_eq_true_eq, decide_eq_false_iff_not, Bool.and_eq_true, Bool.or_eq_true, Bool.and_eq_false_iff, Bool.or_eq_false_iff, Bool.not_eq_true', Bool.not_eq_false', Int.toNat_natCast, Int.ofNat_lt, Int.ofNat_le, not_true_eq_false, not_false_eq_true, or_false, false_or, and_true, true_and, or_true, true_or, and_false, false_and, InK, Path.imp] at *); omega))))
          all_goals (rw [hok] <;> rfl)
