/- The best use, piece by piece: what the function returns. No condition. -/
import Derived.Test.YtohfemfgnohhdaaW4
namespace Go.Proofs.Ytohfemfgnohhdaa
open Go Go.Vc
set_option linter.unusedVariables false
set_option linter.unusedSimpArgs false

/-- Is one more piece at i possible, and worth as much as the one at 'at'? -/
def okB (fl : List Int) (gs : List (List Int)) (us : List Int) (at_ : Int) (i : Nat) : Bool :=
  decide (us.getD i 0 < (gs.getD i []).length) && decide (0 < (gs.getD i []).getD (us.getD i 0).toNat 0) && poss 0 fl (us.set i (us.getD i 0 + 1)) &&
    (decide (at_ < 0) || decide ((gs.getD at_.toNat []).getD (us.getD at_.toNat 0).toNat 0 ≤ (gs.getD i []).getD (us.getD i 0).toNat 0))
def pk (fl : List Int) (gs : List (List Int)) (us : List Int) : Nat → Int
  | 0 => -1
  | i + 1 => cond (okB fl gs us (pk fl gs us i) i) (i : Int) (pk fl gs us i)
def bestF (fl : List Int) (gs : List (List Int)) : Nat → List Int → List Int
  | 0, us => us
  | k + 1, us => cond (decide (pk fl gs us gs.length < 0)) us (bestF fl gs k (us.set (pk fl gs us gs.length).toNat (us.getD (pk fl gs us gs.length).toNat 0 + 1)))
def room : List (List Int) → List Int → Nat
  | g :: gs, u :: us => (g.length - u.toNat) + room gs us
  | _, _ => 0
theorem room_set : ∀ {gs : List (List Int)} {us : List Int} {i : Nat}, i < gs.length → i < us.length → 0 ≤ us.getD i 0 → us.getD i 0 < (gs.getD i []).length → room gs (us.set i (us.getD i 0 + 1)) + 1 = room gs us
  | g :: gs, u :: us, 0, _, _, h, h' => by
    simp only [List.getD_cons_zero] at h h'
    simp only [List.getD_cons_zero, List.set_cons_zero, room]
    omega
  | g :: gs, u :: us, i + 1, h1, h2, h, h' => by
    have := room_set (gs := gs) (us := us) (i := i) (by simpa using h1) (by simpa using h2) (by simpa using h) (by simpa using h')
    simp only [List.getD_cons_succ, List.set_cons_succ, room]
    omega
theorem pk_lt {fl : List Int} {gs : List (List Int)} {us : List Int} : ∀ i, -1 ≤ pk fl gs us i ∧ pk fl gs us i < i ∧ (0 ≤ pk fl gs us i → us.getD (pk fl gs us i).toNat 0 < (gs.getD (pk fl gs us i).toNat []).length)
  | 0 => by simp [pk]
  | i + 1 => by
    have h := pk_lt (fl := fl) (gs := gs) (us := us) i
    simp only [pk]
    cases hb : okB fl gs us (pk fl gs us i) i with
    | false => simp only [cond_false]; exact ⟨h.1, by omega, h.2.2⟩
    | true =>
      simp only [cond_true, Int.toNat_natCast]
      simp only [okB, Bool.and_eq_true, decide_eq_true_eq] at hb
      exact ⟨by omega, by omega, fun _ => hb.1.1.1⟩
theorem set_getD {us : List Int} {i j : Nat} {v : Int} (hi : i < us.length) : (us.set i v).getD j 0 = if j = i then v else us.getD j 0 := by
  simp only [List.getD_eq_getElem?_getD, List.getElem?_set]
  by_cases h : i = j
  · subst h; simp [hi]
  · simp [h, Ne.symm h]
theorem with_atI (us : List Int) (v : Int) (h0 : 0 ≤ v) (hi : v < us.length) (hn : us.length ≤ 1000) (hu : -1000000 ≤ us.getD v.toNat 0 ∧ us.getD v.toNat 0 ≤ 1000000) :
    FnAt Try.prog false 48 [.arr (.int .i64) us, .lit (.int .i64 v)] (.own 0) [(0, .row 3 (.int .i64) true (us.set v.toNat (us.getD v.toNat 0 + 1)))] := by
  obtain ⟨n, rfl⟩ := Int.eq_ofNat_of_zero_le h0
  exact with_at us n (by omega) hn hu
def bestL (fl : List Int) (gs : List (List Int)) : List Int := bestF fl gs (room gs (List.replicate fl.length 0)) (List.replicate fl.length 0)

theorem best_at (fl : List Int) (gs : List (List Int)) (hG : OkG gs) (hl : fl.length = gs.length) (hf : ∀ i, i < fl.length → 0 ≤ fl.getD i 0 ∧ fl.getD i 0 ≤ 1000) :
    FnAt Try.prog false 40 [.agg [.arr (.int .i64) fl, .arr (.sl (.int .i64)) gs]] (.own 0) [(0, .row 3 (.int .i64) true (bestL fl gs))] := by
  have hlen := hG.len
  refine FnAt.of_body tys_ok Try.func40 (by rfl) rfl Try.ntmps40 (by rw [Try.results40]) (by simp) ?_
  
  repeat' (first
    | refine W.seq ?_
    | refine W.block ?_
    | (refine W.region tys_ok [] ?_; conv => whnf)
    | (refine W.drawAll tys_ok [] mixed rfl ?_; conv => whnf)
    | (refine W.ret ?_; conv => whnf)
    | (refine W.skip ?_; conv => whnf)
    | (refine W.exit ?_; conv => whnf)
    | (refine W.cond rfl (fun hb => ?_) (fun hb => ?_) <;> (try simp only [minL, maxL, pickB, getD_int, getD_sl, getD_bool, len_int, len_sl, len_bool, decide_eq_true_eq, decide_eq_false_iff_not, Bool.and_eq_true, Bool.or_eq_true, Bool.and_eq_false_iff, Bool.or_eq_false_iff, Bool.not_eq_true', Bool.not_eq_false', Int.toNat_natCast, Int.ofNat_lt, Int.ofNat_le, not_true_eq_false, not_false_eq_true, or_false, false_or, and_true, true_and, or_true, true_or, and_false, false_and] at hb) <;> (try (first | (cases hb; done) | exact absurd hb (by decide) | (exfalso; omega))))
    | ((with_reducible refine And.intro ?_ ?_); (focus ((repeat' (first | rfl | exact Or.inl rfl | exact Or.inr rfl | (with_reducible refine And.intro ?_ ?_) | omega | (focus ((try simp only [minL, maxL, pickB, getD_int, getD_sl, getD_bool, len_int, len_sl, len_bool, decide_eq_true_eq, decide_eq_false_iff_not, Bool.and_eq_true, Bool.or_eq_true, Bool.and_eq_false_iff, Bool.or_eq_false_iff, Bool.not_eq_true', Bool.not_eq_false', Int.toNat_natCast, Int.ofNat_lt, Int.ofNat_le, not_true_eq_false, not_false_eq_true, or_false, false_or, and_true, true_and, or_true, true_or, and_false, false_and, InK, Path.imp] at *); omega)))); done)); (conv => whnf))
    | ((with_reducible refine And.intro (Side.out ?_) ?_); rotate_left; (conv => whnf))
    | (refine Exists.intro _ (And.intro rfl (And.intro rfl (And.intro ?_ ?_))) <;> (conv => whnf) <;> repeat' (first
    | exact trivial
    | rfl
    | (refine And.intro (fun h => h) (Or.inl ?_))
    | (refine And.intro (fun _ => rfl) (Or.inl ?_))
    | (refine And.intro (fun h => Bool.noConfusion h) (Or.inl ?_))
    | (with_reducible refine And.intro (fun _ => rfl) ?_)
    | ((with_reducible refine And.intro ?_ ?_) <;> conv => whnf)
    | (refine congrArg (Value.int _) ?_)
    | (refine congrArg (SV.arr _) ?_)
    | (refine congrArg Value.bool ?_)))); all_goals (try unfold Side)
  all_goals try (repeat' (first | rfl | exact Or.inl rfl | exact Or.inr rfl | (with_reducible refine And.intro ?_ ?_) | omega | (focus ((try simp only [minL, maxL, pickB, getD_int, getD_sl, getD_bool, len_int, len_sl, len_bool, decide_eq_true_eq, decide_eq_false_iff_not, Bool.and_eq_true, Bool.or_eq_true, Bool.and_eq_false_iff, Bool.or_eq_false_iff, Bool.not_eq_true', Bool.not_eq_false', Int.toNat_natCast, Int.ofNat_lt, Int.ofNat_le, not_true_eq_false, not_false_eq_true, or_false, false_or, and_true, true_and, or_true, true_or, and_false, false_and, InK, Path.imp] at *); omega))))
  refine W.loop (fun x : Nat × List Int => ⟨[(1, .padr 2000 0), (3, .own 11000)], [(2000, .box [.st false (.arr (.int .i64) fl), .st false (.arr (.sl (.int .i64)) gs)]), (11000, .row 3 (.int .i64) true x.2)]⟩)
    (fun x => x.2.length = gs.length ∧ (∀ i, i < gs.length → 0 ≤ x.2.getD i 0 ∧ x.2.getD i 0 ≤ 20) ∧ room gs x.2 = x.1 ∧ bestL fl gs = bestF fl gs x.1 x.2) (fun x => x.1) (room gs (List.replicate fl.length 0), List.replicate fl.length 0) ?_ ?_
  · refine ⟨⟨by simp [hl], ?_, rfl, rfl⟩, ?_⟩
    · intro i hi
      have : (List.replicate fl.length (0 : Int)).getD i 0 = 0 := by simp [List.getD_eq_getElem?_getD, List.getElem?_replicate]; split <;> rfl
      dsimp only
      rw [this]
      omega
    · refine ⟨rfl, ?_, ?_⟩ <;> (conv => whnf) <;> repeat' (first
    | exact trivial
    | rfl
    | (refine And.intro (fun h => h) (Or.inl ?_))
    | (refine And.intro (fun _ => rfl) (Or.inl ?_))
    | (refine And.intro (fun h => Bool.noConfusion h) (Or.inl ?_))
    | (with_reducible refine And.intro (fun _ => rfl) ?_)
    | ((with_reducible refine And.intro ?_ ?_) <;> conv => whnf)
    | (refine congrArg (Value.int _) ?_)
    | (refine congrArg (SV.arr _) ?_)
    | (refine congrArg Value.bool ?_))
  · rintro ⟨k, us⟩ ⟨hul, huv, hr, hbest⟩
    dsimp only at hul huv hr hbest ⊢
    repeat' (first
    | refine W.seq ?_
    | refine W.block ?_
    | (refine W.region tys_ok [] ?_; conv => whnf)
    | (refine W.drawAll tys_ok [] mixed rfl ?_; conv => whnf)
    | (refine W.ret ?_; conv => whnf)
    | (refine W.skip ?_; conv => whnf)
    | (refine W.exit ?_; conv => whnf)
    | (refine W.cond rfl (fun hb => ?_) (fun hb => ?_) <;> (try simp only [minL, maxL, pickB, getD_int, getD_sl, getD_bool, len_int, len_sl, len_bool, decide_eq_true_eq, decide_eq_false_iff_not, Bool.and_eq_true, Bool.or_eq_true, Bool.and_eq_false_iff, Bool.or_eq_false_iff, Bool.not_eq_true', Bool.not_eq_false', Int.toNat_natCast, Int.ofNat_lt, Int.ofNat_le, not_true_eq_false, not_false_eq_true, or_false, false_or, and_true, true_and, or_true, true_or, and_false, false_and] at hb) <;> (try (first | (cases hb; done) | exact absurd hb (by decide) | (exfalso; omega))))
    | ((with_reducible refine And.intro ?_ ?_); (focus ((repeat' (first | rfl | exact Or.inl rfl | exact Or.inr rfl | (with_reducible refine And.intro ?_ ?_) | omega | (focus ((try simp only [minL, maxL, pickB, getD_int, getD_sl, getD_bool, len_int, len_sl, len_bool, decide_eq_true_eq, decide_eq_false_iff_not, Bool.and_eq_true, Bool.or_eq_true, Bool.and_eq_false_iff, Bool.or_eq_false_iff, Bool.not_eq_true', Bool.not_eq_false', Int.toNat_natCast, Int.ofNat_lt, Int.ofNat_le, not_true_eq_false, not_false_eq_true, or_false, false_or, and_true, true_and, or_true, true_or, and_false, false_and, InK, Path.imp] at *); omega)))); done)); (conv => whnf))
    | ((with_reducible refine And.intro (Side.out ?_) ?_); rotate_left; (conv => whnf))
    | (refine Exists.intro _ (And.intro rfl (And.intro rfl (And.intro ?_ ?_))) <;> (conv => whnf) <;> repeat' (first
    | exact trivial
    | rfl
    | (refine And.intro (fun h => h) (Or.inl ?_))
    | (refine And.intro (fun _ => rfl) (Or.inl ?_))
    | (refine And.intro (fun h => Bool.noConfusion h) (Or.inl ?_))
    | (with_reducible refine And.intro (fun _ => rfl) ?_)
    | ((with_reducible refine And.intro ?_ ?_) <;> conv => whnf)
    | (refine congrArg (Value.int _) ?_)
    | (refine congrArg (SV.arr _) ?_)
    | (refine congrArg Value.bool ?_)))); all_goals (try unfold Side)
    all_goals try (repeat' (first | rfl | exact Or.inl rfl | exact Or.inr rfl | (with_reducible refine And.intro ?_ ?_) | omega | (focus ((try simp only [minL, maxL, pickB, getD_int, getD_sl, getD_bool, len_int, len_sl, len_bool, decide_eq_true_eq, decide_eq_false_iff_not, Bool.and_eq_true, Bool.or_eq_true, Bool.and_eq_false_iff, Bool.or_eq_false_iff, Bool.not_eq_true', Bool.not_eq_false', Int.toNat_natCast, Int.ofNat_lt, Int.ofNat_le, not_true_eq_false, not_false_eq_true, or_false, false_or, and_true, true_and, or_true, true_or, and_false, false_and, InK, Path.imp] at *); omega))))
    refine W.loop (fun i : Nat => ⟨[(1, .padr 2000 0), (3, .own 11000), (4, .lit (.int .i64 (pk fl gs us i))), (12, .st false (.arr (.sl (.int .i64)) gs)), (13, .lit (.int .i64 gs.length)), (14, .lit (.int .i64 i))],
        [(2000, .box [.st false (.arr (.int .i64) fl), .st false (.arr (.sl (.int .i64)) gs)]), (11000, .row 3 (.int .i64) true us)]⟩)
      (fun i => i ≤ gs.length) (fun i => gs.length - i) 0 ?_ ?_
    · refine ⟨by simp, ?_⟩
      refine ⟨rfl, ?_, ?_⟩ <;> (conv => whnf) <;> repeat' (first
    | exact trivial
    | rfl
    | (refine And.intro (fun h => h) (Or.inl ?_))
    | (refine And.intro (fun _ => rfl) (Or.inl ?_))
    | (refine And.intro (fun h => Bool.noConfusion h) (Or.inl ?_))
    | (with_reducible refine And.intro (fun _ => rfl) ?_)
    | ((with_reducible refine And.intro ?_ ?_) <;> conv => whnf)
    | (refine congrArg (Value.int _) ?_)
    | (refine congrArg (SV.arr _) ?_)
    | (refine congrArg Value.bool ?_))
    · intro i hi
      have hpk := pk_lt (fl := fl) (gs := gs) (us := us) i
      by_cases hil : i < gs.length
      · have hui := huv i hil
        have huat := huv (pk fl gs us i).toNat
        have hsl : (us.set i (us.getD i 0 + 1)).length = us.length := List.length_set
        have hset : ∀ j, j < (us.set i (us.getD i 0 + 1)).length → 0 ≤ (us.set i (us.getD i 0 + 1)).getD j 0 := by
          intro j hj
          rw [List.length_set] at hj
          rw [set_getD (by omega)]
          split
          · omega
          · exact (huv j (by omega)).1
        repeat' (first
    | refine W.seq ?_
    | refine W.block ?_
    | (refine W.region tys_ok [] ?_; conv => whnf)
    | (refine W.drawAll tys_ok [] mixed rfl ?_; conv => whnf)
    | (refine W.ret ?_; conv => whnf)
    | (refine W.skip ?_; conv => whnf)
    | (refine W.exit ?_; conv => whnf)
    | (refine ⟨false, _, _, _, _, rfl, Path.imp_of (with_at us i (by omega) (by omega) (by omega)), rfl, rfl, rfl, ?_⟩; conv => whnf)
    | (refine ⟨false, _, _, _, _, rfl, Path.imp_of (possible_at _ _ (by omega) (by omega) hf hset), rfl, rfl, rfl, ?_⟩; conv => whnf)
    | (refine W.cond rfl (fun hb => ?_) (fun hb => ?_) <;> (try simp only [minL, maxL, pickB, getD_int, getD_sl, getD_bool, len_int, len_sl, len_bool, decide_eq_true_eq, decide_eq_false_iff_not, Bool.and_eq_true, Bool.or_eq_true, Bool.and_eq_false_iff, Bool.or_eq_false_iff, Bool.not_eq_true', Bool.not_eq_false', Int.toNat_natCast, Int.ofNat_lt, Int.ofNat_le, not_true_eq_false, not_false_eq_true, or_false, false_or, and_true, true_and, or_true, true_or, and_false, false_and] at hb) <;> (try (first | (cases hb; done) | exact absurd hb (by decide) | (exfalso; omega))))
    | ((with_reducible refine And.intro ?_ ?_); (focus ((repeat' (first | rfl | exact Or.inl rfl | exact Or.inr rfl | (with_reducible refine And.intro ?_ ?_) | omega | (focus ((try simp only [minL, maxL, pickB, getD_int, getD_sl, getD_bool, len_int, len_sl, len_bool, decide_eq_true_eq, decide_eq_false_iff_not, Bool.and_eq_true, Bool.or_eq_true, Bool.and_eq_false_iff, Bool.or_eq_false_iff, Bool.not_eq_true', Bool.not_eq_false', Int.toNat_natCast, Int.ofNat_lt, Int.ofNat_le, not_true_eq_false, not_false_eq_true, or_false, false_or, and_true, true_and, or_true, true_or, and_false, false_and, InK, Path.imp] at *); omega)))); done)); (conv => whnf))
    | ((with_reducible refine And.intro (Side.out ?_) ?_); rotate_left; (conv => whnf))
    | (refine Exists.intro _ (And.intro rfl (And.intro rfl (And.intro ?_ ?_))) <;> (conv => whnf) <;> repeat' (first
    | exact trivial
    | rfl
    | (refine And.intro (fun h => h) (Or.inl ?_))
    | (refine And.intro (fun _ => rfl) (Or.inl ?_))
    | (refine And.intro (fun h => Bool.noConfusion h) (Or.inl ?_))
    | (with_reducible refine And.intro (fun _ => rfl) ?_)
    | ((with_reducible refine And.intro ?_ ?_) <;> conv => whnf)
    | (refine congrArg (Value.int _) ?_)
    | (refine congrArg (SV.arr _) ?_)
    | (refine congrArg Value.bool ?_)))); all_goals (try unfold Side)
        all_goals try (repeat' (first | rfl | exact Or.inl rfl | exact Or.inr rfl | (with_reducible refine And.intro ?_ ?_) | omega | (focus ((try simp only [minL, maxL, pickB, getD_int, getD_sl, getD_bool, len_int, len_sl, len_bool, decide_eq_true_eq, decide_eq_false_iff_not, Bool.and_eq_true, Bool.or_eq_true, Bool.and_eq_false_iff, Bool.or_eq_false_iff, Bool.not_eq_true', Bool.not_eq_false', Int.toNat_natCast, Int.ofNat_lt, Int.ofNat_le, not_true_eq_false, not_false_eq_true, or_false, false_or, and_true, true_and, or_true, true_or, and_false, false_and, InK, Path.imp] at *); omega))))
        · rename_i hb
          have hok : okB fl gs us (pk fl gs us i) i = true := by simp only [okB, Bool.and_eq_true, Bool.or_eq_true, decide_eq_true_eq]; exact hb
          have hp1 : (i : Int) = pk fl gs us (i + 1) := by simp only [pk, hok, cond_true]
          refine ⟨i + 1, ⟨by omega, by omega⟩, ?_⟩
          refine ⟨rfl, ?_, ?_⟩ <;> (conv => whnf) <;> repeat' (first
    | exact trivial
    | rfl
    | (refine And.intro (fun h => h) (Or.inl ?_))
    | (refine And.intro (fun _ => rfl) (Or.inl ?_))
    | (refine And.intro (fun h => Bool.noConfusion h) (Or.inl ?_))
    | (with_reducible refine And.intro (fun _ => rfl) ?_)
    | ((with_reducible refine And.intro ?_ ?_) <;> conv => whnf)
    | (refine congrArg (Value.int _) ?_)
    | (refine congrArg (SV.arr _) ?_)
    | (refine congrArg Value.bool ?_))
          exact hp1
        · rename_i hb
          have hok : okB fl gs us (pk fl gs us i) i = false := by simp only [okB, Bool.and_eq_false_iff, Bool.or_eq_false_iff, decide_eq_false_iff_not]; exact hb
          have hp1 : pk fl gs us i = pk fl gs us (i + 1) := by simp only [pk, hok, cond_false]
          refine ⟨i + 1, ⟨by omega, by omega⟩, ?_⟩
          refine ⟨rfl, ?_, ?_⟩ <;> (conv => whnf) <;> repeat' (first
    | exact trivial
    | rfl
    | (refine And.intro (fun h => h) (Or.inl ?_))
    | (refine And.intro (fun _ => rfl) (Or.inl ?_))
    | (refine And.intro (fun h => Bool.noConfusion h) (Or.inl ?_))
    | (with_reducible refine And.intro (fun _ => rfl) ?_)
    | ((with_reducible refine And.intro ?_ ?_) <;> conv => whnf)
    | (refine congrArg (Value.int _) ?_)
    | (refine congrArg (SV.arr _) ?_)
    | (refine congrArg Value.bool ?_))
          exact hp1
      · have hi' : i = gs.length := by omega
        subst hi'
        have huat := huv (pk fl gs us gs.length).toNat
        repeat' (first
    | refine W.seq ?_
    | refine W.block ?_
    | (refine W.region tys_ok [] ?_; conv => whnf)
    | (refine W.drawAll tys_ok [] mixed rfl ?_; conv => whnf)
    | (refine W.ret ?_; conv => whnf)
    | (refine W.skip ?_; conv => whnf)
    | (refine W.exit ?_; conv => whnf)
    | (refine ⟨false, _, _, _, _, rfl, Path.imp_of (with_atI us (pk fl gs us gs.length) (by omega) (by omega) (by omega) (by omega)), rfl, rfl, rfl, ?_⟩; conv => whnf)
    | (refine W.cond rfl (fun hb => ?_) (fun hb => ?_) <;> (try simp only [minL, maxL, pickB, getD_int, getD_sl, getD_bool, len_int, len_sl, len_bool, decide_eq_true_eq, decide_eq_false_iff_not, Bool.and_eq_true, Bool.or_eq_true, Bool.and_eq_false_iff, Bool.or_eq_false_iff, Bool.not_eq_true', Bool.not_eq_false', Int.toNat_natCast, Int.ofNat_lt, Int.ofNat_le, not_true_eq_false, not_false_eq_true, or_false, false_or, and_true, true_and, or_true, true_or, and_false, false_and] at hb) <;> (try (first | (cases hb; done) | exact absurd hb (by decide) | (exfalso; omega))))
    | ((with_reducible refine And.intro ?_ ?_); (focus ((repeat' (first | rfl | exact Or.inl rfl | exact Or.inr rfl | (with_reducible refine And.intro ?_ ?_) | omega | (focus ((try simp only [minL, maxL, pickB, getD_int, getD_sl, getD_bool, len_int, len_sl, len_bool, decide_eq_true_eq, decide_eq_false_iff_not, Bool.and_eq_true, Bool.or_eq_true, Bool.and_eq_false_iff, Bool.or_eq_false_iff, Bool.not_eq_true', Bool.not_eq_false', Int.toNat_natCast, Int.ofNat_lt, Int.ofNat_le, not_true_eq_false, not_false_eq_true, or_false, false_or, and_true, true_and, or_true, true_or, and_false, false_and, InK, Path.imp] at *); omega)))); done)); (conv => whnf))
    | ((with_reducible refine And.intro (Side.out ?_) ?_); rotate_left; (conv => whnf))
    | (refine Exists.intro _ (And.intro rfl (And.intro rfl (And.intro ?_ ?_))) <;> (conv => whnf) <;> repeat' (first
    | exact trivial
    | rfl
    | (refine And.intro (fun h => h) (Or.inl ?_))
    | (refine And.intro (fun _ => rfl) (Or.inl ?_))
    | (refine And.intro (fun h => Bool.noConfusion h) (Or.inl ?_))
    | (with_reducible refine And.intro (fun _ => rfl) ?_)
    | ((with_reducible refine And.intro ?_ ?_) <;> conv => whnf)
    | (refine congrArg (Value.int _) ?_)
    | (refine congrArg (SV.arr _) ?_)
    | (refine congrArg Value.bool ?_)))); all_goals (try unfold Side)
        all_goals try (repeat' (first | rfl | exact Or.inl rfl | exact Or.inr rfl | (with_reducible refine And.intro ?_ ?_) | omega | (focus ((try simp only [minL, maxL, pickB, getD_int, getD_sl, getD_bool, len_int, len_sl, len_bool, decide_eq_true_eq, decide_eq_false_iff_not, Bool.and_eq_true, Bool.or_eq_true, Bool.and_eq_false_iff, Bool.or_eq_false_iff, Bool.not_eq_true', Bool.not_eq_false', Int.toNat_natCast, Int.ofNat_lt, Int.ofNat_le, not_true_eq_false, not_false_eq_true, or_false, false_or, and_true, true_and, or_true, true_or, and_false, false_and, InK, Path.imp] at *); omega))))
        · have : bestF fl gs k us = us := by
            cases k with
            | zero => rfl
            | succ k => simp only [bestF, hb, decide_true, cond_true]
          exact (hbest.trans this).symm
        · have h3 := room_set (gs := gs) (us := us) (i := (pk fl gs us gs.length).toNat) (by omega) (by omega) (by omega) (by omega)
          cases k with
          | zero => omega
          | succ k =>
            refine ⟨(k, us.set (pk fl gs us gs.length).toNat (us.getD (pk fl gs us gs.length).toNat 0 + 1)), ⟨⟨?_, ?_, ?_, ?_⟩, ?_⟩, ?_⟩
            · dsimp only; rw [List.length_set]; exact hul
            · intro j hj
              dsimp only
              rw [set_getD (by omega)]
              have := hG.lens (pk fl gs us gs.length).toNat (by omega)
              split
              · omega
              · exact huv j hj
            · dsimp only; omega
            · dsimp only
              rw [hbest]
              have : decide (pk fl gs us gs.length < 0) = false := by simp only [decide_eq_false_iff_not]; exact hb
              simp only [bestF, this, cond_false]
            · dsimp only; omega
            · refine ⟨rfl, ?_, ?_⟩ <;> (conv => whnf) <;> repeat' (first
    | exact trivial
    | rfl
    | (refine And.intro (fun h => h) (Or.inl ?_))
    | (refine And.intro (fun _ => rfl) (Or.inl ?_))
    | (refine And.intro (fun h => Bool.noConfusion h) (Or.inl ?_))
    | (with_reducible refine And.intro (fun _ => rfl) ?_)
    | ((with_reducible refine And.intro ?_ ?_) <;> conv => whnf)
    | (refine congrArg (Value.int _) ?_)
    | (refine congrArg (SV.arr _) ?_)
    | (refine congrArg Value.bool ?_))
