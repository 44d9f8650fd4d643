/- Joined of: S5 S6 S7 S8 S9. No condition. -/
import Derived.Test.YtdfajcfkdfjoeaaJ4
import Derived.Test.YtdfajcfkdfjoeaaJ3

/- A list that is no word is read. No condition. -/
namespace Go.Proofs.Ytdfajcfkdfjoeaa
open Go Go.Vc Go.Scr
set_option linter.unusedVariables false
set_option linter.unusedSimpArgs false

set_option maxHeartbeats 2000000 in
theorem read_bad {w : List Int} (hw : ¬ checkT w = 0) (hl : w.length ≤ 1000) : FnAt Try.prog true 44 [.arr (.int .i64) w] (.tup [.lit (.pointer none), .lit (.int .i64 (checkT w))]) [] := by
  obtain ⟨n, hn⟩ : ∃ n : Nat, n = w.length / 2 := ⟨_, rfl⟩
  have hd : Int.tdiv (@List.length (Ty.int .i64).T w) 2 = n := by
    show Int.tdiv (w.length : Int) 2 = n
    rw [Int.tdiv_eq_ediv_of_nonneg (by omega)]; omega
  have hr : Int.tmod (@List.length (Ty.int .i64).T w) 2 = (w.length % 2 : Nat) := by
    show Int.tmod (w.length : Int) 2 = _
    rw [Int.tmod_eq_emod_of_nonneg (by omega)]; omega
  have c3 : 20 < w.length → checkT w = 3 := fun h => by rw [checkT, if_pos h]
  have c2 : ¬ 20 < w.length → checkT w = 2 := fun h1 => by rcases checkT_cases w with h | h | h; exact absurd h hw; exact h; rw [checkT, if_neg h1] at h; split at h <;> cases h
  have hP : ∀ k, @List.length (Ty.sl (.int .i64)).T (PKT w n k) = n := fun k => PKT_len
  refine FnAt.of_body tys_ok Try.func44 (by rfl) rfl Try.ntmps44 (by rw [Try.results44]) (by simp) ?_
  
  repeat' (first
 | refine W.seq ?_
 | refine W.block ?_
 | (refine W.region tys_ok [0, 27] ?_; conv => whnf)
 | (refine W.drawAll tys_ok [0, 27] mixed rfl ?_; conv => whnf)
 | (refine W.ret ?_; conv => whnf)
 | (refine W.skip ?_; conv => whnf)
 | (refine W.exit ?_; conv => whnf)

    | (refine W.cond rfl (fun hb => ?_) (fun hb => ?_) <;> (try simp only [Int.reduceToNat, Int.reduceTDiv, Int.reduceTMod, List.getD_cons_zero, List.getD_cons_succ, minL, maxL, pickB, getD_int, getD_sl, getD_bool, len_int, len_sl, len_bool, decide_eq_true_eq, decide_eq_false_iff_not, Bool.and_eq_true, Bool.or_eq_true, Bool.and_eq_false_iff, Bool.or_eq_false_iff, Bool.not_eq_true', Bool.not_eq_false', Bool.true_eq_false, Bool.false_eq_true, Int.toNat_natCast, Int.ofNat_lt, Int.ofNat_le, not_true_eq_false, not_false_eq_true, or_false, false_or, and_true, true_and, or_true, true_or, and_false, false_and] at hb) <;> (try (first | (cases hb; done) | exact absurd hb (by decide) | (exfalso; omega))))
    | ((with_reducible refine And.intro ?_ ?_); (focus ((repeat' (first | (with_reducible rfl) | (with_reducible refine And.intro ?_ ?_) | omega | rfl | exact Or.inl rfl | exact Or.inr rfl | exact of_decide_eq_true rfl | exact Path.imp_of (of_decide_eq_true rfl) | (focus ((try simp only [Int.reduceToNat, Int.reduceTDiv, Int.reduceTMod, List.getD_cons_zero, List.getD_cons_succ, minL, maxL, pickB, getD_int, getD_sl, getD_bool, len_int, len_sl, len_bool, decide_eq_true_eq, decide_eq_false_iff_not, Bool.and_eq_true, Bool.or_eq_true, Bool.and_eq_false_iff, Bool.or_eq_false_iff, Bool.not_eq_true', Bool.not_eq_false', Bool.true_eq_false, Bool.false_eq_true, Int.toNat_natCast, Int.ofNat_lt, Int.ofNat_le, not_true_eq_false, not_false_eq_true, or_false, false_or, and_true, true_and, or_true, true_or, and_false, false_and, InK, Path.imp, List.length_replicate, List.length_set, List.length_append, List.length_cons, List.length_nil] at *); omega)) | (refine app_le rfl ?_; omega))); done)); (conv => whnf))
    | ((with_reducible refine And.intro (Side.out ?_) ?_); rotate_left; (conv => whnf))
    | (refine retF1 ?_ <;> (conv => whnf) <;> repeat' (first
 | exact trivial
 | (with_reducible rfl)
 | ((with_reducible refine And.intro ?_ ?_) <;> conv => whnf)
 | omega
 | rfl
 | (refine congrArg (SV.arr _) ?_)
 | (refine congrArg (Value.int _) ?_)
 | (refine congrArg Value.bool ?_)))
 | (refine retF2 ?_ <;> (conv => whnf) <;> repeat' (first
 | exact trivial
 | (with_reducible rfl)
 | ((with_reducible refine And.intro ?_ ?_) <;> conv => whnf)
 | omega
 | rfl
 | (refine congrArg (SV.arr _) ?_)
 | (refine congrArg (Value.int _) ?_)
 | (refine congrArg Value.bool ?_)))); all_goals (try unfold Side)
  all_goals try (repeat' (first | (with_reducible rfl) | (with_reducible refine And.intro ?_ ?_) | omega | rfl | exact Or.inl rfl | exact Or.inr rfl | exact of_decide_eq_true rfl | exact Path.imp_of (of_decide_eq_true rfl) | (focus ((try simp only [Int.reduceToNat, Int.reduceTDiv, Int.reduceTMod, List.getD_cons_zero, List.getD_cons_succ, minL, maxL, pickB, getD_int, getD_sl, getD_bool, len_int, len_sl, len_bool, decide_eq_true_eq, decide_eq_false_iff_not, Bool.and_eq_true, Bool.or_eq_true, Bool.and_eq_false_iff, Bool.or_eq_false_iff, Bool.not_eq_true', Bool.not_eq_false', Bool.true_eq_false, Bool.false_eq_true, Int.toNat_natCast, Int.ofNat_lt, Int.ofNat_le, not_true_eq_false, not_false_eq_true, or_false, false_or, and_true, true_and, or_true, true_or, and_false, false_and, InK, Path.imp, List.length_replicate, List.length_set, List.length_append, List.length_cons, List.length_nil] at *); omega)) | (refine app_le rfl ?_; omega)))
  have hev : w.length = 2 * n ∧ 1 ≤ n := by
    obtain ⟨h1, h2⟩ := hb
    have hd' : Int.tdiv (w.length : Int) 2 = n := hd
    have hr' : Int.tmod (w.length : Int) 2 = (w.length % 2 : Nat) := hr
    rw [hd'] at h1; rw [hr'] at h2; omega
  have h20 : w.length ≤ 20 := by omega
  refine W.loop (fun i : Nat => ⟨[(0, .st true (.arr (.int .i64) (w : List Int))), (4, .lit (.int .i64 (n))), (5, .padr 30000 0), (30, .st true (.arr (.int .i64) (w : List Int))), (31, .lit (.int .i64 (@List.length (Ty.int .i64).T w))), (32, .lit (.int .i64 (i)))], [(28000, .mat 22 3 (.int .i64) true (PKT w n i : List (List Int)) none), (30000, .box [.lit (.int .i64 n), .st true (.arr (.int .i64) w), .mown 28000])]⟩) (fun i => i ≤ 2 * n ∧ ∀ k, k < i → goodAt w n k) (fun i => 2 * n - i) (0) ?_ ?_
  · refine ⟨⟨Nat.zero_le _, by omega⟩, ?_⟩
    refine subF.ok ?_ <;> (conv => whnf) <;> repeat' (first
 | exact trivial
 | (with_reducible rfl)
 | ((with_reducible refine And.intro ?_ ?_) <;> conv => whnf)
 | omega
 | rfl
 | (refine congrArg (SV.arr _) ?_)
 | (refine congrArg (Value.int _) ?_)
 | (refine congrArg Value.bool ?_))
    · rw [hd]; exact PKT_zero.symm
  · rintro i ⟨hi, hgood⟩
    have hPi := hP i
    have hPi2 : @List.length (List (Ty.int .i64).T) (PKT w n i) = n := hPi
    by_cases hil : i < 2 * n
    · by_cases hx : 0 ≤ w.getD i 0 ∧ w.getD i 0 < n
      · obtain ⟨x, hx'⟩ : ∃ x : Nat, w.getD i 0 = (x : Int) := ⟨(w.getD i 0).toNat, by omega⟩
        have hxn : x < n := by omega
        have hgx : (PKT w n i).getD x [] = placesK w x i := PKT_get hxn
        have hst := PKT_step hxn hx'
        have hle := placesK_len (w := w) (v := x) (k := i)
        have hle' : @List.length (Ty.int .i64).T (@List.getD (List (Ty.int .i64).T) (PKT w n i) x []) ≤ i := by
          show ((PKT w n i).getD x []).length ≤ i
          rw [hgx]; exact hle
        have hs0 : ∀ y : List Int, x < ((PKT w n i).set x y).length := fun y => by rw [List.length_set, PKT_len]; exact hxn
        have hsl : ∀ y : List (Ty.int .i64).T, x < (@List.set (List (Ty.int .i64).T) (PKT w n i) x y).length := fun y => hs0 y
        repeat' (first
 | refine W.seq ?_
 | refine W.block ?_
 | (refine W.resub (x := Code.region 10 _ _) (Γ' := ⟨[(0, .st true (.arr (.int .i64) (w : List Int))), (4, .lit (.int .i64 (n))), (5, .padr 30000 0), (30, .st true (.arr (.int .i64) (w : List Int))), (31, .lit (.int .i64 (@List.length (Ty.int .i64).T w))), (32, .lit (.int .i64 (i))), (6, .lit (.int .i64 (i))), (7, .lit (.int .i64 (x)))], [(28000, .mat 22 3 (.int .i64) true (PKT w n i : List (List Int)) none), (30000, .box [.lit (.int .i64 n), .st true (.arr (.int .i64) w), .mown 28000])]⟩) ?_ (W.region tys_ok [] ?_); rotate_left; (conv => whnf))
 | (refine W.drawPhTo (id := 12) tys_ok [] mixed [0, 1, 2, 4, 0, 0, 32, 64, 128, 0, 768, 1024, 0, 4096, 10240, 32767, 65535] [([0, 1, 2, 4, 5, 6, 7, 9, 12], 6, 32767), ([15], 1, 131071)] ⟨[(0, .st true (.arr (.int .i64) (w : List Int))), (4, .lit (.int .i64 (n))), (5, .padr 30000 0), (30, .st true (.arr (.int .i64) (w : List Int))), (31, .lit (.int .i64 (@List.length (Ty.int .i64).T w))), (32, .lit (.int .i64 (i)))], [(28000, .mat 22 3 (.int .i64) true (PKT w n (i + 1) : List (List Int)) none), (30000, .box [.lit (.int .i64 n), .st true (.arr (.int .i64) w), .mown 28000])]⟩ (by decide +kernel) ?_ ?_ <;> (conv => whnf))
 | (refine W.region tys_ok [] ?_; conv => whnf)
 | (refine W.drawAll tys_ok [] mixed rfl ?_; conv => whnf)
 | (refine W.ret ?_; conv => whnf)
 | (refine W.skip ?_; conv => whnf)
 | (refine W.exit ?_; conv => whnf)

    | (refine Both.mk ?_ ?_ <;> (conv => whnf))
    | (refine subF.leaf ?_ <;> (conv => whnf) <;> repeat' (first
 | exact trivial
 | (with_reducible rfl)
 | ((with_reducible refine And.intro ?_ ?_) <;> conv => whnf)
 | omega
 | rfl
 | (refine congrArg (SV.arr _) ?_)
 | (refine congrArg (Value.int _) ?_)
 | (refine congrArg Value.bool ?_)))
 | (refine subF.side ?_ <;> (conv => whnf) <;> repeat' (first
 | exact trivial
 | (with_reducible rfl)
 | ((with_reducible refine And.intro ?_ ?_) <;> conv => whnf)
 | omega
 | rfl
 | (refine congrArg (SV.arr _) ?_)
 | (refine congrArg (Value.int _) ?_)
 | (refine congrArg Value.bool ?_)))
 | (refine W.cond rfl (fun hb => ?_) (fun hb => ?_) <;> (try simp only [Int.reduceToNat, Int.reduceTDiv, Int.reduceTMod, List.getD_cons_zero, List.getD_cons_succ, minL, maxL, pickB, getD_int, getD_sl, getD_bool, len_int, len_sl, len_bool, decide_eq_true_eq, decide_eq_false_iff_not, Bool.and_eq_true, Bool.or_eq_true, Bool.and_eq_false_iff, Bool.or_eq_false_iff, Bool.not_eq_true', Bool.not_eq_false', Bool.true_eq_false, Bool.false_eq_true, Int.toNat_natCast, Int.ofNat_lt, Int.ofNat_le, not_true_eq_false, not_false_eq_true, or_false, false_or, and_true, true_and, or_true, true_or, and_false, false_and] at hb) <;> (try (first | (cases hb; done) | exact absurd hb (by decide) | (exfalso; omega))))
 | ((with_reducible refine And.intro ?_ ?_); (focus ((repeat' (first | (with_reducible rfl) | (with_reducible refine And.intro ?_ ?_) | omega | rfl | exact Or.inl rfl | exact Or.inr rfl | exact of_decide_eq_true rfl | exact Path.imp_of (of_decide_eq_true rfl) | (focus ((try simp only [Int.reduceToNat, Int.reduceTDiv, Int.reduceTMod, List.getD_cons_zero, List.getD_cons_succ, minL, maxL, pickB, getD_int, getD_sl, getD_bool, len_int, len_sl, len_bool, decide_eq_true_eq, decide_eq_false_iff_not, Bool.and_eq_true, Bool.or_eq_true, Bool.and_eq_false_iff, Bool.or_eq_false_iff, Bool.not_eq_true', Bool.not_eq_false', Bool.true_eq_false, Bool.false_eq_true, Int.toNat_natCast, Int.ofNat_lt, Int.ofNat_le, not_true_eq_false, not_false_eq_true, or_false, false_or, and_true, true_and, or_true, true_or, and_false, false_and, InK, Path.imp, List.length_replicate, List.length_set, List.length_append, List.length_cons, List.length_nil] at *); omega)) | (refine app_le rfl ?_; omega))); done)); (conv => whnf))
 | ((with_reducible refine And.intro (Side.out ?_) ?_); rotate_left; (conv => whnf))
 | (refine retF1 ?_ <;> (conv => whnf) <;> repeat' (first
 | exact trivial
 | (with_reducible rfl)
 | ((with_reducible refine And.intro ?_ ?_) <;> conv => whnf)
 | omega
 | rfl
 | (refine congrArg (SV.arr _) ?_)
 | (refine congrArg (Value.int _) ?_)
 | (refine congrArg Value.bool ?_)))
 | (refine retF2 ?_ <;> (conv => whnf) <;> repeat' (first
 | exact trivial
 | (with_reducible rfl)
 | ((with_reducible refine And.intro ?_ ?_) <;> conv => whnf)
 | omega
 | rfl
 | (refine congrArg (SV.arr _) ?_)
 | (refine congrArg (Value.int _) ?_)
 | (refine congrArg Value.bool ?_)))); all_goals (try unfold Side)
        all_goals try (repeat' (first | (with_reducible rfl) | (with_reducible refine And.intro ?_ ?_) | omega | rfl | exact Or.inl rfl | exact Or.inr rfl | exact of_decide_eq_true rfl | exact Path.imp_of (of_decide_eq_true rfl) | (focus ((try simp only [Int.reduceToNat, Int.reduceTDiv, Int.reduceTMod, List.getD_cons_zero, List.getD_cons_succ, minL, maxL, pickB, getD_int, getD_sl, getD_bool, len_int, len_sl, len_bool, decide_eq_true_eq, decide_eq_false_iff_not, Bool.and_eq_true, Bool.or_eq_true, Bool.and_eq_false_iff, Bool.or_eq_false_iff, Bool.not_eq_true', Bool.not_eq_false', Bool.true_eq_false, Bool.false_eq_true, Int.toNat_natCast, Int.ofNat_lt, Int.ofNat_le, not_true_eq_false, not_false_eq_true, or_false, false_or, and_true, true_and, or_true, true_or, and_false, false_and, InK, Path.imp, List.length_replicate, List.length_set, List.length_append, List.length_cons, List.length_nil] at *); omega)) | (refine app_le rfl ?_; omega)))
        all_goals try exact hst
        all_goals try exact hsl _
        all_goals try exact Path.imp_of ⟨Int.natCast_nonneg _, hsl _⟩
        all_goals try (exact app_le rfl (Nat.le_trans (Nat.succ_le_succ hle') (by omega)))
        refine ⟨i + 1, ⟨⟨by omega, fun k hk => ?_⟩, by omega⟩, ?_⟩
        · by_cases e : k = i
          · subst e
            refine ⟨by simpa [inR] using hx, ?_⟩
            rw [hx', ← hgx]
            intro e2
            exact hb.2 (by show (((PKT w n k).getD x []).length : Int) = 2; omega)
          · exact hgood k (by omega)
        · refine subF.ok ?_ <;> (conv => whnf) <;> repeat' (first
 | exact trivial
 | (with_reducible rfl)
 | ((with_reducible refine And.intro ?_ ?_) <;> conv => whnf)
 | omega
 | rfl
 | (refine congrArg (SV.arr _) ?_)
 | (refine congrArg (Value.int _) ?_)
 | (refine congrArg Value.bool ?_))
      · repeat' (first
 | refine W.seq ?_
 | refine W.block ?_
 | (refine W.region tys_ok [] ?_; conv => whnf)
 | (refine W.drawAll tys_ok [] mixed rfl ?_; conv => whnf)
 | (refine W.ret ?_; conv => whnf)
 | (refine W.skip ?_; conv => whnf)
 | (refine W.exit ?_; conv => whnf)

    | (refine W.cond rfl (fun hb => ?_) (fun hb => ?_) <;> (try simp only [Int.reduceToNat, Int.reduceTDiv, Int.reduceTMod, List.getD_cons_zero, List.getD_cons_succ, minL, maxL, pickB, getD_int, getD_sl, getD_bool, len_int, len_sl, len_bool, decide_eq_true_eq, decide_eq_false_iff_not, Bool.and_eq_true, Bool.or_eq_true, Bool.and_eq_false_iff, Bool.or_eq_false_iff, Bool.not_eq_true', Bool.not_eq_false', Bool.true_eq_false, Bool.false_eq_true, Int.toNat_natCast, Int.ofNat_lt, Int.ofNat_le, not_true_eq_false, not_false_eq_true, or_false, false_or, and_true, true_and, or_true, true_or, and_false, false_and] at hb) <;> (try (first | (cases hb; done) | exact absurd hb (by decide) | (exfalso; omega))))
    | ((with_reducible refine And.intro ?_ ?_); (focus ((repeat' (first | (with_reducible rfl) | (with_reducible refine And.intro ?_ ?_) | omega | rfl | exact Or.inl rfl | exact Or.inr rfl | exact of_decide_eq_true rfl | exact Path.imp_of (of_decide_eq_true rfl) | (focus ((try simp only [Int.reduceToNat, Int.reduceTDiv, Int.reduceTMod, List.getD_cons_zero, List.getD_cons_succ, minL, maxL, pickB, getD_int, getD_sl, getD_bool, len_int, len_sl, len_bool, decide_eq_true_eq, decide_eq_false_iff_not, Bool.and_eq_true, Bool.or_eq_true, Bool.and_eq_false_iff, Bool.or_eq_false_iff, Bool.not_eq_true', Bool.not_eq_false', Bool.true_eq_false, Bool.false_eq_true, Int.toNat_natCast, Int.ofNat_lt, Int.ofNat_le, not_true_eq_false, not_false_eq_true, or_false, false_or, and_true, true_and, or_true, true_or, and_false, false_and, InK, Path.imp, List.length_replicate, List.length_set, List.length_append, List.length_cons, List.length_nil] at *); omega)) | (refine app_le rfl ?_; omega))); done)); (conv => whnf))
    | ((with_reducible refine And.intro (Side.out ?_) ?_); rotate_left; (conv => whnf))
    | (refine retF1 ?_ <;> (conv => whnf) <;> repeat' (first
 | exact trivial
 | (with_reducible rfl)
 | ((with_reducible refine And.intro ?_ ?_) <;> conv => whnf)
 | omega
 | rfl
 | (refine congrArg (SV.arr _) ?_)
 | (refine congrArg (Value.int _) ?_)
 | (refine congrArg Value.bool ?_)))
 | (refine retF2 ?_ <;> (conv => whnf) <;> repeat' (first
 | exact trivial
 | (with_reducible rfl)
 | ((with_reducible refine And.intro ?_ ?_) <;> conv => whnf)
 | omega
 | rfl
 | (refine congrArg (SV.arr _) ?_)
 | (refine congrArg (Value.int _) ?_)
 | (refine congrArg Value.bool ?_)))); all_goals (try unfold Side)
        all_goals try (repeat' (first | (with_reducible rfl) | (with_reducible refine And.intro ?_ ?_) | omega | rfl | exact Or.inl rfl | exact Or.inr rfl | exact of_decide_eq_true rfl | exact Path.imp_of (of_decide_eq_true rfl) | (focus ((try simp only [Int.reduceToNat, Int.reduceTDiv, Int.reduceTMod, List.getD_cons_zero, List.getD_cons_succ, minL, maxL, pickB, getD_int, getD_sl, getD_bool, len_int, len_sl, len_bool, decide_eq_true_eq, decide_eq_false_iff_not, Bool.and_eq_true, Bool.or_eq_true, Bool.and_eq_false_iff, Bool.or_eq_false_iff, Bool.not_eq_true', Bool.not_eq_false', Bool.true_eq_false, Bool.false_eq_true, Int.toNat_natCast, Int.ofNat_lt, Int.ofNat_le, not_true_eq_false, not_false_eq_true, or_false, false_or, and_true, true_and, or_true, true_or, and_false, false_and, InK, Path.imp, List.length_replicate, List.length_set, List.length_append, List.length_cons, List.length_nil] at *); omega)) | (refine app_le rfl ?_; omega)))
    · have hie : 2 * n = i := by omega
      subst hie
      refine absurd ?_ hw
      exact checkT_of (good_word hev.1 hev.2 hgood) (by omega)
end Go.Proofs.Ytdfajcfkdfjoeaa
/- Signs; a word with signs is read. No condition. -/
namespace Go.Proofs.Ytdfajcfkdfjoeaa
open Go Go.Vc Go.Scr
set_option linter.unusedVariables false
set_option linter.unusedSimpArgs false

/-- Each is 1 or -1. -/
def sgnB (s : List Int) : Bool := s.all fun x => decide (x = 1) || decide (x = -1)
def signsB (s : List Int) (n : Nat) : Bool := sgnB s && decide (s.length = n)
theorem sgnB_take {s : List Int} {i : Nat} (h : i < s.length) : sgnB (s.take (i + 1)) = (sgnB (s.take i) && (decide (s.getD i 0 = 1) || decide (s.getD i 0 = -1))) := by
  rw [take_getD h, sgnB, List.all_append]; simp [sgnB]
theorem sgnB_not {s : List Int} {i : Nat} (h : i < s.length) (h1 : ¬ s.getD i 0 = 1) (h2 : ¬ s.getD i 0 = -1) : sgnB s = false := by
  have hm : s.getD i 0 ∈ s := by rw [List.getD_eq_getElem?_getD, List.getElem?_eq_getElem h]; exact List.getElem_mem h
  refine List.all_eq_false.2 ⟨_, hm, ?_⟩
  simp only [Bool.or_eq_true, decide_eq_true_eq]
  rintro (h | h)
  · exact h1 h
  · exact h2 h
theorem signs_ref (s : List Int) (n : Nat) (hl : s.length ≤ 1000) : FnAt Try.prog false 50 [.arr (.int .i64) s, .lit (.int .i64 n)] (.lit (.bool (signsB s n))) [] := by
  refine FnAt.of_body tys_ok Try.func50 (by rfl) rfl Try.ntmps50 (by rw [Try.results50]) (by simp) ?_
  
  repeat' (first
 | refine W.seq ?_
 | refine W.block ?_
 | (refine W.region tys_ok [] ?_; conv => whnf)
 | (refine W.drawAll tys_ok [] mixed rfl ?_; conv => whnf)
 | (refine W.ret ?_; conv => whnf)
 | (refine W.skip ?_; conv => whnf)
 | (refine W.exit ?_; conv => whnf)

    | (refine W.cond rfl (fun hb => ?_) (fun hb => ?_) <;> (try simp only [Int.reduceToNat, Int.reduceTDiv, Int.reduceTMod, List.getD_cons_zero, List.getD_cons_succ, minL, maxL, pickB, getD_int, getD_sl, getD_bool, len_int, len_sl, len_bool, decide_eq_true_eq, decide_eq_false_iff_not, Bool.and_eq_true, Bool.or_eq_true, Bool.and_eq_false_iff, Bool.or_eq_false_iff, Bool.not_eq_true', Bool.not_eq_false', Bool.true_eq_false, Bool.false_eq_true, Int.toNat_natCast, Int.ofNat_lt, Int.ofNat_le, not_true_eq_false, not_false_eq_true, or_false, false_or, and_true, true_and, or_true, true_or, and_false, false_and] at hb) <;> (try (first | (cases hb; done) | exact absurd hb (by decide) | (exfalso; omega))))
    | ((with_reducible refine And.intro ?_ ?_); (focus ((repeat' (first | (with_reducible rfl) | (with_reducible refine And.intro ?_ ?_) | omega | rfl | exact Or.inl rfl | exact Or.inr rfl | exact of_decide_eq_true rfl | exact Path.imp_of (of_decide_eq_true rfl) | (focus ((try simp only [Int.reduceToNat, Int.reduceTDiv, Int.reduceTMod, List.getD_cons_zero, List.getD_cons_succ, minL, maxL, pickB, getD_int, getD_sl, getD_bool, len_int, len_sl, len_bool, decide_eq_true_eq, decide_eq_false_iff_not, Bool.and_eq_true, Bool.or_eq_true, Bool.and_eq_false_iff, Bool.or_eq_false_iff, Bool.not_eq_true', Bool.not_eq_false', Bool.true_eq_false, Bool.false_eq_true, Int.toNat_natCast, Int.ofNat_lt, Int.ofNat_le, not_true_eq_false, not_false_eq_true, or_false, false_or, and_true, true_and, or_true, true_or, and_false, false_and, InK, Path.imp, List.length_replicate, List.length_set, List.length_append, List.length_cons, List.length_nil] at *); omega)) | (refine app_le rfl ?_; omega))); done)); (conv => whnf))
    | ((with_reducible refine And.intro (Side.out ?_) ?_); rotate_left; (conv => whnf))
    | (refine retF1 ?_ <;> (conv => whnf) <;> repeat' (first
 | exact trivial
 | (with_reducible rfl)
 | ((with_reducible refine And.intro ?_ ?_) <;> conv => whnf)
 | omega
 | rfl
 | (refine congrArg (SV.arr _) ?_)
 | (refine congrArg (Value.int _) ?_)
 | (refine congrArg Value.bool ?_)))
 | (refine retF2 ?_ <;> (conv => whnf) <;> repeat' (first
 | exact trivial
 | (with_reducible rfl)
 | ((with_reducible refine And.intro ?_ ?_) <;> conv => whnf)
 | omega
 | rfl
 | (refine congrArg (SV.arr _) ?_)
 | (refine congrArg (Value.int _) ?_)
 | (refine congrArg Value.bool ?_)))); all_goals (try unfold Side)
  refine W.loop (fun i : Nat => ⟨[(0, .st false (.arr (.int .i64) (s : List Int))), (1, .lit (.int .i64 (n))), (5, .lit (.int .i64 (i)))], []⟩) (fun i => i ≤ s.length ∧ sgnB (s.take i) = true) (fun i => s.length - i) (0) ?_ ?_
  · refine ⟨⟨Nat.zero_le _, rfl⟩, ?_⟩
    refine subF.ok ?_ <;> (conv => whnf) <;> repeat' (first
 | exact trivial
 | (with_reducible rfl)
 | ((with_reducible refine And.intro ?_ ?_) <;> conv => whnf)
 | omega
 | rfl
 | (refine congrArg (SV.arr _) ?_)
 | (refine congrArg (Value.int _) ?_)
 | (refine congrArg Value.bool ?_))
  · rintro i ⟨hi, hv⟩
    by_cases hil : i < s.length
    · repeat' (first
 | refine W.seq ?_
 | refine W.block ?_
 | (refine W.region tys_ok [] ?_; conv => whnf)
 | (refine W.drawAll tys_ok [] mixed rfl ?_; conv => whnf)
 | (refine W.ret ?_; conv => whnf)
 | (refine W.skip ?_; conv => whnf)
 | (refine W.exit ?_; conv => whnf)

    | (refine W.cond rfl (fun hb => ?_) (fun hb => ?_) <;> (try simp only [Int.reduceToNat, Int.reduceTDiv, Int.reduceTMod, List.getD_cons_zero, List.getD_cons_succ, minL, maxL, pickB, getD_int, getD_sl, getD_bool, len_int, len_sl, len_bool, decide_eq_true_eq, decide_eq_false_iff_not, Bool.and_eq_true, Bool.or_eq_true, Bool.and_eq_false_iff, Bool.or_eq_false_iff, Bool.not_eq_true', Bool.not_eq_false', Bool.true_eq_false, Bool.false_eq_true, Int.toNat_natCast, Int.ofNat_lt, Int.ofNat_le, not_true_eq_false, not_false_eq_true, or_false, false_or, and_true, true_and, or_true, true_or, and_false, false_and] at hb) <;> (try (first | (cases hb; done) | exact absurd hb (by decide) | (exfalso; omega))))
    | ((with_reducible refine And.intro ?_ ?_); (focus ((repeat' (first | (with_reducible rfl) | (with_reducible refine And.intro ?_ ?_) | omega | rfl | exact Or.inl rfl | exact Or.inr rfl | exact of_decide_eq_true rfl | exact Path.imp_of (of_decide_eq_true rfl) | (focus ((try simp only [Int.reduceToNat, Int.reduceTDiv, Int.reduceTMod, List.getD_cons_zero, List.getD_cons_succ, minL, maxL, pickB, getD_int, getD_sl, getD_bool, len_int, len_sl, len_bool, decide_eq_true_eq, decide_eq_false_iff_not, Bool.and_eq_true, Bool.or_eq_true, Bool.and_eq_false_iff, Bool.or_eq_false_iff, Bool.not_eq_true', Bool.not_eq_false', Bool.true_eq_false, Bool.false_eq_true, Int.toNat_natCast, Int.ofNat_lt, Int.ofNat_le, not_true_eq_false, not_false_eq_true, or_false, false_or, and_true, true_and, or_true, true_or, and_false, false_and, InK, Path.imp, List.length_replicate, List.length_set, List.length_append, List.length_cons, List.length_nil] at *); omega)) | (refine app_le rfl ?_; omega))); done)); (conv => whnf))
    | ((with_reducible refine And.intro (Side.out ?_) ?_); rotate_left; (conv => whnf))
    | (refine retF1 ?_ <;> (conv => whnf) <;> repeat' (first
 | exact trivial
 | (with_reducible rfl)
 | ((with_reducible refine And.intro ?_ ?_) <;> conv => whnf)
 | omega
 | rfl
 | (refine congrArg (SV.arr _) ?_)
 | (refine congrArg (Value.int _) ?_)
 | (refine congrArg Value.bool ?_)))
 | (refine retF2 ?_ <;> (conv => whnf) <;> repeat' (first
 | exact trivial
 | (with_reducible rfl)
 | ((with_reducible refine And.intro ?_ ?_) <;> conv => whnf)
 | omega
 | rfl
 | (refine congrArg (SV.arr _) ?_)
 | (refine congrArg (Value.int _) ?_)
 | (refine congrArg Value.bool ?_)))); all_goals (try unfold Side)
      all_goals try (repeat' (first | (with_reducible rfl) | (with_reducible refine And.intro ?_ ?_) | omega | rfl | exact Or.inl rfl | exact Or.inr rfl | exact of_decide_eq_true rfl | exact Path.imp_of (of_decide_eq_true rfl) | (focus ((try simp only [Int.reduceToNat, Int.reduceTDiv, Int.reduceTMod, List.getD_cons_zero, List.getD_cons_succ, minL, maxL, pickB, getD_int, getD_sl, getD_bool, len_int, len_sl, len_bool, decide_eq_true_eq, decide_eq_false_iff_not, Bool.and_eq_true, Bool.or_eq_true, Bool.and_eq_false_iff, Bool.or_eq_false_iff, Bool.not_eq_true', Bool.not_eq_false', Bool.true_eq_false, Bool.false_eq_true, Int.toNat_natCast, Int.ofNat_lt, Int.ofNat_le, not_true_eq_false, not_false_eq_true, or_false, false_or, and_true, true_and, or_true, true_or, and_false, false_and, InK, Path.imp, List.length_replicate, List.length_set, List.length_append, List.length_cons, List.length_nil] at *); omega)) | (refine app_le rfl ?_; omega)))
      · rw [signsB, sgnB_not hil hb.1 hb.2]; rfl
      · refine ⟨i + 1, ⟨⟨by omega, ?_⟩, by omega⟩, ?_⟩
        · rw [sgnB_take hil, hv]; rcases hb with hb | hb <;> rw [hb] <;> rfl
        · refine subF.ok ?_ <;> (conv => whnf) <;> repeat' (first
 | exact trivial
 | (with_reducible rfl)
 | ((with_reducible refine And.intro ?_ ?_) <;> conv => whnf)
 | omega
 | rfl
 | (refine congrArg (SV.arr _) ?_)
 | (refine congrArg (Value.int _) ?_)
 | (refine congrArg Value.bool ?_))
    · have hie : s.length = i := by omega
      subst hie
      rw [List.take_length] at hv
      repeat' (first
 | refine W.seq ?_
 | refine W.block ?_
 | (refine W.region tys_ok [] ?_; conv => whnf)
 | (refine W.drawAll tys_ok [] mixed rfl ?_; conv => whnf)
 | (refine W.ret ?_; conv => whnf)
 | (refine W.skip ?_; conv => whnf)
 | (refine W.exit ?_; conv => whnf)

    | (refine W.cond rfl (fun hb => ?_) (fun hb => ?_) <;> (try simp only [Int.reduceToNat, Int.reduceTDiv, Int.reduceTMod, List.getD_cons_zero, List.getD_cons_succ, minL, maxL, pickB, getD_int, getD_sl, getD_bool, len_int, len_sl, len_bool, decide_eq_true_eq, decide_eq_false_iff_not, Bool.and_eq_true, Bool.or_eq_true, Bool.and_eq_false_iff, Bool.or_eq_false_iff, Bool.not_eq_true', Bool.not_eq_false', Bool.true_eq_false, Bool.false_eq_true, Int.toNat_natCast, Int.ofNat_lt, Int.ofNat_le, not_true_eq_false, not_false_eq_true, or_false, false_or, and_true, true_and, or_true, true_or, and_false, false_and] at hb) <;> (try (first | (cases hb; done) | exact absurd hb (by decide) | (exfalso; omega))))
    | ((with_reducible refine And.intro ?_ ?_); (focus ((repeat' (first | (with_reducible rfl) | (with_reducible refine And.intro ?_ ?_) | omega | rfl | exact Or.inl rfl | exact Or.inr rfl | exact of_decide_eq_true rfl | exact Path.imp_of (of_decide_eq_true rfl) | (focus ((try simp only [Int.reduceToNat, Int.reduceTDiv, Int.reduceTMod, List.getD_cons_zero, List.getD_cons_succ, minL, maxL, pickB, getD_int, getD_sl, getD_bool, len_int, len_sl, len_bool, decide_eq_true_eq, decide_eq_false_iff_not, Bool.and_eq_true, Bool.or_eq_true, Bool.and_eq_false_iff, Bool.or_eq_false_iff, Bool.not_eq_true', Bool.not_eq_false', Bool.true_eq_false, Bool.false_eq_true, Int.toNat_natCast, Int.ofNat_lt, Int.ofNat_le, not_true_eq_false, not_false_eq_true, or_false, false_or, and_true, true_and, or_true, true_or, and_false, false_and, InK, Path.imp, List.length_replicate, List.length_set, List.length_append, List.length_cons, List.length_nil] at *); omega)) | (refine app_le rfl ?_; omega))); done)); (conv => whnf))
    | ((with_reducible refine And.intro (Side.out ?_) ?_); rotate_left; (conv => whnf))
    | (refine retF1 ?_ <;> (conv => whnf) <;> repeat' (first
 | exact trivial
 | (with_reducible rfl)
 | ((with_reducible refine And.intro ?_ ?_) <;> conv => whnf)
 | omega
 | rfl
 | (refine congrArg (SV.arr _) ?_)
 | (refine congrArg (Value.int _) ?_)
 | (refine congrArg Value.bool ?_)))
 | (refine retF2 ?_ <;> (conv => whnf) <;> repeat' (first
 | exact trivial
 | (with_reducible rfl)
 | ((with_reducible refine And.intro ?_ ?_) <;> conv => whnf)
 | omega
 | rfl
 | (refine congrArg (SV.arr _) ?_)
 | (refine congrArg (Value.int _) ?_)
 | (refine congrArg Value.bool ?_)))); all_goals (try unfold Side)
      all_goals try (repeat' (first | (with_reducible rfl) | (with_reducible refine And.intro ?_ ?_) | omega | rfl | exact Or.inl rfl | exact Or.inr rfl | exact of_decide_eq_true rfl | exact Path.imp_of (of_decide_eq_true rfl) | (focus ((try simp only [Int.reduceToNat, Int.reduceTDiv, Int.reduceTMod, List.getD_cons_zero, List.getD_cons_succ, minL, maxL, pickB, getD_int, getD_sl, getD_bool, len_int, len_sl, len_bool, decide_eq_true_eq, decide_eq_false_iff_not, Bool.and_eq_true, Bool.or_eq_true, Bool.and_eq_false_iff, Bool.or_eq_false_iff, Bool.not_eq_true', Bool.not_eq_false', Bool.true_eq_false, Bool.false_eq_true, Int.toNat_natCast, Int.ofNat_lt, Int.ofNat_le, not_true_eq_false, not_false_eq_true, or_false, false_or, and_true, true_and, or_true, true_or, and_false, false_and, InK, Path.imp, List.length_replicate, List.length_set, List.length_append, List.length_cons, List.length_nil] at *); omega)) | (refine app_le rfl ?_; omega)))
      rw [signsB, hv, Bool.true_and]
      show decide ((s.length : Int) = n) = _
      rw [decide_eq_decide]; omega
theorem sgn_at (x : Int) : FnAt Try.prog false 65 [.lit (.int .i64 x)] (.lit (.bool (!(decide (x = 1) || decide (x = -1))))) [] := by
  refine FnAt.of_body tys_ok Try.func65 (by rfl) rfl Try.ntmps65 (by rw [Try.results65]) (by simp) ?_
  
  repeat' (first
 | refine W.seq ?_
 | refine W.block ?_
 | (refine W.region tys_ok [] ?_; conv => whnf)
 | (refine W.drawAll tys_ok [] mixed rfl ?_; conv => whnf)
 | (refine W.ret ?_; conv => whnf)
 | (refine W.skip ?_; conv => whnf)
 | (refine W.exit ?_; conv => whnf)

    | (refine W.cond rfl (fun hb => ?_) (fun hb => ?_) <;> (try simp only [Int.reduceToNat, Int.reduceTDiv, Int.reduceTMod, List.getD_cons_zero, List.getD_cons_succ, minL, maxL, pickB, getD_int, getD_sl, getD_bool, len_int, len_sl, len_bool, decide_eq_true_eq, decide_eq_false_iff_not, Bool.and_eq_true, Bool.or_eq_true, Bool.and_eq_false_iff, Bool.or_eq_false_iff, Bool.not_eq_true', Bool.not_eq_false', Bool.true_eq_false, Bool.false_eq_true, Int.toNat_natCast, Int.ofNat_lt, Int.ofNat_le, not_true_eq_false, not_false_eq_true, or_false, false_or, and_true, true_and, or_true, true_or, and_false, false_and] at hb) <;> (try (first | (cases hb; done) | exact absurd hb (by decide) | (exfalso; omega))))
    | ((with_reducible refine And.intro ?_ ?_); (focus ((repeat' (first | (with_reducible rfl) | (with_reducible refine And.intro ?_ ?_) | omega | rfl | exact Or.inl rfl | exact Or.inr rfl | exact of_decide_eq_true rfl | exact Path.imp_of (of_decide_eq_true rfl) | (focus ((try simp only [Int.reduceToNat, Int.reduceTDiv, Int.reduceTMod, List.getD_cons_zero, List.getD_cons_succ, minL, maxL, pickB, getD_int, getD_sl, getD_bool, len_int, len_sl, len_bool, decide_eq_true_eq, decide_eq_false_iff_not, Bool.and_eq_true, Bool.or_eq_true, Bool.and_eq_false_iff, Bool.or_eq_false_iff, Bool.not_eq_true', Bool.not_eq_false', Bool.true_eq_false, Bool.false_eq_true, Int.toNat_natCast, Int.ofNat_lt, Int.ofNat_le, not_true_eq_false, not_false_eq_true, or_false, false_or, and_true, true_and, or_true, true_or, and_false, false_and, InK, Path.imp, List.length_replicate, List.length_set, List.length_append, List.length_cons, List.length_nil] at *); omega)) | (refine app_le rfl ?_; omega))); done)); (conv => whnf))
    | ((with_reducible refine And.intro (Side.out ?_) ?_); rotate_left; (conv => whnf))
    | (refine retF1 ?_ <;> (conv => whnf) <;> repeat' (first
 | exact trivial
 | (with_reducible rfl)
 | ((with_reducible refine And.intro ?_ ?_) <;> conv => whnf)
 | omega
 | rfl
 | (refine congrArg (SV.arr _) ?_)
 | (refine congrArg (Value.int _) ?_)
 | (refine congrArg Value.bool ?_)))
 | (refine retF2 ?_ <;> (conv => whnf) <;> repeat' (first
 | exact trivial
 | (with_reducible rfl)
 | ((with_reducible refine And.intro ?_ ?_) <;> conv => whnf)
 | omega
 | rfl
 | (refine congrArg (SV.arr _) ?_)
 | (refine congrArg (Value.int _) ?_)
 | (refine congrArg Value.bool ?_)))); all_goals (try unfold Side)
  all_goals try (repeat' (first | (with_reducible rfl) | (with_reducible refine And.intro ?_ ?_) | omega | rfl | exact Or.inl rfl | exact Or.inr rfl | exact of_decide_eq_true rfl | exact Path.imp_of (of_decide_eq_true rfl) | (focus ((try simp only [Int.reduceToNat, Int.reduceTDiv, Int.reduceTMod, List.getD_cons_zero, List.getD_cons_succ, minL, maxL, pickB, getD_int, getD_sl, getD_bool, len_int, len_sl, len_bool, decide_eq_true_eq, decide_eq_false_iff_not, Bool.and_eq_true, Bool.or_eq_true, Bool.and_eq_false_iff, Bool.or_eq_false_iff, Bool.not_eq_true', Bool.not_eq_false', Bool.true_eq_false, Bool.false_eq_true, Int.toNat_natCast, Int.ofNat_lt, Int.ofNat_le, not_true_eq_false, not_false_eq_true, or_false, false_or, and_true, true_and, or_true, true_or, and_false, false_and, InK, Path.imp, List.length_replicate, List.length_set, List.length_append, List.length_cons, List.length_nil] at *); omega)) | (refine app_le rfl ?_; omega)))
  by_cases h1 : x = 1 <;> simp [pickB, h1]
/-- The first that is no sign. -/
def fidx (p : Int → Bool) : Nat → List Int → Int
  | _, [] => -1
  | i, x :: r => cond (p x) (i : Int) (fidx p (i + 1) r)
theorem fidx_any {p : Int → Bool} : ∀ {s : List Int} {i : Nat}, decide (0 ≤ fidx p i s) = s.any p
  | [], i => by simp [fidx]
  | x :: r, i => by
    rw [fidx, List.any_cons]
    cases hx : p x with
    | true => simp
    | false => rw [cond_false, fidx_any (s := r)]; simp
def badP (x : Int) : Bool := !(decide (x = 1) || decide (x = -1))
theorem indexfn_at (s : List Int) (hl : s.length ≤ 1000) : FnAt Try.prog false 71 [.arr (.int .i64) s, .fn 65 []] (.lit (.int .i64 (fidx badP 0 s))) [] := by
  refine FnAt.of_body tys_ok Try.func71 (by rfl) rfl Try.ntmps71 (by rw [Try.results71]) (by simp) ?_
  
  repeat' (first
 | refine W.seq ?_
 | refine W.block ?_
 | (refine W.region tys_ok [] ?_; conv => whnf)
 | (refine W.drawAll tys_ok [] mixed rfl ?_; conv => whnf)
 | (refine W.ret ?_; conv => whnf)
 | (refine W.skip ?_; conv => whnf)
 | (refine W.exit ?_; conv => whnf)

    | (refine W.cond rfl (fun hb => ?_) (fun hb => ?_) <;> (try simp only [Int.reduceToNat, Int.reduceTDiv, Int.reduceTMod, List.getD_cons_zero, List.getD_cons_succ, minL, maxL, pickB, getD_int, getD_sl, getD_bool, len_int, len_sl, len_bool, decide_eq_true_eq, decide_eq_false_iff_not, Bool.and_eq_true, Bool.or_eq_true, Bool.and_eq_false_iff, Bool.or_eq_false_iff, Bool.not_eq_true', Bool.not_eq_false', Bool.true_eq_false, Bool.false_eq_true, Int.toNat_natCast, Int.ofNat_lt, Int.ofNat_le, not_true_eq_false, not_false_eq_true, or_false, false_or, and_true, true_and, or_true, true_or, and_false, false_and] at hb) <;> (try (first | (cases hb; done) | exact absurd hb (by decide) | (exfalso; omega))))
    | ((with_reducible refine And.intro ?_ ?_); (focus ((repeat' (first | (with_reducible rfl) | (with_reducible refine And.intro ?_ ?_) | omega | rfl | exact Or.inl rfl | exact Or.inr rfl | exact of_decide_eq_true rfl | exact Path.imp_of (of_decide_eq_true rfl) | (focus ((try simp only [Int.reduceToNat, Int.reduceTDiv, Int.reduceTMod, List.getD_cons_zero, List.getD_cons_succ, minL, maxL, pickB, getD_int, getD_sl, getD_bool, len_int, len_sl, len_bool, decide_eq_true_eq, decide_eq_false_iff_not, Bool.and_eq_true, Bool.or_eq_true, Bool.and_eq_false_iff, Bool.or_eq_false_iff, Bool.not_eq_true', Bool.not_eq_false', Bool.true_eq_false, Bool.false_eq_true, Int.toNat_natCast, Int.ofNat_lt, Int.ofNat_le, not_true_eq_false, not_false_eq_true, or_false, false_or, and_true, true_and, or_true, true_or, and_false, false_and, InK, Path.imp, List.length_replicate, List.length_set, List.length_append, List.length_cons, List.length_nil] at *); omega)) | (refine app_le rfl ?_; omega))); done)); (conv => whnf))
    | ((with_reducible refine And.intro (Side.out ?_) ?_); rotate_left; (conv => whnf))
    | (refine retF1 ?_ <;> (conv => whnf) <;> repeat' (first
 | exact trivial
 | (with_reducible rfl)
 | ((with_reducible refine And.intro ?_ ?_) <;> conv => whnf)
 | omega
 | rfl
 | (refine congrArg (SV.arr _) ?_)
 | (refine congrArg (Value.int _) ?_)
 | (refine congrArg Value.bool ?_)))
 | (refine retF2 ?_ <;> (conv => whnf) <;> repeat' (first
 | exact trivial
 | (with_reducible rfl)
 | ((with_reducible refine And.intro ?_ ?_) <;> conv => whnf)
 | omega
 | rfl
 | (refine congrArg (SV.arr _) ?_)
 | (refine congrArg (Value.int _) ?_)
 | (refine congrArg Value.bool ?_)))); all_goals (try unfold Side)
  refine W.loop (fun i : Nat => ⟨[(0, .st false (.arr (.int .i64) (s : List Int))), (1, .fn 65 []), (6, .st false (.arr (.int .i64) (s : List Int))), (7, .lit (.int .i64 (@List.length (Ty.int .i64).T s))), (8, .lit (.int .i64 (i)))], []⟩) (fun i => i ≤ s.length ∧ fidx badP 0 s = fidx badP i (s.drop i)) (fun i => s.length - i) (0) ?_ ?_
  · refine ⟨⟨Nat.zero_le _, rfl⟩, ?_⟩
    refine subF.ok ?_ <;> (conv => whnf) <;> repeat' (first
 | exact trivial
 | (with_reducible rfl)
 | ((with_reducible refine And.intro ?_ ?_) <;> conv => whnf)
 | omega
 | rfl
 | (refine congrArg (SV.arr _) ?_)
 | (refine congrArg (Value.int _) ?_)
 | (refine congrArg Value.bool ?_))
  · rintro i ⟨hi, hv⟩
    by_cases hil : i < s.length
    · rw [drop_getD 0 hil, fidx] at hv
      repeat' (first
 | refine W.seq ?_
 | refine W.block ?_
 | (refine W.region tys_ok [] ?_; conv => whnf)
 | (refine W.drawAll tys_ok [] mixed rfl ?_; conv => whnf)
 | (refine W.ret ?_; conv => whnf)
 | (refine W.skip ?_; conv => whnf)
 | (refine W.exit ?_; conv => whnf)
 | (refine call_at (al := false) (sgn_at (s.getD i 0)) rfl rfl rfl rfl ?_; conv => whnf)

    | (refine W.cond rfl (fun hb => ?_) (fun hb => ?_) <;> (try simp only [Int.reduceToNat, Int.reduceTDiv, Int.reduceTMod, List.getD_cons_zero, List.getD_cons_succ, minL, maxL, pickB, getD_int, getD_sl, getD_bool, len_int, len_sl, len_bool, decide_eq_true_eq, decide_eq_false_iff_not, Bool.and_eq_true, Bool.or_eq_true, Bool.and_eq_false_iff, Bool.or_eq_false_iff, Bool.not_eq_true', Bool.not_eq_false', Bool.true_eq_false, Bool.false_eq_true, Int.toNat_natCast, Int.ofNat_lt, Int.ofNat_le, not_true_eq_false, not_false_eq_true, or_false, false_or, and_true, true_and, or_true, true_or, and_false, false_and] at hb) <;> (try (first | (cases hb; done) | exact absurd hb (by decide) | (exfalso; omega))))
    | ((with_reducible refine And.intro ?_ ?_); (focus ((repeat' (first | (with_reducible rfl) | (with_reducible refine And.intro ?_ ?_) | omega | rfl | exact Or.inl rfl | exact Or.inr rfl | exact of_decide_eq_true rfl | exact Path.imp_of (of_decide_eq_true rfl) | (focus ((try simp only [Int.reduceToNat, Int.reduceTDiv, Int.reduceTMod, List.getD_cons_zero, List.getD_cons_succ, minL, maxL, pickB, getD_int, getD_sl, getD_bool, len_int, len_sl, len_bool, decide_eq_true_eq, decide_eq_false_iff_not, Bool.and_eq_true, Bool.or_eq_true, Bool.and_eq_false_iff, Bool.or_eq_false_iff, Bool.not_eq_true', Bool.not_eq_false', Bool.true_eq_false, Bool.false_eq_true, Int.toNat_natCast, Int.ofNat_lt, Int.ofNat_le, not_true_eq_false, not_false_eq_true, or_false, false_or, and_true, true_and, or_true, true_or, and_false, false_and, InK, Path.imp, List.length_replicate, List.length_set, List.length_append, List.length_cons, List.length_nil] at *); omega)) | (refine app_le rfl ?_; omega))); done)); (conv => whnf))
    | ((with_reducible refine And.intro (Side.out ?_) ?_); rotate_left; (conv => whnf))
    | (refine retF1 ?_ <;> (conv => whnf) <;> repeat' (first
 | exact trivial
 | (with_reducible rfl)
 | ((with_reducible refine And.intro ?_ ?_) <;> conv => whnf)
 | omega
 | rfl
 | (refine congrArg (SV.arr _) ?_)
 | (refine congrArg (Value.int _) ?_)
 | (refine congrArg Value.bool ?_)))
 | (refine retF2 ?_ <;> (conv => whnf) <;> repeat' (first
 | exact trivial
 | (with_reducible rfl)
 | ((with_reducible refine And.intro ?_ ?_) <;> conv => whnf)
 | omega
 | rfl
 | (refine congrArg (SV.arr _) ?_)
 | (refine congrArg (Value.int _) ?_)
 | (refine congrArg Value.bool ?_)))); all_goals (try unfold Side)
      all_goals try (repeat' (first | (with_reducible rfl) | (with_reducible refine And.intro ?_ ?_) | omega | rfl | exact Or.inl rfl | exact Or.inr rfl | exact of_decide_eq_true rfl | exact Path.imp_of (of_decide_eq_true rfl) | (focus ((try simp only [Int.reduceToNat, Int.reduceTDiv, Int.reduceTMod, List.getD_cons_zero, List.getD_cons_succ, minL, maxL, pickB, getD_int, getD_sl, getD_bool, len_int, len_sl, len_bool, decide_eq_true_eq, decide_eq_false_iff_not, Bool.and_eq_true, Bool.or_eq_true, Bool.and_eq_false_iff, Bool.or_eq_false_iff, Bool.not_eq_true', Bool.not_eq_false', Bool.true_eq_false, Bool.false_eq_true, Int.toNat_natCast, Int.ofNat_lt, Int.ofNat_le, not_true_eq_false, not_false_eq_true, or_false, false_or, and_true, true_and, or_true, true_or, and_false, false_and, InK, Path.imp, List.length_replicate, List.length_set, List.length_append, List.length_cons, List.length_nil] at *); omega)) | (refine app_le rfl ?_; omega)))
      · rw [hv]
        have : badP (s.getD i 0) = true := by rw [badP, decide_eq_false hb.1, decide_eq_false hb.2]; rfl
        rw [this]; rfl
      · refine ⟨i + 1, ⟨⟨by omega, ?_⟩, by omega⟩, ?_⟩
        · rw [hv]
          have : badP (s.getD i 0) = false := by rw [badP]; rcases hb with hb | hb <;> rw [hb] <;> rfl
          rw [this]; rfl
        · refine subF.ok ?_ <;> (conv => whnf) <;> repeat' (first
 | exact trivial
 | (with_reducible rfl)
 | ((with_reducible refine And.intro ?_ ?_) <;> conv => whnf)
 | omega
 | rfl
 | (refine congrArg (SV.arr _) ?_)
 | (refine congrArg (Value.int _) ?_)
 | (refine congrArg Value.bool ?_))
    · have hie : s.length = i := by omega
      subst hie
      rw [List.drop_length, fidx] at hv
      repeat' (first
 | refine W.seq ?_
 | refine W.block ?_
 | (refine W.region tys_ok [] ?_; conv => whnf)
 | (refine W.drawAll tys_ok [] mixed rfl ?_; conv => whnf)
 | (refine W.ret ?_; conv => whnf)
 | (refine W.skip ?_; conv => whnf)
 | (refine W.exit ?_; conv => whnf)

    | (refine W.cond rfl (fun hb => ?_) (fun hb => ?_) <;> (try simp only [Int.reduceToNat, Int.reduceTDiv, Int.reduceTMod, List.getD_cons_zero, List.getD_cons_succ, minL, maxL, pickB, getD_int, getD_sl, getD_bool, len_int, len_sl, len_bool, decide_eq_true_eq, decide_eq_false_iff_not, Bool.and_eq_true, Bool.or_eq_true, Bool.and_eq_false_iff, Bool.or_eq_false_iff, Bool.not_eq_true', Bool.not_eq_false', Bool.true_eq_false, Bool.false_eq_true, Int.toNat_natCast, Int.ofNat_lt, Int.ofNat_le, not_true_eq_false, not_false_eq_true, or_false, false_or, and_true, true_and, or_true, true_or, and_false, false_and] at hb) <;> (try (first | (cases hb; done) | exact absurd hb (by decide) | (exfalso; omega))))
    | ((with_reducible refine And.intro ?_ ?_); (focus ((repeat' (first | (with_reducible rfl) | (with_reducible refine And.intro ?_ ?_) | omega | rfl | exact Or.inl rfl | exact Or.inr rfl | exact of_decide_eq_true rfl | exact Path.imp_of (of_decide_eq_true rfl) | (focus ((try simp only [Int.reduceToNat, Int.reduceTDiv, Int.reduceTMod, List.getD_cons_zero, List.getD_cons_succ, minL, maxL, pickB, getD_int, getD_sl, getD_bool, len_int, len_sl, len_bool, decide_eq_true_eq, decide_eq_false_iff_not, Bool.and_eq_true, Bool.or_eq_true, Bool.and_eq_false_iff, Bool.or_eq_false_iff, Bool.not_eq_true', Bool.not_eq_false', Bool.true_eq_false, Bool.false_eq_true, Int.toNat_natCast, Int.ofNat_lt, Int.ofNat_le, not_true_eq_false, not_false_eq_true, or_false, false_or, and_true, true_and, or_true, true_or, and_false, false_and, InK, Path.imp, List.length_replicate, List.length_set, List.length_append, List.length_cons, List.length_nil] at *); omega)) | (refine app_le rfl ?_; omega))); done)); (conv => whnf))
    | ((with_reducible refine And.intro (Side.out ?_) ?_); rotate_left; (conv => whnf))
    | (refine retF1 ?_ <;> (conv => whnf) <;> repeat' (first
 | exact trivial
 | (with_reducible rfl)
 | ((with_reducible refine And.intro ?_ ?_) <;> conv => whnf)
 | omega
 | rfl
 | (refine congrArg (SV.arr _) ?_)
 | (refine congrArg (Value.int _) ?_)
 | (refine congrArg Value.bool ?_)))
 | (refine retF2 ?_ <;> (conv => whnf) <;> repeat' (first
 | exact trivial
 | (with_reducible rfl)
 | ((with_reducible refine And.intro ?_ ?_) <;> conv => whnf)
 | omega
 | rfl
 | (refine congrArg (SV.arr _) ?_)
 | (refine congrArg (Value.int _) ?_)
 | (refine congrArg Value.bool ?_)))); all_goals (try unfold Side)
      all_goals try (repeat' (first | (with_reducible rfl) | (with_reducible refine And.intro ?_ ?_) | omega | rfl | exact Or.inl rfl | exact Or.inr rfl | exact of_decide_eq_true rfl | exact Path.imp_of (of_decide_eq_true rfl) | (focus ((try simp only [Int.reduceToNat, Int.reduceTDiv, Int.reduceTMod, List.getD_cons_zero, List.getD_cons_succ, minL, maxL, pickB, getD_int, getD_sl, getD_bool, len_int, len_sl, len_bool, decide_eq_true_eq, decide_eq_false_iff_not, Bool.and_eq_true, Bool.or_eq_true, Bool.and_eq_false_iff, Bool.or_eq_false_iff, Bool.not_eq_true', Bool.not_eq_false', Bool.true_eq_false, Bool.false_eq_true, Int.toNat_natCast, Int.ofNat_lt, Int.ofNat_le, not_true_eq_false, not_false_eq_true, or_false, false_or, and_true, true_and, or_true, true_or, and_false, false_and, InK, Path.imp, List.length_replicate, List.length_set, List.length_append, List.length_cons, List.length_nil] at *); omega)) | (refine app_le rfl ?_; omega)))
      all_goals exact hv.symm
theorem contains_at (s : List Int) (hl : s.length ≤ 1000) : FnAt Try.prog false 64 [.arr (.int .i64) s, .fn 65 []] (.lit (.bool (!sgnB s))) [] := by
  have e : decide (0 ≤ fidx badP 0 s) = !sgnB s := by
    rw [fidx_any, sgnB, Bool.eq_iff_iff]
    simp [badP]
  refine FnAt.of_body tys_ok Try.func64 (by rfl) rfl Try.ntmps64 (by rw [Try.results64]) (by simp) ?_
  
  repeat' (first
 | refine W.seq ?_
 | refine W.block ?_
 | (refine W.region tys_ok [] ?_; conv => whnf)
 | (refine W.drawAll tys_ok [] mixed rfl ?_; conv => whnf)
 | (refine W.ret ?_; conv => whnf)
 | (refine W.skip ?_; conv => whnf)
 | (refine W.exit ?_; conv => whnf)
 | (refine call_at (al := false) (indexfn_at s hl) rfl rfl rfl rfl ?_; conv => whnf)

    | (refine W.cond rfl (fun hb => ?_) (fun hb => ?_) <;> (try simp only [Int.reduceToNat, Int.reduceTDiv, Int.reduceTMod, List.getD_cons_zero, List.getD_cons_succ, minL, maxL, pickB, getD_int, getD_sl, getD_bool, len_int, len_sl, len_bool, decide_eq_true_eq, decide_eq_false_iff_not, Bool.and_eq_true, Bool.or_eq_true, Bool.and_eq_false_iff, Bool.or_eq_false_iff, Bool.not_eq_true', Bool.not_eq_false', Bool.true_eq_false, Bool.false_eq_true, Int.toNat_natCast, Int.ofNat_lt, Int.ofNat_le, not_true_eq_false, not_false_eq_true, or_false, false_or, and_true, true_and, or_true, true_or, and_false, false_and] at hb) <;> (try (first | (cases hb; done) | exact absurd hb (by decide) | (exfalso; omega))))
    | ((with_reducible refine And.intro ?_ ?_); (focus ((repeat' (first | (with_reducible rfl) | (with_reducible refine And.intro ?_ ?_) | omega | rfl | exact Or.inl rfl | exact Or.inr rfl | exact of_decide_eq_true rfl | exact Path.imp_of (of_decide_eq_true rfl) | (focus ((try simp only [Int.reduceToNat, Int.reduceTDiv, Int.reduceTMod, List.getD_cons_zero, List.getD_cons_succ, minL, maxL, pickB, getD_int, getD_sl, getD_bool, len_int, len_sl, len_bool, decide_eq_true_eq, decide_eq_false_iff_not, Bool.and_eq_true, Bool.or_eq_true, Bool.and_eq_false_iff, Bool.or_eq_false_iff, Bool.not_eq_true', Bool.not_eq_false', Bool.true_eq_false, Bool.false_eq_true, Int.toNat_natCast, Int.ofNat_lt, Int.ofNat_le, not_true_eq_false, not_false_eq_true, or_false, false_or, and_true, true_and, or_true, true_or, and_false, false_and, InK, Path.imp, List.length_replicate, List.length_set, List.length_append, List.length_cons, List.length_nil] at *); omega)) | (refine app_le rfl ?_; omega))); done)); (conv => whnf))
    | ((with_reducible refine And.intro (Side.out ?_) ?_); rotate_left; (conv => whnf))
    | (refine retF1 ?_ <;> (conv => whnf) <;> repeat' (first
 | exact trivial
 | (with_reducible rfl)
 | ((with_reducible refine And.intro ?_ ?_) <;> conv => whnf)
 | omega
 | rfl
 | (refine congrArg (SV.arr _) ?_)
 | (refine congrArg (Value.int _) ?_)
 | (refine congrArg Value.bool ?_)))
 | (refine retF2 ?_ <;> (conv => whnf) <;> repeat' (first
 | exact trivial
 | (with_reducible rfl)
 | ((with_reducible refine And.intro ?_ ?_) <;> conv => whnf)
 | omega
 | rfl
 | (refine congrArg (SV.arr _) ?_)
 | (refine congrArg (Value.int _) ?_)
 | (refine congrArg Value.bool ?_)))); all_goals (try unfold Side)
  all_goals try (repeat' (first | (with_reducible rfl) | (with_reducible refine And.intro ?_ ?_) | omega | rfl | exact Or.inl rfl | exact Or.inr rfl | exact of_decide_eq_true rfl | exact Path.imp_of (of_decide_eq_true rfl) | (focus ((try simp only [Int.reduceToNat, Int.reduceTDiv, Int.reduceTMod, List.getD_cons_zero, List.getD_cons_succ, minL, maxL, pickB, getD_int, getD_sl, getD_bool, len_int, len_sl, len_bool, decide_eq_true_eq, decide_eq_false_iff_not, Bool.and_eq_true, Bool.or_eq_true, Bool.and_eq_false_iff, Bool.or_eq_false_iff, Bool.not_eq_true', Bool.not_eq_false', Bool.true_eq_false, Bool.false_eq_true, Int.toNat_natCast, Int.ofNat_lt, Int.ofNat_le, not_true_eq_false, not_false_eq_true, or_false, false_or, and_true, true_and, or_true, true_or, and_false, false_and, InK, Path.imp, List.length_replicate, List.length_set, List.length_append, List.length_cons, List.length_nil] at *); omega)) | (refine app_le rfl ?_; omega)))
  all_goals exact e
theorem signed_ok {w s : List Int} {n : Nat} (h : Word w n) (hn : n ≤ 10) (hs : signsB s n = true) : FnAt Try.prog true 47 [.arr (.int .i64) w, .arr (.int .i64) s] (.tup [.st true (curveT n w), .lit (.int .i64 0)]) [] := by
  simp only [signsB, Bool.and_eq_true, decide_eq_true_eq] at hs
  have hl : @List.length (Ty.int .i64).T s = n := hs.2
  have hc := contains_at s (by omega)
  rw [hs.1] at hc
  refine FnAt.of_body tys_ok Try.func47 (by rfl) rfl Try.ntmps47 (by rw [Try.results47]) (by simp) ?_
  
  repeat' (first
 | refine W.seq ?_
 | refine W.block ?_
 | (refine W.region tys_ok [] ?_; conv => whnf)
 | (refine W.drawAll tys_ok [] mixed rfl ?_; conv => whnf)
 | (refine W.ret ?_; conv => whnf)
 | (refine W.skip ?_; conv => whnf)
 | (refine W.exit ?_; conv => whnf)
 | (refine call_at (al := true) (read_ok h hn) rfl rfl rfl rfl ?_; conv => whnf)
 | (refine call_at (al := false) (hc) rfl rfl rfl rfl ?_; conv => whnf)

    | (refine W.cond rfl (fun hb => ?_) (fun hb => ?_) <;> (try simp only [Int.reduceToNat, Int.reduceTDiv, Int.reduceTMod, List.getD_cons_zero, List.getD_cons_succ, minL, maxL, pickB, getD_int, getD_sl, getD_bool, len_int, len_sl, len_bool, decide_eq_true_eq, decide_eq_false_iff_not, Bool.and_eq_true, Bool.or_eq_true, Bool.and_eq_false_iff, Bool.or_eq_false_iff, Bool.not_eq_true', Bool.not_eq_false', Bool.true_eq_false, Bool.false_eq_true, Int.toNat_natCast, Int.ofNat_lt, Int.ofNat_le, not_true_eq_false, not_false_eq_true, or_false, false_or, and_true, true_and, or_true, true_or, and_false, false_and] at hb) <;> (try (first | (cases hb; done) | exact absurd hb (by decide) | (exfalso; omega))))
    | ((with_reducible refine And.intro ?_ ?_); (focus ((repeat' (first | (with_reducible rfl) | (with_reducible refine And.intro ?_ ?_) | omega | rfl | exact Or.inl rfl | exact Or.inr rfl | exact of_decide_eq_true rfl | exact Path.imp_of (of_decide_eq_true rfl) | (focus ((try simp only [Int.reduceToNat, Int.reduceTDiv, Int.reduceTMod, List.getD_cons_zero, List.getD_cons_succ, minL, maxL, pickB, getD_int, getD_sl, getD_bool, len_int, len_sl, len_bool, decide_eq_true_eq, decide_eq_false_iff_not, Bool.and_eq_true, Bool.or_eq_true, Bool.and_eq_false_iff, Bool.or_eq_false_iff, Bool.not_eq_true', Bool.not_eq_false', Bool.true_eq_false, Bool.false_eq_true, Int.toNat_natCast, Int.ofNat_lt, Int.ofNat_le, not_true_eq_false, not_false_eq_true, or_false, false_or, and_true, true_and, or_true, true_or, and_false, false_and, InK, Path.imp, List.length_replicate, List.length_set, List.length_append, List.length_cons, List.length_nil] at *); omega)) | (refine app_le rfl ?_; omega))); done)); (conv => whnf))
    | ((with_reducible refine And.intro (Side.out ?_) ?_); rotate_left; (conv => whnf))
    | (refine retF1 ?_ <;> (conv => whnf) <;> repeat' (first
 | exact trivial
 | (with_reducible rfl)
 | ((with_reducible refine And.intro ?_ ?_) <;> conv => whnf)
 | omega
 | rfl
 | (refine congrArg (SV.arr _) ?_)
 | (refine congrArg (Value.int _) ?_)
 | (refine congrArg Value.bool ?_)))
 | (refine retF2 ?_ <;> (conv => whnf) <;> repeat' (first
 | exact trivial
 | (with_reducible rfl)
 | ((with_reducible refine And.intro ?_ ?_) <;> conv => whnf)
 | omega
 | rfl
 | (refine congrArg (SV.arr _) ?_)
 | (refine congrArg (Value.int _) ?_)
 | (refine congrArg Value.bool ?_)))); all_goals (try unfold Side)
  all_goals try (repeat' (first | (with_reducible rfl) | (with_reducible refine And.intro ?_ ?_) | omega | rfl | exact Or.inl rfl | exact Or.inr rfl | exact of_decide_eq_true rfl | exact Path.imp_of (of_decide_eq_true rfl) | (focus ((try simp only [Int.reduceToNat, Int.reduceTDiv, Int.reduceTMod, List.getD_cons_zero, List.getD_cons_succ, minL, maxL, pickB, getD_int, getD_sl, getD_bool, len_int, len_sl, len_bool, decide_eq_true_eq, decide_eq_false_iff_not, Bool.and_eq_true, Bool.or_eq_true, Bool.and_eq_false_iff, Bool.or_eq_false_iff, Bool.not_eq_true', Bool.not_eq_false', Bool.true_eq_false, Bool.false_eq_true, Int.toNat_natCast, Int.ofNat_lt, Int.ofNat_le, not_true_eq_false, not_false_eq_true, or_false, false_or, and_true, true_and, or_true, true_or, and_false, false_and, InK, Path.imp, List.length_replicate, List.length_set, List.length_append, List.length_cons, List.length_nil] at *); omega)) | (refine app_le rfl ?_; omega)))
theorem signed_bad {w s : List Int} (hw : ¬ checkT w = 0) (hl : w.length ≤ 1000) : FnAt Try.prog true 47 [.arr (.int .i64) w, .arr (.int .i64) s] (.tup [.lit (.pointer none), .lit (.int .i64 (checkT w))]) [] := by
  refine FnAt.of_body tys_ok Try.func47 (by rfl) rfl Try.ntmps47 (by rw [Try.results47]) (by simp) ?_
  
  repeat' (first
 | refine W.seq ?_
 | refine W.block ?_
 | (refine W.region tys_ok [] ?_; conv => whnf)
 | (refine W.drawAll tys_ok [] mixed rfl ?_; conv => whnf)
 | (refine W.ret ?_; conv => whnf)
 | (refine W.skip ?_; conv => whnf)
 | (refine W.exit ?_; conv => whnf)
 | (refine call_at (al := true) (read_bad hw hl) rfl rfl rfl rfl ?_; conv => whnf)

    | (refine W.cond rfl (fun hb => ?_) (fun hb => ?_) <;> (try simp only [Int.reduceToNat, Int.reduceTDiv, Int.reduceTMod, List.getD_cons_zero, List.getD_cons_succ, minL, maxL, pickB, getD_int, getD_sl, getD_bool, len_int, len_sl, len_bool, decide_eq_true_eq, decide_eq_false_iff_not, Bool.and_eq_true, Bool.or_eq_true, Bool.and_eq_false_iff, Bool.or_eq_false_iff, Bool.not_eq_true', Bool.not_eq_false', Bool.true_eq_false, Bool.false_eq_true, Int.toNat_natCast, Int.ofNat_lt, Int.ofNat_le, not_true_eq_false, not_false_eq_true, or_false, false_or, and_true, true_and, or_true, true_or, and_false, false_and] at hb) <;> (try (first | (cases hb; done) | exact absurd hb (by decide) | (exfalso; omega))))
    | ((with_reducible refine And.intro ?_ ?_); (focus ((repeat' (first | (with_reducible rfl) | (with_reducible refine And.intro ?_ ?_) | omega | rfl | exact Or.inl rfl | exact Or.inr rfl | exact of_decide_eq_true rfl | exact Path.imp_of (of_decide_eq_true rfl) | (focus ((try simp only [Int.reduceToNat, Int.reduceTDiv, Int.reduceTMod, List.getD_cons_zero, List.getD_cons_succ, minL, maxL, pickB, getD_int, getD_sl, getD_bool, len_int, len_sl, len_bool, decide_eq_true_eq, decide_eq_false_iff_not, Bool.and_eq_true, Bool.or_eq_true, Bool.and_eq_false_iff, Bool.or_eq_false_iff, Bool.not_eq_true', Bool.not_eq_false', Bool.true_eq_false, Bool.false_eq_true, Int.toNat_natCast, Int.ofNat_lt, Int.ofNat_le, not_true_eq_false, not_false_eq_true, or_false, false_or, and_true, true_and, or_true, true_or, and_false, false_and, InK, Path.imp, List.length_replicate, List.length_set, List.length_append, List.length_cons, List.length_nil] at *); omega)) | (refine app_le rfl ?_; omega))); done)); (conv => whnf))
    | ((with_reducible refine And.intro (Side.out ?_) ?_); rotate_left; (conv => whnf))
    | (refine retF1 ?_ <;> (conv => whnf) <;> repeat' (first
 | exact trivial
 | (with_reducible rfl)
 | ((with_reducible refine And.intro ?_ ?_) <;> conv => whnf)
 | omega
 | rfl
 | (refine congrArg (SV.arr _) ?_)
 | (refine congrArg (Value.int _) ?_)
 | (refine congrArg Value.bool ?_)))
 | (refine retF2 ?_ <;> (conv => whnf) <;> repeat' (first
 | exact trivial
 | (with_reducible rfl)
 | ((with_reducible refine And.intro ?_ ?_) <;> conv => whnf)
 | omega
 | rfl
 | (refine congrArg (SV.arr _) ?_)
 | (refine congrArg (Value.int _) ?_)
 | (refine congrArg Value.bool ?_)))); all_goals (try unfold Side)
  all_goals try (repeat' (first | (with_reducible rfl) | (with_reducible refine And.intro ?_ ?_) | omega | rfl | exact Or.inl rfl | exact Or.inr rfl | exact of_decide_eq_true rfl | exact Path.imp_of (of_decide_eq_true rfl) | (focus ((try simp only [Int.reduceToNat, Int.reduceTDiv, Int.reduceTMod, List.getD_cons_zero, List.getD_cons_succ, minL, maxL, pickB, getD_int, getD_sl, getD_bool, len_int, len_sl, len_bool, decide_eq_true_eq, decide_eq_false_iff_not, Bool.and_eq_true, Bool.or_eq_true, Bool.and_eq_false_iff, Bool.or_eq_false_iff, Bool.not_eq_true', Bool.not_eq_false', Bool.true_eq_false, Bool.false_eq_true, Int.toNat_natCast, Int.ofNat_lt, Int.ofNat_le, not_true_eq_false, not_false_eq_true, or_false, false_or, and_true, true_and, or_true, true_or, and_false, false_and, InK, Path.imp, List.length_replicate, List.length_set, List.length_append, List.length_cons, List.length_nil] at *); omega)) | (refine app_le rfl ?_; omega)))
theorem signed_form {w s : List Int} {n : Nat} (h : Word w n) (hn : n ≤ 10) (hs : signsB s n = false) (hl : s.length ≤ 1000) : FnAt Try.prog true 47 [.arr (.int .i64) w, .arr (.int .i64) s] (.tup [.lit (.pointer none), .lit (.int .i64 2)]) [] := by
  have hc := contains_at s (by omega)
  refine FnAt.of_body tys_ok Try.func47 (by rfl) rfl Try.ntmps47 (by rw [Try.results47]) (by simp) ?_
  
  repeat' (first
 | refine W.seq ?_
 | refine W.block ?_
 | (refine W.region tys_ok [] ?_; conv => whnf)
 | (refine W.drawAll tys_ok [] mixed rfl ?_; conv => whnf)
 | (refine W.ret ?_; conv => whnf)
 | (refine W.skip ?_; conv => whnf)
 | (refine W.exit ?_; conv => whnf)
 | (refine call_at (al := true) (read_ok h hn) rfl rfl rfl rfl ?_; conv => whnf)
 | (refine call_at (al := false) (hc) rfl rfl rfl rfl ?_; conv => whnf)

    | (refine W.cond rfl (fun hb => ?_) (fun hb => ?_) <;> (try simp only [Int.reduceToNat, Int.reduceTDiv, Int.reduceTMod, List.getD_cons_zero, List.getD_cons_succ, minL, maxL, pickB, getD_int, getD_sl, getD_bool, len_int, len_sl, len_bool, decide_eq_true_eq, decide_eq_false_iff_not, Bool.and_eq_true, Bool.or_eq_true, Bool.and_eq_false_iff, Bool.or_eq_false_iff, Bool.not_eq_true', Bool.not_eq_false', Bool.true_eq_false, Bool.false_eq_true, Int.toNat_natCast, Int.ofNat_lt, Int.ofNat_le, not_true_eq_false, not_false_eq_true, or_false, false_or, and_true, true_and, or_true, true_or, and_false, false_and] at hb) <;> (try (first | (cases hb; done) | exact absurd hb (by decide) | (exfalso; omega))))
    | ((with_reducible refine And.intro ?_ ?_); (focus ((repeat' (first | (with_reducible rfl) | (with_reducible refine And.intro ?_ ?_) | omega | rfl | exact Or.inl rfl | exact Or.inr rfl | exact of_decide_eq_true rfl | exact Path.imp_of (of_decide_eq_true rfl) | (focus ((try simp only [Int.reduceToNat, Int.reduceTDiv, Int.reduceTMod, List.getD_cons_zero, List.getD_cons_succ, minL, maxL, pickB, getD_int, getD_sl, getD_bool, len_int, len_sl, len_bool, decide_eq_true_eq, decide_eq_false_iff_not, Bool.and_eq_true, Bool.or_eq_true, Bool.and_eq_false_iff, Bool.or_eq_false_iff, Bool.not_eq_true', Bool.not_eq_false', Bool.true_eq_false, Bool.false_eq_true, Int.toNat_natCast, Int.ofNat_lt, Int.ofNat_le, not_true_eq_false, not_false_eq_true, or_false, false_or, and_true, true_and, or_true, true_or, and_false, false_and, InK, Path.imp, List.length_replicate, List.length_set, List.length_append, List.length_cons, List.length_nil] at *); omega)) | (refine app_le rfl ?_; omega))); done)); (conv => whnf))
    | ((with_reducible refine And.intro (Side.out ?_) ?_); rotate_left; (conv => whnf))
    | (refine retF1 ?_ <;> (conv => whnf) <;> repeat' (first
 | exact trivial
 | (with_reducible rfl)
 | ((with_reducible refine And.intro ?_ ?_) <;> conv => whnf)
 | omega
 | rfl
 | (refine congrArg (SV.arr _) ?_)
 | (refine congrArg (Value.int _) ?_)
 | (refine congrArg Value.bool ?_)))
 | (refine retF2 ?_ <;> (conv => whnf) <;> repeat' (first
 | exact trivial
 | (with_reducible rfl)
 | ((with_reducible refine And.intro ?_ ?_) <;> conv => whnf)
 | omega
 | rfl
 | (refine congrArg (SV.arr _) ?_)
 | (refine congrArg (Value.int _) ?_)
 | (refine congrArg Value.bool ?_)))); all_goals (try unfold Side)
  all_goals try (repeat' (first | (with_reducible rfl) | (with_reducible refine And.intro ?_ ?_) | omega | rfl | exact Or.inl rfl | exact Or.inr rfl | exact of_decide_eq_true rfl | exact Path.imp_of (of_decide_eq_true rfl) | (focus ((try simp only [Int.reduceToNat, Int.reduceTDiv, Int.reduceTMod, List.getD_cons_zero, List.getD_cons_succ, minL, maxL, pickB, getD_int, getD_sl, getD_bool, len_int, len_sl, len_bool, decide_eq_true_eq, decide_eq_false_iff_not, Bool.and_eq_true, Bool.or_eq_true, Bool.and_eq_false_iff, Bool.or_eq_false_iff, Bool.not_eq_true', Bool.not_eq_false', Bool.true_eq_false, Bool.false_eq_true, Int.toNat_natCast, Int.ofNat_lt, Int.ofNat_le, not_true_eq_false, not_false_eq_true, or_false, false_or, and_true, true_and, or_true, true_or, and_false, false_and, InK, Path.imp, List.length_replicate, List.length_set, List.length_append, List.length_cons, List.length_nil] at *); omega)) | (refine app_le rfl ?_; omega)))
  rw [signsB, hb.2, Bool.true_and, decide_eq_false_iff_not] at hs
  exact hs (by have := hb.1; have h' : (s.length : Int) = n := this; omega)
end Go.Proofs.Ytdfajcfkdfjoeaa
/- The step that follows a step: the program's and the document's. No condition. -/
namespace Go.Proofs.Ytdfajcfkdfjoeaa
open Go Go.Vc Go.Scr
set_option linter.unusedVariables false
set_option linter.unusedSimpArgs false

theorem around_p : FnAt Try.prog false 72 [.lit (.int .i64 1)] (.strct [.lit (.int .i64 0), .lit (.int .i64 2), .lit (.int .i64 1), .lit (.int .i64 3)]) [] := by
  refine FnAt.of_body tys_ok Try.func72 (by rfl) rfl Try.ntmps72 (by rw [Try.results72]) (by simp) ?_
  
  repeat' (first
 | refine W.seq ?_
 | refine W.block ?_
 | (refine W.region tys_ok [] ?_; conv => whnf)
 | (refine W.drawAll tys_ok [] mixed rfl ?_; conv => whnf)
 | (refine W.ret ?_; conv => whnf)
 | (refine W.skip ?_; conv => whnf)
 | (refine W.exit ?_; conv => whnf)

    | (refine W.cond rfl (fun hb => ?_) (fun hb => ?_) <;> (try simp only [Int.reduceToNat, Int.reduceTDiv, Int.reduceTMod, List.getD_cons_zero, List.getD_cons_succ, minL, maxL, pickB, getD_int, getD_sl, getD_bool, len_int, len_sl, len_bool, decide_eq_true_eq, decide_eq_false_iff_not, Bool.and_eq_true, Bool.or_eq_true, Bool.and_eq_false_iff, Bool.or_eq_false_iff, Bool.not_eq_true', Bool.not_eq_false', Bool.true_eq_false, Bool.false_eq_true, Int.toNat_natCast, Int.ofNat_lt, Int.ofNat_le, not_true_eq_false, not_false_eq_true, or_false, false_or, and_true, true_and, or_true, true_or, and_false, false_and] at hb) <;> (try (first | (cases hb; done) | exact absurd hb (by decide) | (exfalso; omega))))
    | ((with_reducible refine And.intro ?_ ?_); (focus ((repeat' (first | (with_reducible rfl) | (with_reducible refine And.intro ?_ ?_) | omega | rfl | exact Or.inl rfl | exact Or.inr rfl | exact of_decide_eq_true rfl | exact Path.imp_of (of_decide_eq_true rfl) | (focus ((try simp only [Int.reduceToNat, Int.reduceTDiv, Int.reduceTMod, List.getD_cons_zero, List.getD_cons_succ, minL, maxL, pickB, getD_int, getD_sl, getD_bool, len_int, len_sl, len_bool, decide_eq_true_eq, decide_eq_false_iff_not, Bool.and_eq_true, Bool.or_eq_true, Bool.and_eq_false_iff, Bool.or_eq_false_iff, Bool.not_eq_true', Bool.not_eq_false', Bool.true_eq_false, Bool.false_eq_true, Int.toNat_natCast, Int.ofNat_lt, Int.ofNat_le, not_true_eq_false, not_false_eq_true, or_false, false_or, and_true, true_and, or_true, true_or, and_false, false_and, InK, Path.imp, List.length_replicate, List.length_set, List.length_append, List.length_cons, List.length_nil] at *); omega)) | (refine app_le rfl ?_; omega))); done)); (conv => whnf))
    | ((with_reducible refine And.intro (Side.out ?_) ?_); rotate_left; (conv => whnf))
    | (refine retF1 ?_ <;> (conv => whnf) <;> repeat' (first
 | exact trivial
 | (with_reducible rfl)
 | ((with_reducible refine And.intro ?_ ?_) <;> conv => whnf)
 | omega
 | rfl
 | (refine congrArg (SV.arr _) ?_)
 | (refine congrArg (Value.int _) ?_)
 | (refine congrArg Value.bool ?_)))
 | (refine retF2 ?_ <;> (conv => whnf) <;> repeat' (first
 | exact trivial
 | (with_reducible rfl)
 | ((with_reducible refine And.intro ?_ ?_) <;> conv => whnf)
 | omega
 | rfl
 | (refine congrArg (SV.arr _) ?_)
 | (refine congrArg (Value.int _) ?_)
 | (refine congrArg Value.bool ?_)))); all_goals (try unfold Side)
  all_goals try (repeat' (first | (with_reducible rfl) | (with_reducible refine And.intro ?_ ?_) | omega | rfl | exact Or.inl rfl | exact Or.inr rfl | exact of_decide_eq_true rfl | exact Path.imp_of (of_decide_eq_true rfl) | (focus ((try simp only [Int.reduceToNat, Int.reduceTDiv, Int.reduceTMod, List.getD_cons_zero, List.getD_cons_succ, minL, maxL, pickB, getD_int, getD_sl, getD_bool, len_int, len_sl, len_bool, decide_eq_true_eq, decide_eq_false_iff_not, Bool.and_eq_true, Bool.or_eq_true, Bool.and_eq_false_iff, Bool.or_eq_false_iff, Bool.not_eq_true', Bool.not_eq_false', Bool.true_eq_false, Bool.false_eq_true, Int.toNat_natCast, Int.ofNat_lt, Int.ofNat_le, not_true_eq_false, not_false_eq_true, or_false, false_or, and_true, true_and, or_true, true_or, and_false, false_and, InK, Path.imp, List.length_replicate, List.length_set, List.length_append, List.length_cons, List.length_nil] at *); omega)) | (refine app_le rfl ?_; omega)))
theorem around_m : FnAt Try.prog false 72 [.lit (.int .i64 (-1))] (.strct [.lit (.int .i64 0), .lit (.int .i64 3), .lit (.int .i64 1), .lit (.int .i64 2)]) [] := by
  refine FnAt.of_body tys_ok Try.func72 (by rfl) rfl Try.ntmps72 (by rw [Try.results72]) (by simp) ?_
  
  repeat' (first
 | refine W.seq ?_
 | refine W.block ?_
 | (refine W.region tys_ok [] ?_; conv => whnf)
 | (refine W.drawAll tys_ok [] mixed rfl ?_; conv => whnf)
 | (refine W.ret ?_; conv => whnf)
 | (refine W.skip ?_; conv => whnf)
 | (refine W.exit ?_; conv => whnf)

    | (refine W.cond rfl (fun hb => ?_) (fun hb => ?_) <;> (try simp only [Int.reduceToNat, Int.reduceTDiv, Int.reduceTMod, List.getD_cons_zero, List.getD_cons_succ, minL, maxL, pickB, getD_int, getD_sl, getD_bool, len_int, len_sl, len_bool, decide_eq_true_eq, decide_eq_false_iff_not, Bool.and_eq_true, Bool.or_eq_true, Bool.and_eq_false_iff, Bool.or_eq_false_iff, Bool.not_eq_true', Bool.not_eq_false', Bool.true_eq_false, Bool.false_eq_true, Int.toNat_natCast, Int.ofNat_lt, Int.ofNat_le, not_true_eq_false, not_false_eq_true, or_false, false_or, and_true, true_and, or_true, true_or, and_false, false_and] at hb) <;> (try (first | (cases hb; done) | exact absurd hb (by decide) | (exfalso; omega))))
    | ((with_reducible refine And.intro ?_ ?_); (focus ((repeat' (first | (with_reducible rfl) | (with_reducible refine And.intro ?_ ?_) | omega | rfl | exact Or.inl rfl | exact Or.inr rfl | exact of_decide_eq_true rfl | exact Path.imp_of (of_decide_eq_true rfl) | (focus ((try simp only [Int.reduceToNat, Int.reduceTDiv, Int.reduceTMod, List.getD_cons_zero, List.getD_cons_succ, minL, maxL, pickB, getD_int, getD_sl, getD_bool, len_int, len_sl, len_bool, decide_eq_true_eq, decide_eq_false_iff_not, Bool.and_eq_true, Bool.or_eq_true, Bool.and_eq_false_iff, Bool.or_eq_false_iff, Bool.not_eq_true', Bool.not_eq_false', Bool.true_eq_false, Bool.false_eq_true, Int.toNat_natCast, Int.ofNat_lt, Int.ofNat_le, not_true_eq_false, not_false_eq_true, or_false, false_or, and_true, true_and, or_true, true_or, and_false, false_and, InK, Path.imp, List.length_replicate, List.length_set, List.length_append, List.length_cons, List.length_nil] at *); omega)) | (refine app_le rfl ?_; omega))); done)); (conv => whnf))
    | ((with_reducible refine And.intro (Side.out ?_) ?_); rotate_left; (conv => whnf))
    | (refine retF1 ?_ <;> (conv => whnf) <;> repeat' (first
 | exact trivial
 | (with_reducible rfl)
 | ((with_reducible refine And.intro ?_ ?_) <;> conv => whnf)
 | omega
 | rfl
 | (refine congrArg (SV.arr _) ?_)
 | (refine congrArg (Value.int _) ?_)
 | (refine congrArg Value.bool ?_)))
 | (refine retF2 ?_ <;> (conv => whnf) <;> repeat' (first
 | exact trivial
 | (with_reducible rfl)
 | ((with_reducible refine And.intro ?_ ?_) <;> conv => whnf)
 | omega
 | rfl
 | (refine congrArg (SV.arr _) ?_)
 | (refine congrArg (Value.int _) ?_)
 | (refine congrArg Value.bool ?_)))); all_goals (try unfold Side)
  all_goals try (repeat' (first | (with_reducible rfl) | (with_reducible refine And.intro ?_ ?_) | omega | rfl | exact Or.inl rfl | exact Or.inr rfl | exact of_decide_eq_true rfl | exact Path.imp_of (of_decide_eq_true rfl) | (focus ((try simp only [Int.reduceToNat, Int.reduceTDiv, Int.reduceTMod, List.getD_cons_zero, List.getD_cons_succ, minL, maxL, pickB, getD_int, getD_sl, getD_bool, len_int, len_sl, len_bool, decide_eq_true_eq, decide_eq_false_iff_not, Bool.and_eq_true, Bool.or_eq_true, Bool.and_eq_false_iff, Bool.or_eq_false_iff, Bool.not_eq_true', Bool.not_eq_false', Bool.true_eq_false, Bool.false_eq_true, Int.toNat_natCast, Int.ofNat_lt, Int.ofNat_le, not_true_eq_false, not_false_eq_true, or_false, false_or, and_true, true_and, or_true, true_or, and_false, false_and, InK, Path.imp, List.length_replicate, List.length_set, List.length_append, List.length_cons, List.length_nil] at *); omega)) | (refine app_le rfl ?_; omega)))
theorem index_at (xs : List Int) (v : Int) (hl : xs.length ≤ 1000) : FnAt Try.prog false 73 [.arr (.int .i64) xs, .lit (.int .i64 v)] (.lit (.int .i64 (fidx (fun x => decide (v = x)) 0 xs))) [] := by
  refine FnAt.of_body tys_ok Try.func73 (by rfl) rfl Try.ntmps73 (by rw [Try.results73]) (by simp) ?_
  
  repeat' (first
 | refine W.seq ?_
 | refine W.block ?_
 | (refine W.region tys_ok [] ?_; conv => whnf)
 | (refine W.drawAll tys_ok [] mixed rfl ?_; conv => whnf)
 | (refine W.ret ?_; conv => whnf)
 | (refine W.skip ?_; conv => whnf)
 | (refine W.exit ?_; conv => whnf)

    | (refine W.cond rfl (fun hb => ?_) (fun hb => ?_) <;> (try simp only [Int.reduceToNat, Int.reduceTDiv, Int.reduceTMod, List.getD_cons_zero, List.getD_cons_succ, minL, maxL, pickB, getD_int, getD_sl, getD_bool, len_int, len_sl, len_bool, decide_eq_true_eq, decide_eq_false_iff_not, Bool.and_eq_true, Bool.or_eq_true, Bool.and_eq_false_iff, Bool.or_eq_false_iff, Bool.not_eq_true', Bool.not_eq_false', Bool.true_eq_false, Bool.false_eq_true, Int.toNat_natCast, Int.ofNat_lt, Int.ofNat_le, not_true_eq_false, not_false_eq_true, or_false, false_or, and_true, true_and, or_true, true_or, and_false, false_and] at hb) <;> (try (first | (cases hb; done) | exact absurd hb (by decide) | (exfalso; omega))))
    | ((with_reducible refine And.intro ?_ ?_); (focus ((repeat' (first | (with_reducible rfl) | (with_reducible refine And.intro ?_ ?_) | omega | rfl | exact Or.inl rfl | exact Or.inr rfl | exact of_decide_eq_true rfl | exact Path.imp_of (of_decide_eq_true rfl) | (focus ((try simp only [Int.reduceToNat, Int.reduceTDiv, Int.reduceTMod, List.getD_cons_zero, List.getD_cons_succ, minL, maxL, pickB, getD_int, getD_sl, getD_bool, len_int, len_sl, len_bool, decide_eq_true_eq, decide_eq_false_iff_not, Bool.and_eq_true, Bool.or_eq_true, Bool.and_eq_false_iff, Bool.or_eq_false_iff, Bool.not_eq_true', Bool.not_eq_false', Bool.true_eq_false, Bool.false_eq_true, Int.toNat_natCast, Int.ofNat_lt, Int.ofNat_le, not_true_eq_false, not_false_eq_true, or_false, false_or, and_true, true_and, or_true, true_or, and_false, false_and, InK, Path.imp, List.length_replicate, List.length_set, List.length_append, List.length_cons, List.length_nil] at *); omega)) | (refine app_le rfl ?_; omega))); done)); (conv => whnf))
    | ((with_reducible refine And.intro (Side.out ?_) ?_); rotate_left; (conv => whnf))
    | (refine retF1 ?_ <;> (conv => whnf) <;> repeat' (first
 | exact trivial
 | (with_reducible rfl)
 | ((with_reducible refine And.intro ?_ ?_) <;> conv => whnf)
 | omega
 | rfl
 | (refine congrArg (SV.arr _) ?_)
 | (refine congrArg (Value.int _) ?_)
 | (refine congrArg Value.bool ?_)))
 | (refine retF2 ?_ <;> (conv => whnf) <;> repeat' (first
 | exact trivial
 | (with_reducible rfl)
 | ((with_reducible refine And.intro ?_ ?_) <;> conv => whnf)
 | omega
 | rfl
 | (refine congrArg (SV.arr _) ?_)
 | (refine congrArg (Value.int _) ?_)
 | (refine congrArg Value.bool ?_)))); all_goals (try unfold Side)
  refine W.loop (fun i : Nat => ⟨[(0, .st false (.arr (.int .i64) (xs : List Int))), (1, .lit (.int .i64 (v))), (7, .lit (.int .i64 (@List.length (Ty.int .i64).T xs))), (8, .lit (.int .i64 (i)))], []⟩) (fun i => i ≤ xs.length ∧ fidx (fun x => decide (v = x)) 0 xs = fidx (fun x => decide (v = x)) i (xs.drop i)) (fun i => xs.length - i) (0) ?_ ?_
  · refine ⟨⟨Nat.zero_le _, rfl⟩, ?_⟩
    refine subF.ok ?_ <;> (conv => whnf) <;> repeat' (first
 | exact trivial
 | (with_reducible rfl)
 | ((with_reducible refine And.intro ?_ ?_) <;> conv => whnf)
 | omega
 | rfl
 | (refine congrArg (SV.arr _) ?_)
 | (refine congrArg (Value.int _) ?_)
 | (refine congrArg Value.bool ?_))
  · rintro i ⟨hi, hv⟩
    by_cases hil : i < xs.length
    · rw [drop_getD 0 hil, fidx] at hv
      repeat' (first
 | refine W.seq ?_
 | refine W.block ?_
 | (refine W.region tys_ok [] ?_; conv => whnf)
 | (refine W.drawAll tys_ok [] mixed rfl ?_; conv => whnf)
 | (refine W.ret ?_; conv => whnf)
 | (refine W.skip ?_; conv => whnf)
 | (refine W.exit ?_; conv => whnf)

    | (refine W.cond rfl (fun hb => ?_) (fun hb => ?_) <;> (try simp only [Int.reduceToNat, Int.reduceTDiv, Int.reduceTMod, List.getD_cons_zero, List.getD_cons_succ, minL, maxL, pickB, getD_int, getD_sl, getD_bool, len_int, len_sl, len_bool, decide_eq_true_eq, decide_eq_false_iff_not, Bool.and_eq_true, Bool.or_eq_true, Bool.and_eq_false_iff, Bool.or_eq_false_iff, Bool.not_eq_true', Bool.not_eq_false', Bool.true_eq_false, Bool.false_eq_true, Int.toNat_natCast, Int.ofNat_lt, Int.ofNat_le, not_true_eq_false, not_false_eq_true, or_false, false_or, and_true, true_and, or_true, true_or, and_false, false_and] at hb) <;> (try (first | (cases hb; done) | exact absurd hb (by decide) | (exfalso; omega))))
    | ((with_reducible refine And.intro ?_ ?_); (focus ((repeat' (first | (with_reducible rfl) | (with_reducible refine And.intro ?_ ?_) | omega | rfl | exact Or.inl rfl | exact Or.inr rfl | exact of_decide_eq_true rfl | exact Path.imp_of (of_decide_eq_true rfl) | (focus ((try simp only [Int.reduceToNat, Int.reduceTDiv, Int.reduceTMod, List.getD_cons_zero, List.getD_cons_succ, minL, maxL, pickB, getD_int, getD_sl, getD_bool, len_int, len_sl, len_bool, decide_eq_true_eq, decide_eq_false_iff_not, Bool.and_eq_true, Bool.or_eq_true, Bool.and_eq_false_iff, Bool.or_eq_false_iff, Bool.not_eq_true', Bool.not_eq_false', Bool.true_eq_false, Bool.false_eq_true, Int.toNat_natCast, Int.ofNat_lt, Int.ofNat_le, not_true_eq_false, not_false_eq_true, or_false, false_or, and_true, true_and, or_true, true_or, and_false, false_and, InK, Path.imp, List.length_replicate, List.length_set, List.length_append, List.length_cons, List.length_nil] at *); omega)) | (refine app_le rfl ?_; omega))); done)); (conv => whnf))
    | ((with_reducible refine And.intro (Side.out ?_) ?_); rotate_left; (conv => whnf))
    | (refine retF1 ?_ <;> (conv => whnf) <;> repeat' (first
 | exact trivial
 | (with_reducible rfl)
 | ((with_reducible refine And.intro ?_ ?_) <;> conv => whnf)
 | omega
 | rfl
 | (refine congrArg (SV.arr _) ?_)
 | (refine congrArg (Value.int _) ?_)
 | (refine congrArg Value.bool ?_)))
 | (refine retF2 ?_ <;> (conv => whnf) <;> repeat' (first
 | exact trivial
 | (with_reducible rfl)
 | ((with_reducible refine And.intro ?_ ?_) <;> conv => whnf)
 | omega
 | rfl
 | (refine congrArg (SV.arr _) ?_)
 | (refine congrArg (Value.int _) ?_)
 | (refine congrArg Value.bool ?_)))); all_goals (try unfold Side)
      all_goals try (repeat' (first | (with_reducible rfl) | (with_reducible refine And.intro ?_ ?_) | omega | rfl | exact Or.inl rfl | exact Or.inr rfl | exact of_decide_eq_true rfl | exact Path.imp_of (of_decide_eq_true rfl) | (focus ((try simp only [Int.reduceToNat, Int.reduceTDiv, Int.reduceTMod, List.getD_cons_zero, List.getD_cons_succ, minL, maxL, pickB, getD_int, getD_sl, getD_bool, len_int, len_sl, len_bool, decide_eq_true_eq, decide_eq_false_iff_not, Bool.and_eq_true, Bool.or_eq_true, Bool.and_eq_false_iff, Bool.or_eq_false_iff, Bool.not_eq_true', Bool.not_eq_false', Bool.true_eq_false, Bool.false_eq_true, Int.toNat_natCast, Int.ofNat_lt, Int.ofNat_le, not_true_eq_false, not_false_eq_true, or_false, false_or, and_true, true_and, or_true, true_or, and_false, false_and, InK, Path.imp, List.length_replicate, List.length_set, List.length_append, List.length_cons, List.length_nil] at *); omega)) | (refine app_le rfl ?_; omega)))
      · rw [hv, decide_eq_true hb]; rfl
      · refine ⟨i + 1, ⟨⟨by omega, ?_⟩, by omega⟩, ?_⟩
        · rw [hv, decide_eq_false hb]; rfl
        · refine subF.ok ?_ <;> (conv => whnf) <;> repeat' (first
 | exact trivial
 | (with_reducible rfl)
 | ((with_reducible refine And.intro ?_ ?_) <;> conv => whnf)
 | omega
 | rfl
 | (refine congrArg (SV.arr _) ?_)
 | (refine congrArg (Value.int _) ?_)
 | (refine congrArg Value.bool ?_))
    · have hie : xs.length = i := by omega
      subst hie
      rw [List.drop_length, fidx] at hv
      repeat' (first
 | refine W.seq ?_
 | refine W.block ?_
 | (refine W.region tys_ok [] ?_; conv => whnf)
 | (refine W.drawAll tys_ok [] mixed rfl ?_; conv => whnf)
 | (refine W.ret ?_; conv => whnf)
 | (refine W.skip ?_; conv => whnf)
 | (refine W.exit ?_; conv => whnf)

    | (refine W.cond rfl (fun hb => ?_) (fun hb => ?_) <;> (try simp only [Int.reduceToNat, Int.reduceTDiv, Int.reduceTMod, List.getD_cons_zero, List.getD_cons_succ, minL, maxL, pickB, getD_int, getD_sl, getD_bool, len_int, len_sl, len_bool, decide_eq_true_eq, decide_eq_false_iff_not, Bool.and_eq_true, Bool.or_eq_true, Bool.and_eq_false_iff, Bool.or_eq_false_iff, Bool.not_eq_true', Bool.not_eq_false', Bool.true_eq_false, Bool.false_eq_true, Int.toNat_natCast, Int.ofNat_lt, Int.ofNat_le, not_true_eq_false, not_false_eq_true, or_false, false_or, and_true, true_and, or_true, true_or, and_false, false_and] at hb) <;> (try (first | (cases hb; done) | exact absurd hb (by decide) | (exfalso; omega))))
    | ((with_reducible refine And.intro ?_ ?_); (focus ((repeat' (first | (with_reducible rfl) | (with_reducible refine And.intro ?_ ?_) | omega | rfl | exact Or.inl rfl | exact Or.inr rfl | exact of_decide_eq_true rfl | exact Path.imp_of (of_decide_eq_true rfl) | (focus ((try simp only [Int.reduceToNat, Int.reduceTDiv, Int.reduceTMod, List.getD_cons_zero, List.getD_cons_succ, minL, maxL, pickB, getD_int, getD_sl, getD_bool, len_int, len_sl, len_bool, decide_eq_true_eq, decide_eq_false_iff_not, Bool.and_eq_true, Bool.or_eq_true, Bool.and_eq_false_iff, Bool.or_eq_false_iff, Bool.not_eq_true', Bool.not_eq_false', Bool.true_eq_false, Bool.false_eq_true, Int.toNat_natCast, Int.ofNat_lt, Int.ofNat_le, not_true_eq_false, not_false_eq_true, or_false, false_or, and_true, true_and, or_true, true_or, and_false, false_and, InK, Path.imp, List.length_replicate, List.length_set, List.length_append, List.length_cons, List.length_nil] at *); omega)) | (refine app_le rfl ?_; omega))); done)); (conv => whnf))
    | ((with_reducible refine And.intro (Side.out ?_) ?_); rotate_left; (conv => whnf))
    | (refine retF1 ?_ <;> (conv => whnf) <;> repeat' (first
 | exact trivial
 | (with_reducible rfl)
 | ((with_reducible refine And.intro ?_ ?_) <;> conv => whnf)
 | omega
 | rfl
 | (refine congrArg (SV.arr _) ?_)
 | (refine congrArg (Value.int _) ?_)
 | (refine congrArg Value.bool ?_)))
 | (refine retF2 ?_ <;> (conv => whnf) <;> repeat' (first
 | exact trivial
 | (with_reducible rfl)
 | ((with_reducible refine And.intro ?_ ?_) <;> conv => whnf)
 | omega
 | rfl
 | (refine congrArg (SV.arr _) ?_)
 | (refine congrArg (Value.int _) ?_)
 | (refine congrArg Value.bool ?_)))); all_goals (try unfold Side)
      all_goals try (repeat' (first | (with_reducible rfl) | (with_reducible refine And.intro ?_ ?_) | omega | rfl | exact Or.inl rfl | exact Or.inr rfl | exact of_decide_eq_true rfl | exact Path.imp_of (of_decide_eq_true rfl) | (focus ((try simp only [Int.reduceToNat, Int.reduceTDiv, Int.reduceTMod, List.getD_cons_zero, List.getD_cons_succ, minL, maxL, pickB, getD_int, getD_sl, getD_bool, len_int, len_sl, len_bool, decide_eq_true_eq, decide_eq_false_iff_not, Bool.and_eq_true, Bool.or_eq_true, Bool.and_eq_false_iff, Bool.or_eq_false_iff, Bool.not_eq_true', Bool.not_eq_false', Bool.true_eq_false, Bool.false_eq_true, Int.toNat_natCast, Int.ofNat_lt, Int.ofNat_le, not_true_eq_false, not_false_eq_true, or_false, false_or, and_true, true_and, or_true, true_or, and_false, false_and, InK, Path.imp, List.length_replicate, List.length_set, List.length_append, List.length_cons, List.length_nil] at *); omega)) | (refine app_le rfl ?_; omega)))
      all_goals exact hv.symm
theorem index_lit (xs : List Int) (v j : Int) (hl : xs.length ≤ 1000) (h : fidx (fun x => decide (v = x)) 0 xs = j) : FnAt Try.prog false 73 [.arr (.int .i64) xs, .lit (.int .i64 v)] (.lit (.int .i64 j)) [] := by
  rw [← h]; exact index_at xs v hl

set_option maxHeartbeats 4000000 in
theorem next_fpp {w s : List Int} {n x p q : Nat} {st : Int} (h : Word w n) (hn : n ≤ 10) (hl : s.length = n) (h0 : -((2 * n : Nat) : Int) ≤ st) (h1 : st < (2 * n : Nat)) (hx : x < n) (hpq : p < q) (hq : q < 2 * n)
    (hpl : placesT w x = [(p : Int), (q : Int)]) (hwa : w.getD p 0 = x) (hc : 0 ≤ st) (hat : (st + 1).tmod ((2 * n : Nat) : Int) = p) (hs : s.getD x 0 = 1) : FnAt Try.prog false 66 [curveT n w, .lit (.int .i64 st), .arr (.int .i64) s] (.lit (.int .i64 (-1 - ((q : Int) + (2 * n : Nat) - 1).tmod (2 * n : Nat)))) [] := by
  have hwl : @List.length (Ty.int .i64).T w = 2 * n := h.len
  have hsl : @List.length (Ty.int .i64).T s = n := hl
  have hPl : @List.length (Ty.sl (.int .i64)).T (PT w n) = n := PT_len
  have hPx : (PT w n).getD x [] = [(p : Int), (q : Int)] := (PT_get hx).trans hpl
  have hPs : @List.length (Ty.int .i64).T (@List.getD (Ty.sl (.int .i64)).T (PT w n) x (Ty.sl (.int .i64)).dflt) = 2 := by
    show ((PT w n).getD x []).length = 2
    rw [hPx]; rfl
  have hPs2 : ((PT w n).getD x []).length = 2 := hPs
  have hp2 : ((PT w n).getD x []).getD 0 0 = (p : Int) := by rw [hPx]; rfl
  have hq2 : ((PT w n).getD x []).getD 1 0 = (q : Int) := by rw [hPx]; rfl
  have ht0 := Int.tmod_nonneg (a := (q : Int) + (2 * n : Nat) - 1) (2 * n : Nat) (by omega)
  have ht1 := Int.tmod_lt_of_pos ((q : Int) + (2 * n : Nat) - 1) (b := (2 * n : Nat)) (by omega)
  have har : FnAt Try.prog false 72 [.lit (.int .i64 (s.getD x 0))] (.strct [.lit (.int .i64 0), .lit (.int .i64 2), .lit (.int .i64 1), .lit (.int .i64 3)]) [] := by
    rw [hs]; exact around_p
  refine FnAt.of_body tys_ok Try.func66 (by rfl) rfl Try.ntmps66 (by rw [Try.results66]) (by simp) ?_
  
  repeat' (first
 | refine W.seq ?_
 | refine W.block ?_
 | (refine W.resub (x := Code.region 6 _ _) (Γ' := ⟨[(0, .st false (curveT n w)), (1, .lit (.int .i64 (st))), (2, .st false (.arr (.int .i64) (s : List Int))), (7, .lit (.int .i64 (@List.length (Ty.int .i64).T w))), (8, .lit (.int .i64 (p))), (9, .lit (.bool (true)))], []⟩) ?_ (W.region tys_ok [] ?_); rotate_left; (conv => whnf))
 | (refine W.resub (x := Code.region 7 _ _) (Γ' := ⟨[(0, .st false (curveT n w)), (1, .lit (.int .i64 (st))), (2, .st false (.arr (.int .i64) (s : List Int))), (7, .lit (.int .i64 (@List.length (Ty.int .i64).T w))), (8, .lit (.int .i64 (p))), (9, .lit (.bool (true))), (10, .lit (.int .i64 (x)))], []⟩) ?_ (W.region tys_ok [] ?_); rotate_left; (conv => whnf))
 | (refine W.resub (x := Code.region 13 _ _) (Γ' := ⟨[(0, .st false (curveT n w)), (1, .lit (.int .i64 (st))), (2, .st false (.arr (.int .i64) (s : List Int))), (7, .lit (.int .i64 (@List.length (Ty.int .i64).T w))), (8, .lit (.int .i64 (p))), (9, .lit (.bool (true))), (10, .lit (.int .i64 (x))), (11, .lit (.int .i64 (0))), (12, .st true (.sadr (.agg [.lit (.int .i64 0), .lit (.int .i64 2), .lit (.int .i64 1), .lit (.int .i64 3)])))], []⟩) ?_ (W.region tys_ok [] ?_); rotate_left; (conv => whnf))
 | (refine W.resub (x := Code.region 15 _ _) (Γ' := ⟨[(0, .st false (curveT n w)), (1, .lit (.int .i64 (st))), (2, .st false (.arr (.int .i64) (s : List Int))), (7, .lit (.int .i64 ((2 * n : Nat)))), (8, .lit (.int .i64 (p))), (9, .lit (.bool (true))), (13, .lit (.int .i64 (2))), (14, .lit (.int .i64 (q)))], []⟩) ?_ (W.region tys_ok [] ?_); rotate_left; (conv => whnf))
 | (refine W.region tys_ok [] ?_; conv => whnf)
 | (refine W.drawAll tys_ok [] mixed rfl ?_; conv => whnf)
 | (refine W.ret ?_; conv => whnf)
 | (refine W.skip ?_; conv => whnf)
 | (refine W.exit ?_; conv => whnf)
 | (refine call_at (al := false) (har) rfl rfl rfl rfl ?_; conv => whnf)
 | (refine call_at (al := false) (index_lit [0, 2, 1, 3] 0 0 (by decide) rfl) rfl rfl rfl rfl ?_; conv => whnf)

    | (refine W.cond rfl (fun hb => ?_) (fun hb => ?_) <;> (try simp only [Int.reduceToNat, Int.reduceTDiv, Int.reduceTMod, List.getD_cons_zero, List.getD_cons_succ, minL, maxL, pickB, getD_int, getD_sl, getD_bool, len_int, len_sl, len_bool, decide_eq_true_eq, decide_eq_false_iff_not, Bool.and_eq_true, Bool.or_eq_true, Bool.and_eq_false_iff, Bool.or_eq_false_iff, Bool.not_eq_true', Bool.not_eq_false', Bool.true_eq_false, Bool.false_eq_true, Int.toNat_natCast, Int.ofNat_lt, Int.ofNat_le, not_true_eq_false, not_false_eq_true, or_false, false_or, and_true, true_and, or_true, true_or, and_false, false_and] at hb) <;> (try (first | (cases hb; done) | exact absurd hb (by decide) | (exfalso; omega))))
    | ((with_reducible refine And.intro ?_ ?_); (focus ((repeat' (first | (with_reducible rfl) | (with_reducible refine And.intro ?_ ?_) | omega | rfl | exact Or.inl rfl | exact Or.inr rfl | exact of_decide_eq_true rfl | exact Path.imp_of (of_decide_eq_true rfl) | (focus ((try simp only [Int.reduceToNat, Int.reduceTDiv, Int.reduceTMod, List.getD_cons_zero, List.getD_cons_succ, minL, maxL, pickB, getD_int, getD_sl, getD_bool, len_int, len_sl, len_bool, decide_eq_true_eq, decide_eq_false_iff_not, Bool.and_eq_true, Bool.or_eq_true, Bool.and_eq_false_iff, Bool.or_eq_false_iff, Bool.not_eq_true', Bool.not_eq_false', Bool.true_eq_false, Bool.false_eq_true, Int.toNat_natCast, Int.ofNat_lt, Int.ofNat_le, not_true_eq_false, not_false_eq_true, or_false, false_or, and_true, true_and, or_true, true_or, and_false, false_and, InK, Path.imp, List.length_replicate, List.length_set, List.length_append, List.length_cons, List.length_nil] at *); omega)) | (refine app_le rfl ?_; omega))); done)); (conv => whnf))
    | ((with_reducible refine And.intro (Side.out ?_) ?_); rotate_left; (conv => whnf))
    | (refine retF1 ?_ <;> (conv => whnf) <;> repeat' (first
 | exact trivial
 | (with_reducible rfl)
 | ((with_reducible refine And.intro ?_ ?_) <;> conv => whnf)
 | omega
 | rfl
 | (refine congrArg (SV.arr _) ?_)
 | (refine congrArg (Value.int _) ?_)
 | (refine congrArg Value.bool ?_)))
 | (refine retF2 ?_ <;> (conv => whnf) <;> repeat' (first
 | exact trivial
 | (with_reducible rfl)
 | ((with_reducible refine And.intro ?_ ?_) <;> conv => whnf)
 | omega
 | rfl
 | (refine congrArg (SV.arr _) ?_)
 | (refine congrArg (Value.int _) ?_)
 | (refine congrArg Value.bool ?_)))); all_goals (try unfold Side)
  all_goals try (repeat' (first | (with_reducible rfl) | (with_reducible refine And.intro ?_ ?_) | omega | rfl | exact Or.inl rfl | exact Or.inr rfl | exact of_decide_eq_true rfl | exact Path.imp_of (of_decide_eq_true rfl) | (focus ((try simp only [Int.reduceToNat, Int.reduceTDiv, Int.reduceTMod, List.getD_cons_zero, List.getD_cons_succ, minL, maxL, pickB, getD_int, getD_sl, getD_bool, len_int, len_sl, len_bool, decide_eq_true_eq, decide_eq_false_iff_not, Bool.and_eq_true, Bool.or_eq_true, Bool.and_eq_false_iff, Bool.or_eq_false_iff, Bool.not_eq_true', Bool.not_eq_false', Bool.true_eq_false, Bool.false_eq_true, Int.toNat_natCast, Int.ofNat_lt, Int.ofNat_le, not_true_eq_false, not_false_eq_true, or_false, false_or, and_true, true_and, or_true, true_or, and_false, false_and, InK, Path.imp, List.length_replicate, List.length_set, List.length_append, List.length_cons, List.length_nil] at *); omega)) | (refine app_le rfl ?_; omega)))
  all_goals first | (refine subF.ok ?_ <;> (conv => whnf) <;> repeat' (first
 | exact trivial
 | (with_reducible rfl)
 | ((with_reducible refine And.intro ?_ ?_) <;> conv => whnf)
 | omega
 | rfl
 | (refine congrArg (SV.arr _) ?_)
 | (refine congrArg (Value.int _) ?_)
 | (refine congrArg Value.bool ?_))) | skip
  all_goals try (repeat' (first | (with_reducible rfl) | (with_reducible refine And.intro ?_ ?_) | omega | rfl | exact Or.inl rfl | exact Or.inr rfl | exact of_decide_eq_true rfl | exact Path.imp_of (of_decide_eq_true rfl) | (focus ((try simp only [Int.reduceToNat, Int.reduceTDiv, Int.reduceTMod, List.getD_cons_zero, List.getD_cons_succ, minL, maxL, pickB, getD_int, getD_sl, getD_bool, len_int, len_sl, len_bool, decide_eq_true_eq, decide_eq_false_iff_not, Bool.and_eq_true, Bool.or_eq_true, Bool.and_eq_false_iff, Bool.or_eq_false_iff, Bool.not_eq_true', Bool.not_eq_false', Bool.true_eq_false, Bool.false_eq_true, Int.toNat_natCast, Int.ofNat_lt, Int.ofNat_le, not_true_eq_false, not_false_eq_true, or_false, false_or, and_true, true_and, or_true, true_or, and_false, false_and, InK, Path.imp, List.length_replicate, List.length_set, List.length_append, List.length_cons, List.length_nil] at *); omega)) | (refine app_le rfl ?_; omega)))
  all_goals (rw [hwl]; exact hat)
set_option maxHeartbeats 4000000 in
theorem next_fpq {w s : List Int} {n x p q : Nat} {st : Int} (h : Word w n) (hn : n ≤ 10) (hl : s.length = n) (h0 : -((2 * n : Nat) : Int) ≤ st) (h1 : st < (2 * n : Nat)) (hx : x < n) (hpq : p < q) (hq : q < 2 * n)
    (hpl : placesT w x = [(p : Int), (q : Int)]) (hwa : w.getD q 0 = x) (hc : 0 ≤ st) (hat : (st + 1).tmod ((2 * n : Nat) : Int) = q) (hs : s.getD x 0 = 1) : FnAt Try.prog false 66 [curveT n w, .lit (.int .i64 st), .arr (.int .i64) s] (.lit (.int .i64 ((p : Int)))) [] := by
  have hwl : @List.length (Ty.int .i64).T w = 2 * n := h.len
  have hsl : @List.length (Ty.int .i64).T s = n := hl
  have hPl : @List.length (Ty.sl (.int .i64)).T (PT w n) = n := PT_len
  have hPx : (PT w n).getD x [] = [(p : Int), (q : Int)] := (PT_get hx).trans hpl
  have hPs : @List.length (Ty.int .i64).T (@List.getD (Ty.sl (.int .i64)).T (PT w n) x (Ty.sl (.int .i64)).dflt) = 2 := by
    show ((PT w n).getD x []).length = 2
    rw [hPx]; rfl
  have hPs2 : ((PT w n).getD x []).length = 2 := hPs
  have hp2 : ((PT w n).getD x []).getD 0 0 = (p : Int) := by rw [hPx]; rfl
  have hq2 : ((PT w n).getD x []).getD 1 0 = (q : Int) := by rw [hPx]; rfl
  have ht0 := Int.tmod_nonneg (a := (p : Int) + (2 * n : Nat) - 1) (2 * n : Nat) (by omega)
  have ht1 := Int.tmod_lt_of_pos ((p : Int) + (2 * n : Nat) - 1) (b := (2 * n : Nat)) (by omega)
  have har : FnAt Try.prog false 72 [.lit (.int .i64 (s.getD x 0))] (.strct [.lit (.int .i64 0), .lit (.int .i64 2), .lit (.int .i64 1), .lit (.int .i64 3)]) [] := by
    rw [hs]; exact around_p
  refine FnAt.of_body tys_ok Try.func66 (by rfl) rfl Try.ntmps66 (by rw [Try.results66]) (by simp) ?_
  
  repeat' (first
 | refine W.seq ?_
 | refine W.block ?_
 | (refine W.resub (x := Code.region 6 _ _) (Γ' := ⟨[(0, .st false (curveT n w)), (1, .lit (.int .i64 (st))), (2, .st false (.arr (.int .i64) (s : List Int))), (7, .lit (.int .i64 (@List.length (Ty.int .i64).T w))), (8, .lit (.int .i64 (q))), (9, .lit (.bool (true)))], []⟩) ?_ (W.region tys_ok [] ?_); rotate_left; (conv => whnf))
 | (refine W.resub (x := Code.region 7 _ _) (Γ' := ⟨[(0, .st false (curveT n w)), (1, .lit (.int .i64 (st))), (2, .st false (.arr (.int .i64) (s : List Int))), (7, .lit (.int .i64 (@List.length (Ty.int .i64).T w))), (8, .lit (.int .i64 (q))), (9, .lit (.bool (true))), (10, .lit (.int .i64 (x)))], []⟩) ?_ (W.region tys_ok [] ?_); rotate_left; (conv => whnf))
 | (refine W.resub (x := Code.region 13 _ _) (Γ' := ⟨[(0, .st false (curveT n w)), (1, .lit (.int .i64 (st))), (2, .st false (.arr (.int .i64) (s : List Int))), (7, .lit (.int .i64 (@List.length (Ty.int .i64).T w))), (8, .lit (.int .i64 (q))), (9, .lit (.bool (true))), (10, .lit (.int .i64 (x))), (11, .lit (.int .i64 (2))), (12, .st true (.sadr (.agg [.lit (.int .i64 0), .lit (.int .i64 2), .lit (.int .i64 1), .lit (.int .i64 3)])))], []⟩) ?_ (W.region tys_ok [] ?_); rotate_left; (conv => whnf))
 | (refine W.resub (x := Code.region 15 _ _) (Γ' := ⟨[(0, .st false (curveT n w)), (1, .lit (.int .i64 (st))), (2, .st false (.arr (.int .i64) (s : List Int))), (7, .lit (.int .i64 ((2 * n : Nat)))), (8, .lit (.int .i64 (q))), (9, .lit (.bool (true))), (13, .lit (.int .i64 (1))), (14, .lit (.int .i64 (p)))], []⟩) ?_ (W.region tys_ok [] ?_); rotate_left; (conv => whnf))
 | (refine W.region tys_ok [] ?_; conv => whnf)
 | (refine W.drawAll tys_ok [] mixed rfl ?_; conv => whnf)
 | (refine W.ret ?_; conv => whnf)
 | (refine W.skip ?_; conv => whnf)
 | (refine W.exit ?_; conv => whnf)
 | (refine call_at (al := false) (har) rfl rfl rfl rfl ?_; conv => whnf)
 | (refine call_at (al := false) (index_lit [0, 2, 1, 3] 2 1 (by decide) rfl) rfl rfl rfl rfl ?_; conv => whnf)

    | (refine W.cond rfl (fun hb => ?_) (fun hb => ?_) <;> (try simp only [Int.reduceToNat, Int.reduceTDiv, Int.reduceTMod, List.getD_cons_zero, List.getD_cons_succ, minL, maxL, pickB, getD_int, getD_sl, getD_bool, len_int, len_sl, len_bool, decide_eq_true_eq, decide_eq_false_iff_not, Bool.and_eq_true, Bool.or_eq_true, Bool.and_eq_false_iff, Bool.or_eq_false_iff, Bool.not_eq_true', Bool.not_eq_false', Bool.true_eq_false, Bool.false_eq_true, Int.toNat_natCast, Int.ofNat_lt, Int.ofNat_le, not_true_eq_false, not_false_eq_true, or_false, false_or, and_true, true_and, or_true, true_or, and_false, false_and] at hb) <;> (try (first | (cases hb; done) | exact absurd hb (by decide) | (exfalso; omega))))
    | ((with_reducible refine And.intro ?_ ?_); (focus ((repeat' (first | (with_reducible rfl) | (with_reducible refine And.intro ?_ ?_) | omega | rfl | exact Or.inl rfl | exact Or.inr rfl | exact of_decide_eq_true rfl | exact Path.imp_of (of_decide_eq_true rfl) | (focus ((try simp only [Int.reduceToNat, Int.reduceTDiv, Int.reduceTMod, List.getD_cons_zero, List.getD_cons_succ, minL, maxL, pickB, getD_int, getD_sl, getD_bool, len_int, len_sl, len_bool, decide_eq_true_eq, decide_eq_false_iff_not, Bool.and_eq_true, Bool.or_eq_true, Bool.and_eq_false_iff, Bool.or_eq_false_iff, Bool.not_eq_true', Bool.not_eq_false', Bool.true_eq_false, Bool.false_eq_true, Int.toNat_natCast, Int.ofNat_lt, Int.ofNat_le, not_true_eq_false, not_false_eq_true, or_false, false_or, and_true, true_and, or_true, true_or, and_false, false_and, InK, Path.imp, List.length_replicate, List.length_set, List.length_append, List.length_cons, List.length_nil] at *); omega)) | (refine app_le rfl ?_; omega))); done)); (conv => whnf))
    | ((with_reducible refine And.intro (Side.out ?_) ?_); rotate_left; (conv => whnf))
    | (refine retF1 ?_ <;> (conv => whnf) <;> repeat' (first
 | exact trivial
 | (with_reducible rfl)
 | ((with_reducible refine And.intro ?_ ?_) <;> conv => whnf)
 | omega
 | rfl
 | (refine congrArg (SV.arr _) ?_)
 | (refine congrArg (Value.int _) ?_)
 | (refine congrArg Value.bool ?_)))
 | (refine retF2 ?_ <;> (conv => whnf) <;> repeat' (first
 | exact trivial
 | (with_reducible rfl)
 | ((with_reducible refine And.intro ?_ ?_) <;> conv => whnf)
 | omega
 | rfl
 | (refine congrArg (SV.arr _) ?_)
 | (refine congrArg (Value.int _) ?_)
 | (refine congrArg Value.bool ?_)))); all_goals (try unfold Side)
  all_goals try (repeat' (first | (with_reducible rfl) | (with_reducible refine And.intro ?_ ?_) | omega | rfl | exact Or.inl rfl | exact Or.inr rfl | exact of_decide_eq_true rfl | exact Path.imp_of (of_decide_eq_true rfl) | (focus ((try simp only [Int.reduceToNat, Int.reduceTDiv, Int.reduceTMod, List.getD_cons_zero, List.getD_cons_succ, minL, maxL, pickB, getD_int, getD_sl, getD_bool, len_int, len_sl, len_bool, decide_eq_true_eq, decide_eq_false_iff_not, Bool.and_eq_true, Bool.or_eq_true, Bool.and_eq_false_iff, Bool.or_eq_false_iff, Bool.not_eq_true', Bool.not_eq_false', Bool.true_eq_false, Bool.false_eq_true, Int.toNat_natCast, Int.ofNat_lt, Int.ofNat_le, not_true_eq_false, not_false_eq_true, or_false, false_or, and_true, true_and, or_true, true_or, and_false, false_and, InK, Path.imp, List.length_replicate, List.length_set, List.length_append, List.length_cons, List.length_nil] at *); omega)) | (refine app_le rfl ?_; omega)))
  all_goals first | (refine subF.ok ?_ <;> (conv => whnf) <;> repeat' (first
 | exact trivial
 | (with_reducible rfl)
 | ((with_reducible refine And.intro ?_ ?_) <;> conv => whnf)
 | omega
 | rfl
 | (refine congrArg (SV.arr _) ?_)
 | (refine congrArg (Value.int _) ?_)
 | (refine congrArg Value.bool ?_))) | skip
  all_goals try (repeat' (first | (with_reducible rfl) | (with_reducible refine And.intro ?_ ?_) | omega | rfl | exact Or.inl rfl | exact Or.inr rfl | exact of_decide_eq_true rfl | exact Path.imp_of (of_decide_eq_true rfl) | (focus ((try simp only [Int.reduceToNat, Int.reduceTDiv, Int.reduceTMod, List.getD_cons_zero, List.getD_cons_succ, minL, maxL, pickB, getD_int, getD_sl, getD_bool, len_int, len_sl, len_bool, decide_eq_true_eq, decide_eq_false_iff_not, Bool.and_eq_true, Bool.or_eq_true, Bool.and_eq_false_iff, Bool.or_eq_false_iff, Bool.not_eq_true', Bool.not_eq_false', Bool.true_eq_false, Bool.false_eq_true, Int.toNat_natCast, Int.ofNat_lt, Int.ofNat_le, not_true_eq_false, not_false_eq_true, or_false, false_or, and_true, true_and, or_true, true_or, and_false, false_and, InK, Path.imp, List.length_replicate, List.length_set, List.length_append, List.length_cons, List.length_nil] at *); omega)) | (refine app_le rfl ?_; omega)))
  all_goals (rw [hwl]; exact hat)
set_option maxHeartbeats 4000000 in
theorem next_fmp {w s : List Int} {n x p q : Nat} {st : Int} (h : Word w n) (hn : n ≤ 10) (hl : s.length = n) (h0 : -((2 * n : Nat) : Int) ≤ st) (h1 : st < (2 * n : Nat)) (hx : x < n) (hpq : p < q) (hq : q < 2 * n)
    (hpl : placesT w x = [(p : Int), (q : Int)]) (hwa : w.getD p 0 = x) (hc : 0 ≤ st) (hat : (st + 1).tmod ((2 * n : Nat) : Int) = p) (hs : s.getD x 0 = -1) : FnAt Try.prog false 66 [curveT n w, .lit (.int .i64 st), .arr (.int .i64) s] (.lit (.int .i64 ((q : Int)))) [] := by
  have hwl : @List.length (Ty.int .i64).T w = 2 * n := h.len
  have hsl : @List.length (Ty.int .i64).T s = n := hl
  have hPl : @List.length (Ty.sl (.int .i64)).T (PT w n) = n := PT_len
  have hPx : (PT w n).getD x [] = [(p : Int), (q : Int)] := (PT_get hx).trans hpl
  have hPs : @List.length (Ty.int .i64).T (@List.getD (Ty.sl (.int .i64)).T (PT w n) x (Ty.sl (.int .i64)).dflt) = 2 := by
    show ((PT w n).getD x []).length = 2
    rw [hPx]; rfl
  have hPs2 : ((PT w n).getD x []).length = 2 := hPs
  have hp2 : ((PT w n).getD x []).getD 0 0 = (p : Int) := by rw [hPx]; rfl
  have hq2 : ((PT w n).getD x []).getD 1 0 = (q : Int) := by rw [hPx]; rfl
  have ht0 := Int.tmod_nonneg (a := (q : Int) + (2 * n : Nat) - 1) (2 * n : Nat) (by omega)
  have ht1 := Int.tmod_lt_of_pos ((q : Int) + (2 * n : Nat) - 1) (b := (2 * n : Nat)) (by omega)
  have har : FnAt Try.prog false 72 [.lit (.int .i64 (s.getD x 0))] (.strct [.lit (.int .i64 0), .lit (.int .i64 3), .lit (.int .i64 1), .lit (.int .i64 2)]) [] := by
    rw [hs]; exact around_m
  refine FnAt.of_body tys_ok Try.func66 (by rfl) rfl Try.ntmps66 (by rw [Try.results66]) (by simp) ?_
  
  repeat' (first
 | refine W.seq ?_
 | refine W.block ?_
 | (refine W.resub (x := Code.region 6 _ _) (Γ' := ⟨[(0, .st false (curveT n w)), (1, .lit (.int .i64 (st))), (2, .st false (.arr (.int .i64) (s : List Int))), (7, .lit (.int .i64 (@List.length (Ty.int .i64).T w))), (8, .lit (.int .i64 (p))), (9, .lit (.bool (true)))], []⟩) ?_ (W.region tys_ok [] ?_); rotate_left; (conv => whnf))
 | (refine W.resub (x := Code.region 7 _ _) (Γ' := ⟨[(0, .st false (curveT n w)), (1, .lit (.int .i64 (st))), (2, .st false (.arr (.int .i64) (s : List Int))), (7, .lit (.int .i64 (@List.length (Ty.int .i64).T w))), (8, .lit (.int .i64 (p))), (9, .lit (.bool (true))), (10, .lit (.int .i64 (x)))], []⟩) ?_ (W.region tys_ok [] ?_); rotate_left; (conv => whnf))
 | (refine W.resub (x := Code.region 13 _ _) (Γ' := ⟨[(0, .st false (curveT n w)), (1, .lit (.int .i64 (st))), (2, .st false (.arr (.int .i64) (s : List Int))), (7, .lit (.int .i64 (@List.length (Ty.int .i64).T w))), (8, .lit (.int .i64 (p))), (9, .lit (.bool (true))), (10, .lit (.int .i64 (x))), (11, .lit (.int .i64 (0))), (12, .st true (.sadr (.agg [.lit (.int .i64 0), .lit (.int .i64 3), .lit (.int .i64 1), .lit (.int .i64 2)])))], []⟩) ?_ (W.region tys_ok [] ?_); rotate_left; (conv => whnf))
 | (refine W.resub (x := Code.region 15 _ _) (Γ' := ⟨[(0, .st false (curveT n w)), (1, .lit (.int .i64 (st))), (2, .st false (.arr (.int .i64) (s : List Int))), (7, .lit (.int .i64 ((2 * n : Nat)))), (8, .lit (.int .i64 (p))), (9, .lit (.bool (true))), (13, .lit (.int .i64 (3))), (14, .lit (.int .i64 (q)))], []⟩) ?_ (W.region tys_ok [] ?_); rotate_left; (conv => whnf))
 | (refine W.region tys_ok [] ?_; conv => whnf)
 | (refine W.drawAll tys_ok [] mixed rfl ?_; conv => whnf)
 | (refine W.ret ?_; conv => whnf)
 | (refine W.skip ?_; conv => whnf)
 | (refine W.exit ?_; conv => whnf)
 | (refine call_at (al := false) (har) rfl rfl rfl rfl ?_; conv => whnf)
 | (refine call_at (al := false) (index_lit [0, 3, 1, 2] 0 0 (by decide) rfl) rfl rfl rfl rfl ?_; conv => whnf)

    | (refine W.cond rfl (fun hb => ?_) (fun hb => ?_) <;> (try simp only [Int.reduceToNat, Int.reduceTDiv, Int.reduceTMod, List.getD_cons_zero, List.getD_cons_succ, minL, maxL, pickB, getD_int, getD_sl, getD_bool, len_int, len_sl, len_bool, decide_eq_true_eq, decide_eq_false_iff_not, Bool.and_eq_true, Bool.or_eq_true, Bool.and_eq_false_iff, Bool.or_eq_false_iff, Bool.not_eq_true', Bool.not_eq_false', Bool.true_eq_false, Bool.false_eq_true, Int.toNat_natCast, Int.ofNat_lt, Int.ofNat_le, not_true_eq_false, not_false_eq_true, or_false, false_or, and_true, true_and, or_true, true_or, and_false, false_and] at hb) <;> (try (first | (cases hb; done) | exact absurd hb (by decide) | (exfalso; omega))))
    | ((with_reducible refine And.intro ?_ ?_); (focus ((repeat' (first | (with_reducible rfl) | (with_reducible refine And.intro ?_ ?_) | omega | rfl | exact Or.inl rfl | exact Or.inr rfl | exact of_decide_eq_true rfl | exact Path.imp_of (of_decide_eq_true rfl) | (focus ((try simp only [Int.reduceToNat, Int.reduceTDiv, Int.reduceTMod, List.getD_cons_zero, List.getD_cons_succ, minL, maxL, pickB, getD_int, getD_sl, getD_bool, len_int, len_sl, len_bool, decide_eq_true_eq, decide_eq_false_iff_not, Bool.and_eq_true, Bool.or_eq_true, Bool.and_eq_false_iff, Bool.or_eq_false_iff, Bool.not_eq_true', Bool.not_eq_false', Bool.true_eq_false, Bool.false_eq_true, Int.toNat_natCast, Int.ofNat_lt, Int.ofNat_le, not_true_eq_false, not_false_eq_true, or_false, false_or, and_true, true_and, or_true, true_or, and_false, false_and, InK, Path.imp, List.length_replicate, List.length_set, List.length_append, List.length_cons, List.length_nil] at *); omega)) | (refine app_le rfl ?_; omega))); done)); (conv => whnf))
    | ((with_reducible refine And.intro (Side.out ?_) ?_); rotate_left; (conv => whnf))
    | (refine retF1 ?_ <;> (conv => whnf) <;> repeat' (first
 | exact trivial
 | (with_reducible rfl)
 | ((with_reducible refine And.intro ?_ ?_) <;> conv => whnf)
 | omega
 | rfl
 | (refine congrArg (SV.arr _) ?_)
 | (refine congrArg (Value.int _) ?_)
 | (refine congrArg Value.bool ?_)))
 | (refine retF2 ?_ <;> (conv => whnf) <;> repeat' (first
 | exact trivial
 | (with_reducible rfl)
 | ((with_reducible refine And.intro ?_ ?_) <;> conv => whnf)
 | omega
 | rfl
 | (refine congrArg (SV.arr _) ?_)
 | (refine congrArg (Value.int _) ?_)
 | (refine congrArg Value.bool ?_)))); all_goals (try unfold Side)
  all_goals try (repeat' (first | (with_reducible rfl) | (with_reducible refine And.intro ?_ ?_) | omega | rfl | exact Or.inl rfl | exact Or.inr rfl | exact of_decide_eq_true rfl | exact Path.imp_of (of_decide_eq_true rfl) | (focus ((try simp only [Int.reduceToNat, Int.reduceTDiv, Int.reduceTMod, List.getD_cons_zero, List.getD_cons_succ, minL, maxL, pickB, getD_int, getD_sl, getD_bool, len_int, len_sl, len_bool, decide_eq_true_eq, decide_eq_false_iff_not, Bool.and_eq_true, Bool.or_eq_true, Bool.and_eq_false_iff, Bool.or_eq_false_iff, Bool.not_eq_true', Bool.not_eq_false', Bool.true_eq_false, Bool.false_eq_true, Int.toNat_natCast, Int.ofNat_lt, Int.ofNat_le, not_true_eq_false, not_false_eq_true, or_false, false_or, and_true, true_and, or_true, true_or, and_false, false_and, InK, Path.imp, List.length_replicate, List.length_set, List.length_append, List.length_cons, List.length_nil] at *); omega)) | (refine app_le rfl ?_; omega)))
  all_goals first | (refine subF.ok ?_ <;> (conv => whnf) <;> repeat' (first
 | exact trivial
 | (with_reducible rfl)
 | ((with_reducible refine And.intro ?_ ?_) <;> conv => whnf)
 | omega
 | rfl
 | (refine congrArg (SV.arr _) ?_)
 | (refine congrArg (Value.int _) ?_)
 | (refine congrArg Value.bool ?_))) | skip
  all_goals try (repeat' (first | (with_reducible rfl) | (with_reducible refine And.intro ?_ ?_) | omega | rfl | exact Or.inl rfl | exact Or.inr rfl | exact of_decide_eq_true rfl | exact Path.imp_of (of_decide_eq_true rfl) | (focus ((try simp only [Int.reduceToNat, Int.reduceTDiv, Int.reduceTMod, List.getD_cons_zero, List.getD_cons_succ, minL, maxL, pickB, getD_int, getD_sl, getD_bool, len_int, len_sl, len_bool, decide_eq_true_eq, decide_eq_false_iff_not, Bool.and_eq_true, Bool.or_eq_true, Bool.and_eq_false_iff, Bool.or_eq_false_iff, Bool.not_eq_true', Bool.not_eq_false', Bool.true_eq_false, Bool.false_eq_true, Int.toNat_natCast, Int.ofNat_lt, Int.ofNat_le, not_true_eq_false, not_false_eq_true, or_false, false_or, and_true, true_and, or_true, true_or, and_false, false_and, InK, Path.imp, List.length_replicate, List.length_set, List.length_append, List.length_cons, List.length_nil] at *); omega)) | (refine app_le rfl ?_; omega)))
  all_goals (rw [hwl]; exact hat)
set_option maxHeartbeats 4000000 in
theorem next_fmq {w s : List Int} {n x p q : Nat} {st : Int} (h : Word w n) (hn : n ≤ 10) (hl : s.length = n) (h0 : -((2 * n : Nat) : Int) ≤ st) (h1 : st < (2 * n : Nat)) (hx : x < n) (hpq : p < q) (hq : q < 2 * n)
    (hpl : placesT w x = [(p : Int), (q : Int)]) (hwa : w.getD q 0 = x) (hc : 0 ≤ st) (hat : (st + 1).tmod ((2 * n : Nat) : Int) = q) (hs : s.getD x 0 = -1) : FnAt Try.prog false 66 [curveT n w, .lit (.int .i64 st), .arr (.int .i64) s] (.lit (.int .i64 (-1 - ((p : Int) + (2 * n : Nat) - 1).tmod (2 * n : Nat)))) [] := by
  have hwl : @List.length (Ty.int .i64).T w = 2 * n := h.len
  have hsl : @List.length (Ty.int .i64).T s = n := hl
  have hPl : @List.length (Ty.sl (.int .i64)).T (PT w n) = n := PT_len
  have hPx : (PT w n).getD x [] = [(p : Int), (q : Int)] := (PT_get hx).trans hpl
  have hPs : @List.length (Ty.int .i64).T (@List.getD (Ty.sl (.int .i64)).T (PT w n) x (Ty.sl (.int .i64)).dflt) = 2 := by
    show ((PT w n).getD x []).length = 2
    rw [hPx]; rfl
  have hPs2 : ((PT w n).getD x []).length = 2 := hPs
  have hp2 : ((PT w n).getD x []).getD 0 0 = (p : Int) := by rw [hPx]; rfl
  have hq2 : ((PT w n).getD x []).getD 1 0 = (q : Int) := by rw [hPx]; rfl
  have ht0 := Int.tmod_nonneg (a := (p : Int) + (2 * n : Nat) - 1) (2 * n : Nat) (by omega)
  have ht1 := Int.tmod_lt_of_pos ((p : Int) + (2 * n : Nat) - 1) (b := (2 * n : Nat)) (by omega)
  have har : FnAt Try.prog false 72 [.lit (.int .i64 (s.getD x 0))] (.strct [.lit (.int .i64 0), .lit (.int .i64 3), .lit (.int .i64 1), .lit (.int .i64 2)]) [] := by
    rw [hs]; exact around_m
  refine FnAt.of_body tys_ok Try.func66 (by rfl) rfl Try.ntmps66 (by rw [Try.results66]) (by simp) ?_
  
  repeat' (first
 | refine W.seq ?_
 | refine W.block ?_
 | (refine W.resub (x := Code.region 6 _ _) (Γ' := ⟨[(0, .st false (curveT n w)), (1, .lit (.int .i64 (st))), (2, .st false (.arr (.int .i64) (s : List Int))), (7, .lit (.int .i64 (@List.length (Ty.int .i64).T w))), (8, .lit (.int .i64 (q))), (9, .lit (.bool (true)))], []⟩) ?_ (W.region tys_ok [] ?_); rotate_left; (conv => whnf))
 | (refine W.resub (x := Code.region 7 _ _) (Γ' := ⟨[(0, .st false (curveT n w)), (1, .lit (.int .i64 (st))), (2, .st false (.arr (.int .i64) (s : List Int))), (7, .lit (.int .i64 (@List.length (Ty.int .i64).T w))), (8, .lit (.int .i64 (q))), (9, .lit (.bool (true))), (10, .lit (.int .i64 (x)))], []⟩) ?_ (W.region tys_ok [] ?_); rotate_left; (conv => whnf))
 | (refine W.resub (x := Code.region 13 _ _) (Γ' := ⟨[(0, .st false (curveT n w)), (1, .lit (.int .i64 (st))), (2, .st false (.arr (.int .i64) (s : List Int))), (7, .lit (.int .i64 (@List.length (Ty.int .i64).T w))), (8, .lit (.int .i64 (q))), (9, .lit (.bool (true))), (10, .lit (.int .i64 (x))), (11, .lit (.int .i64 (2))), (12, .st true (.sadr (.agg [.lit (.int .i64 0), .lit (.int .i64 3), .lit (.int .i64 1), .lit (.int .i64 2)])))], []⟩) ?_ (W.region tys_ok [] ?_); rotate_left; (conv => whnf))
 | (refine W.resub (x := Code.region 15 _ _) (Γ' := ⟨[(0, .st false (curveT n w)), (1, .lit (.int .i64 (st))), (2, .st false (.arr (.int .i64) (s : List Int))), (7, .lit (.int .i64 ((2 * n : Nat)))), (8, .lit (.int .i64 (q))), (9, .lit (.bool (true))), (13, .lit (.int .i64 (0))), (14, .lit (.int .i64 (p)))], []⟩) ?_ (W.region tys_ok [] ?_); rotate_left; (conv => whnf))
 | (refine W.region tys_ok [] ?_; conv => whnf)
 | (refine W.drawAll tys_ok [] mixed rfl ?_; conv => whnf)
 | (refine W.ret ?_; conv => whnf)
 | (refine W.skip ?_; conv => whnf)
 | (refine W.exit ?_; conv => whnf)
 | (refine call_at (al := false) (har) rfl rfl rfl rfl ?_; conv => whnf)
 | (refine call_at (al := false) (index_lit [0, 3, 1, 2] 2 3 (by decide) rfl) rfl rfl rfl rfl ?_; conv => whnf)

    | (refine W.cond rfl (fun hb => ?_) (fun hb => ?_) <;> (try simp only [Int.reduceToNat, Int.reduceTDiv, Int.reduceTMod, List.getD_cons_zero, List.getD_cons_succ, minL, maxL, pickB, getD_int, getD_sl, getD_bool, len_int, len_sl, len_bool, decide_eq_true_eq, decide_eq_false_iff_not, Bool.and_eq_true, Bool.or_eq_true, Bool.and_eq_false_iff, Bool.or_eq_false_iff, Bool.not_eq_true', Bool.not_eq_false', Bool.true_eq_false, Bool.false_eq_true, Int.toNat_natCast, Int.ofNat_lt, Int.ofNat_le, not_true_eq_false, not_false_eq_true, or_false, false_or, and_true, true_and, or_true, true_or, and_false, false_and] at hb) <;> (try (first | (cases hb; done) | exact absurd hb (by decide) | (exfalso; omega))))
    | ((with_reducible refine And.intro ?_ ?_); (focus ((repeat' (first | (with_reducible rfl) | (with_reducible refine And.intro ?_ ?_) | omega | rfl | exact Or.inl rfl | exact Or.inr rfl | exact of_decide_eq_true rfl | exact Path.imp_of (of_decide_eq_true rfl) | (focus ((try simp only [Int.reduceToNat, Int.reduceTDiv, Int.reduceTMod, List.getD_cons_zero, List.getD_cons_succ, minL, maxL, pickB, getD_int, getD_sl, getD_bool, len_int, len_sl, len_bool, decide_eq_true_eq, decide_eq_false_iff_not, Bool.and_eq_true, Bool.or_eq_true, Bool.and_eq_false_iff, Bool.or_eq_false_iff, Bool.not_eq_true', Bool.not_eq_false', Bool.true_eq_false, Bool.false_eq_true, Int.toNat_natCast, Int.ofNat_lt, Int.ofNat_le, not_true_eq_false, not_false_eq_true, or_false, false_or, and_true, true_and, or_true, true_or, and_false, false_and, InK, Path.imp, List.length_replicate, List.length_set, List.length_append, List.length_cons, List.length_nil] at *); omega)) | (refine app_le rfl ?_; omega))); done)); (conv => whnf))
    | ((with_reducible refine And.intro (Side.out ?_) ?_); rotate_left; (conv => whnf))
    | (refine retF1 ?_ <;> (conv => whnf) <;> repeat' (first
 | exact trivial
 | (with_reducible rfl)
 | ((with_reducible refine And.intro ?_ ?_) <;> conv => whnf)
 | omega
 | rfl
 | (refine congrArg (SV.arr _) ?_)
 | (refine congrArg (Value.int _) ?_)
 | (refine congrArg Value.bool ?_)))
 | (refine retF2 ?_ <;> (conv => whnf) <;> repeat' (first
 | exact trivial
 | (with_reducible rfl)
 | ((with_reducible refine And.intro ?_ ?_) <;> conv => whnf)
 | omega
 | rfl
 | (refine congrArg (SV.arr _) ?_)
 | (refine congrArg (Value.int _) ?_)
 | (refine congrArg Value.bool ?_)))); all_goals (try unfold Side)
  all_goals try (repeat' (first | (with_reducible rfl) | (with_reducible refine And.intro ?_ ?_) | omega | rfl | exact Or.inl rfl | exact Or.inr rfl | exact of_decide_eq_true rfl | exact Path.imp_of (of_decide_eq_true rfl) | (focus ((try simp only [Int.reduceToNat, Int.reduceTDiv, Int.reduceTMod, List.getD_cons_zero, List.getD_cons_succ, minL, maxL, pickB, getD_int, getD_sl, getD_bool, len_int, len_sl, len_bool, decide_eq_true_eq, decide_eq_false_iff_not, Bool.and_eq_true, Bool.or_eq_true, Bool.and_eq_false_iff, Bool.or_eq_false_iff, Bool.not_eq_true', Bool.not_eq_false', Bool.true_eq_false, Bool.false_eq_true, Int.toNat_natCast, Int.ofNat_lt, Int.ofNat_le, not_true_eq_false, not_false_eq_true, or_false, false_or, and_true, true_and, or_true, true_or, and_false, false_and, InK, Path.imp, List.length_replicate, List.length_set, List.length_append, List.length_cons, List.length_nil] at *); omega)) | (refine app_le rfl ?_; omega)))
  all_goals first | (refine subF.ok ?_ <;> (conv => whnf) <;> repeat' (first
 | exact trivial
 | (with_reducible rfl)
 | ((with_reducible refine And.intro ?_ ?_) <;> conv => whnf)
 | omega
 | rfl
 | (refine congrArg (SV.arr _) ?_)
 | (refine congrArg (Value.int _) ?_)
 | (refine congrArg Value.bool ?_))) | skip
  all_goals try (repeat' (first | (with_reducible rfl) | (with_reducible refine And.intro ?_ ?_) | omega | rfl | exact Or.inl rfl | exact Or.inr rfl | exact of_decide_eq_true rfl | exact Path.imp_of (of_decide_eq_true rfl) | (focus ((try simp only [Int.reduceToNat, Int.reduceTDiv, Int.reduceTMod, List.getD_cons_zero, List.getD_cons_succ, minL, maxL, pickB, getD_int, getD_sl, getD_bool, len_int, len_sl, len_bool, decide_eq_true_eq, decide_eq_false_iff_not, Bool.and_eq_true, Bool.or_eq_true, Bool.and_eq_false_iff, Bool.or_eq_false_iff, Bool.not_eq_true', Bool.not_eq_false', Bool.true_eq_false, Bool.false_eq_true, Int.toNat_natCast, Int.ofNat_lt, Int.ofNat_le, not_true_eq_false, not_false_eq_true, or_false, false_or, and_true, true_and, or_true, true_or, and_false, false_and, InK, Path.imp, List.length_replicate, List.length_set, List.length_append, List.length_cons, List.length_nil] at *); omega)) | (refine app_le rfl ?_; omega)))
  all_goals (rw [hwl]; exact hat)
set_option maxHeartbeats 4000000 in
theorem next_bpp {w s : List Int} {n x p q : Nat} {st : Int} (h : Word w n) (hn : n ≤ 10) (hl : s.length = n) (h0 : -((2 * n : Nat) : Int) ≤ st) (h1 : st < (2 * n : Nat)) (hx : x < n) (hpq : p < q) (hq : q < 2 * n)
    (hpl : placesT w x = [(p : Int), (q : Int)]) (hwa : w.getD p 0 = x) (hc : st < 0) (hat : -1 - st = (p : Int)) (hs : s.getD x 0 = 1) : FnAt Try.prog false 66 [curveT n w, .lit (.int .i64 st), .arr (.int .i64) s] (.lit (.int .i64 ((q : Int)))) [] := by
  have hwl : @List.length (Ty.int .i64).T w = 2 * n := h.len
  have hsl : @List.length (Ty.int .i64).T s = n := hl
  have hPl : @List.length (Ty.sl (.int .i64)).T (PT w n) = n := PT_len
  have hPx : (PT w n).getD x [] = [(p : Int), (q : Int)] := (PT_get hx).trans hpl
  have hPs : @List.length (Ty.int .i64).T (@List.getD (Ty.sl (.int .i64)).T (PT w n) x (Ty.sl (.int .i64)).dflt) = 2 := by
    show ((PT w n).getD x []).length = 2
    rw [hPx]; rfl
  have hPs2 : ((PT w n).getD x []).length = 2 := hPs
  have hp2 : ((PT w n).getD x []).getD 0 0 = (p : Int) := by rw [hPx]; rfl
  have hq2 : ((PT w n).getD x []).getD 1 0 = (q : Int) := by rw [hPx]; rfl
  have ht0 := Int.tmod_nonneg (a := (q : Int) + (2 * n : Nat) - 1) (2 * n : Nat) (by omega)
  have ht1 := Int.tmod_lt_of_pos ((q : Int) + (2 * n : Nat) - 1) (b := (2 * n : Nat)) (by omega)
  have har : FnAt Try.prog false 72 [.lit (.int .i64 (s.getD x 0))] (.strct [.lit (.int .i64 0), .lit (.int .i64 2), .lit (.int .i64 1), .lit (.int .i64 3)]) [] := by
    rw [hs]; exact around_p
  refine FnAt.of_body tys_ok Try.func66 (by rfl) rfl Try.ntmps66 (by rw [Try.results66]) (by simp) ?_
  
  repeat' (first
 | refine W.seq ?_
 | refine W.block ?_
 | (refine W.resub (x := Code.region 6 _ _) (Γ' := ⟨[(0, .st false (curveT n w)), (1, .lit (.int .i64 (st))), (2, .st false (.arr (.int .i64) (s : List Int))), (7, .lit (.int .i64 (@List.length (Ty.int .i64).T w))), (8, .lit (.int .i64 (p))), (9, .lit (.bool (false)))], []⟩) ?_ (W.region tys_ok [] ?_); rotate_left; (conv => whnf))
 | (refine W.resub (x := Code.region 7 _ _) (Γ' := ⟨[(0, .st false (curveT n w)), (1, .lit (.int .i64 (st))), (2, .st false (.arr (.int .i64) (s : List Int))), (7, .lit (.int .i64 (@List.length (Ty.int .i64).T w))), (8, .lit (.int .i64 (p))), (9, .lit (.bool (false))), (10, .lit (.int .i64 (x)))], []⟩) ?_ (W.region tys_ok [] ?_); rotate_left; (conv => whnf))
 | (refine W.resub (x := Code.region 13 _ _) (Γ' := ⟨[(0, .st false (curveT n w)), (1, .lit (.int .i64 (st))), (2, .st false (.arr (.int .i64) (s : List Int))), (7, .lit (.int .i64 (@List.length (Ty.int .i64).T w))), (8, .lit (.int .i64 (p))), (9, .lit (.bool (false))), (10, .lit (.int .i64 (x))), (11, .lit (.int .i64 (1))), (12, .st true (.sadr (.agg [.lit (.int .i64 0), .lit (.int .i64 2), .lit (.int .i64 1), .lit (.int .i64 3)])))], []⟩) ?_ (W.region tys_ok [] ?_); rotate_left; (conv => whnf))
 | (refine W.resub (x := Code.region 15 _ _) (Γ' := ⟨[(0, .st false (curveT n w)), (1, .lit (.int .i64 (st))), (2, .st false (.arr (.int .i64) (s : List Int))), (7, .lit (.int .i64 ((2 * n : Nat)))), (8, .lit (.int .i64 (p))), (9, .lit (.bool (false))), (13, .lit (.int .i64 (3))), (14, .lit (.int .i64 (q)))], []⟩) ?_ (W.region tys_ok [] ?_); rotate_left; (conv => whnf))
 | (refine W.region tys_ok [] ?_; conv => whnf)
 | (refine W.drawAll tys_ok [] mixed rfl ?_; conv => whnf)
 | (refine W.ret ?_; conv => whnf)
 | (refine W.skip ?_; conv => whnf)
 | (refine W.exit ?_; conv => whnf)
 | (refine call_at (al := false) (har) rfl rfl rfl rfl ?_; conv => whnf)
 | (refine call_at (al := false) (index_lit [0, 2, 1, 3] 1 2 (by decide) rfl) rfl rfl rfl rfl ?_; conv => whnf)

    | (refine W.cond rfl (fun hb => ?_) (fun hb => ?_) <;> (try simp only [Int.reduceToNat, Int.reduceTDiv, Int.reduceTMod, List.getD_cons_zero, List.getD_cons_succ, minL, maxL, pickB, getD_int, getD_sl, getD_bool, len_int, len_sl, len_bool, decide_eq_true_eq, decide_eq_false_iff_not, Bool.and_eq_true, Bool.or_eq_true, Bool.and_eq_false_iff, Bool.or_eq_false_iff, Bool.not_eq_true', Bool.not_eq_false', Bool.true_eq_false, Bool.false_eq_true, Int.toNat_natCast, Int.ofNat_lt, Int.ofNat_le, not_true_eq_false, not_false_eq_true, or_false, false_or, and_true, true_and, or_true, true_or, and_false, false_and] at hb) <;> (try (first | (cases hb; done) | exact absurd hb (by decide) | (exfalso; omega))))
    | ((with_reducible refine And.intro ?_ ?_); (focus ((repeat' (first | (with_reducible rfl) | (with_reducible refine And.intro ?_ ?_) | omega | rfl | exact Or.inl rfl | exact Or.inr rfl | exact of_decide_eq_true rfl | exact Path.imp_of (of_decide_eq_true rfl) | (focus ((try simp only [Int.reduceToNat, Int.reduceTDiv, Int.reduceTMod, List.getD_cons_zero, List.getD_cons_succ, minL, maxL, pickB, getD_int, getD_sl, getD_bool, len_int, len_sl, len_bool, decide_eq_true_eq, decide_eq_false_iff_not, Bool.and_eq_true, Bool.or_eq_true, Bool.and_eq_false_iff, Bool.or_eq_false_iff, Bool.not_eq_true', Bool.not_eq_false', Bool.true_eq_false, Bool.false_eq_true, Int.toNat_natCast, Int.ofNat_lt, Int.ofNat_le, not_true_eq_false, not_false_eq_true, or_false, false_or, and_true, true_and, or_true, true_or, and_false, false_and, InK, Path.imp, List.length_replicate, List.length_set, List.length_append, List.length_cons, List.length_nil] at *); omega)) | (refine app_le rfl ?_; omega))); done)); (conv => whnf))
    | ((with_reducible refine And.intro (Side.out ?_) ?_); rotate_left; (conv => whnf))
    | (refine retF1 ?_ <;> (conv => whnf) <;> repeat' (first
 | exact trivial
 | (with_reducible rfl)
 | ((with_reducible refine And.intro ?_ ?_) <;> conv => whnf)
 | omega
 | rfl
 | (refine congrArg (SV.arr _) ?_)
 | (refine congrArg (Value.int _) ?_)
 | (refine congrArg Value.bool ?_)))
 | (refine retF2 ?_ <;> (conv => whnf) <;> repeat' (first
 | exact trivial
 | (with_reducible rfl)
 | ((with_reducible refine And.intro ?_ ?_) <;> conv => whnf)
 | omega
 | rfl
 | (refine congrArg (SV.arr _) ?_)
 | (refine congrArg (Value.int _) ?_)
 | (refine congrArg Value.bool ?_)))); all_goals (try unfold Side)
  all_goals try (repeat' (first | (with_reducible rfl) | (with_reducible refine And.intro ?_ ?_) | omega | rfl | exact Or.inl rfl | exact Or.inr rfl | exact of_decide_eq_true rfl | exact Path.imp_of (of_decide_eq_true rfl) | (focus ((try simp only [Int.reduceToNat, Int.reduceTDiv, Int.reduceTMod, List.getD_cons_zero, List.getD_cons_succ, minL, maxL, pickB, getD_int, getD_sl, getD_bool, len_int, len_sl, len_bool, decide_eq_true_eq, decide_eq_false_iff_not, Bool.and_eq_true, Bool.or_eq_true, Bool.and_eq_false_iff, Bool.or_eq_false_iff, Bool.not_eq_true', Bool.not_eq_false', Bool.true_eq_false, Bool.false_eq_true, Int.toNat_natCast, Int.ofNat_lt, Int.ofNat_le, not_true_eq_false, not_false_eq_true, or_false, false_or, and_true, true_and, or_true, true_or, and_false, false_and, InK, Path.imp, List.length_replicate, List.length_set, List.length_append, List.length_cons, List.length_nil] at *); omega)) | (refine app_le rfl ?_; omega)))
  all_goals first | (refine subF.ok ?_ <;> (conv => whnf) <;> repeat' (first
 | exact trivial
 | (with_reducible rfl)
 | ((with_reducible refine And.intro ?_ ?_) <;> conv => whnf)
 | omega
 | rfl
 | (refine congrArg (SV.arr _) ?_)
 | (refine congrArg (Value.int _) ?_)
 | (refine congrArg Value.bool ?_))) | skip
  all_goals try (repeat' (first | (with_reducible rfl) | (with_reducible refine And.intro ?_ ?_) | omega | rfl | exact Or.inl rfl | exact Or.inr rfl | exact of_decide_eq_true rfl | exact Path.imp_of (of_decide_eq_true rfl) | (focus ((try simp only [Int.reduceToNat, Int.reduceTDiv, Int.reduceTMod, List.getD_cons_zero, List.getD_cons_succ, minL, maxL, pickB, getD_int, getD_sl, getD_bool, len_int, len_sl, len_bool, decide_eq_true_eq, decide_eq_false_iff_not, Bool.and_eq_true, Bool.or_eq_true, Bool.and_eq_false_iff, Bool.or_eq_false_iff, Bool.not_eq_true', Bool.not_eq_false', Bool.true_eq_false, Bool.false_eq_true, Int.toNat_natCast, Int.ofNat_lt, Int.ofNat_le, not_true_eq_false, not_false_eq_true, or_false, false_or, and_true, true_and, or_true, true_or, and_false, false_and, InK, Path.imp, List.length_replicate, List.length_set, List.length_append, List.length_cons, List.length_nil] at *); omega)) | (refine app_le rfl ?_; omega)))
set_option maxHeartbeats 4000000 in
theorem next_bpq {w s : List Int} {n x p q : Nat} {st : Int} (h : Word w n) (hn : n ≤ 10) (hl : s.length = n) (h0 : -((2 * n : Nat) : Int) ≤ st) (h1 : st < (2 * n : Nat)) (hx : x < n) (hpq : p < q) (hq : q < 2 * n)
    (hpl : placesT w x = [(p : Int), (q : Int)]) (hwa : w.getD q 0 = x) (hc : st < 0) (hat : -1 - st = (q : Int)) (hs : s.getD x 0 = 1) : FnAt Try.prog false 66 [curveT n w, .lit (.int .i64 st), .arr (.int .i64) s] (.lit (.int .i64 (-1 - ((p : Int) + (2 * n : Nat) - 1).tmod (2 * n : Nat)))) [] := by
  have hwl : @List.length (Ty.int .i64).T w = 2 * n := h.len
  have hsl : @List.length (Ty.int .i64).T s = n := hl
  have hPl : @List.length (Ty.sl (.int .i64)).T (PT w n) = n := PT_len
  have hPx : (PT w n).getD x [] = [(p : Int), (q : Int)] := (PT_get hx).trans hpl
  have hPs : @List.length (Ty.int .i64).T (@List.getD (Ty.sl (.int .i64)).T (PT w n) x (Ty.sl (.int .i64)).dflt) = 2 := by
    show ((PT w n).getD x []).length = 2
    rw [hPx]; rfl
  have hPs2 : ((PT w n).getD x []).length = 2 := hPs
  have hp2 : ((PT w n).getD x []).getD 0 0 = (p : Int) := by rw [hPx]; rfl
  have hq2 : ((PT w n).getD x []).getD 1 0 = (q : Int) := by rw [hPx]; rfl
  have ht0 := Int.tmod_nonneg (a := (p : Int) + (2 * n : Nat) - 1) (2 * n : Nat) (by omega)
  have ht1 := Int.tmod_lt_of_pos ((p : Int) + (2 * n : Nat) - 1) (b := (2 * n : Nat)) (by omega)
  have har : FnAt Try.prog false 72 [.lit (.int .i64 (s.getD x 0))] (.strct [.lit (.int .i64 0), .lit (.int .i64 2), .lit (.int .i64 1), .lit (.int .i64 3)]) [] := by
    rw [hs]; exact around_p
  refine FnAt.of_body tys_ok Try.func66 (by rfl) rfl Try.ntmps66 (by rw [Try.results66]) (by simp) ?_
  
  repeat' (first
 | refine W.seq ?_
 | refine W.block ?_
 | (refine W.resub (x := Code.region 6 _ _) (Γ' := ⟨[(0, .st false (curveT n w)), (1, .lit (.int .i64 (st))), (2, .st false (.arr (.int .i64) (s : List Int))), (7, .lit (.int .i64 (@List.length (Ty.int .i64).T w))), (8, .lit (.int .i64 (q))), (9, .lit (.bool (false)))], []⟩) ?_ (W.region tys_ok [] ?_); rotate_left; (conv => whnf))
 | (refine W.resub (x := Code.region 7 _ _) (Γ' := ⟨[(0, .st false (curveT n w)), (1, .lit (.int .i64 (st))), (2, .st false (.arr (.int .i64) (s : List Int))), (7, .lit (.int .i64 (@List.length (Ty.int .i64).T w))), (8, .lit (.int .i64 (q))), (9, .lit (.bool (false))), (10, .lit (.int .i64 (x)))], []⟩) ?_ (W.region tys_ok [] ?_); rotate_left; (conv => whnf))
 | (refine W.resub (x := Code.region 13 _ _) (Γ' := ⟨[(0, .st false (curveT n w)), (1, .lit (.int .i64 (st))), (2, .st false (.arr (.int .i64) (s : List Int))), (7, .lit (.int .i64 (@List.length (Ty.int .i64).T w))), (8, .lit (.int .i64 (q))), (9, .lit (.bool (false))), (10, .lit (.int .i64 (x))), (11, .lit (.int .i64 (3))), (12, .st true (.sadr (.agg [.lit (.int .i64 0), .lit (.int .i64 2), .lit (.int .i64 1), .lit (.int .i64 3)])))], []⟩) ?_ (W.region tys_ok [] ?_); rotate_left; (conv => whnf))
 | (refine W.resub (x := Code.region 15 _ _) (Γ' := ⟨[(0, .st false (curveT n w)), (1, .lit (.int .i64 (st))), (2, .st false (.arr (.int .i64) (s : List Int))), (7, .lit (.int .i64 ((2 * n : Nat)))), (8, .lit (.int .i64 (q))), (9, .lit (.bool (false))), (13, .lit (.int .i64 (0))), (14, .lit (.int .i64 (p)))], []⟩) ?_ (W.region tys_ok [] ?_); rotate_left; (conv => whnf))
 | (refine W.region tys_ok [] ?_; conv => whnf)
 | (refine W.drawAll tys_ok [] mixed rfl ?_; conv => whnf)
 | (refine W.ret ?_; conv => whnf)
 | (refine W.skip ?_; conv => whnf)
 | (refine W.exit ?_; conv => whnf)
 | (refine call_at (al := false) (har) rfl rfl rfl rfl ?_; conv => whnf)
 | (refine call_at (al := false) (index_lit [0, 2, 1, 3] 3 3 (by decide) rfl) rfl rfl rfl rfl ?_; conv => whnf)

    | (refine W.cond rfl (fun hb => ?_) (fun hb => ?_) <;> (try simp only [Int.reduceToNat, Int.reduceTDiv, Int.reduceTMod, List.getD_cons_zero, List.getD_cons_succ, minL, maxL, pickB, getD_int, getD_sl, getD_bool, len_int, len_sl, len_bool, decide_eq_true_eq, decide_eq_false_iff_not, Bool.and_eq_true, Bool.or_eq_true, Bool.and_eq_false_iff, Bool.or_eq_false_iff, Bool.not_eq_true', Bool.not_eq_false', Bool.true_eq_false, Bool.false_eq_true, Int.toNat_natCast, Int.ofNat_lt, Int.ofNat_le, not_true_eq_false, not_false_eq_true, or_false, false_or, and_true, true_and, or_true, true_or, and_false, false_and] at hb) <;> (try (first | (cases hb; done) | exact absurd hb (by decide) | (exfalso; omega))))
    | ((with_reducible refine And.intro ?_ ?_); (focus ((repeat' (first | (with_reducible rfl) | (with_reducible refine And.intro ?_ ?_) | omega | rfl | exact Or.inl rfl | exact Or.inr rfl | exact of_decide_eq_true rfl | exact Path.imp_of (of_decide_eq_true rfl) | (focus ((try simp only [Int.reduceToNat, Int.reduceTDiv, Int.reduceTMod, List.getD_cons_zero, List.getD_cons_succ, minL, maxL, pickB, getD_int, getD_sl, getD_bool, len_int, len_sl, len_bool, decide_eq_true_eq, decide_eq_false_iff_not, Bool.and_eq_true, Bool.or_eq_true, Bool.and_eq_false_iff, Bool.or_eq_false_iff, Bool.not_eq_true', Bool.not_eq_false', Bool.true_eq_false, Bool.false_eq_true, Int.toNat_natCast, Int.ofNat_lt, Int.ofNat_le, not_true_eq_false, not_false_eq_true, or_false, false_or, and_true, true_and, or_true, true_or, and_false, false_and, InK, Path.imp, List.length_replicate, List.length_set, List.length_append, List.length_cons, List.length_nil] at *); omega)) | (refine app_le rfl ?_; omega))); done)); (conv => whnf))
    | ((with_reducible refine And.intro (Side.out ?_) ?_); rotate_left; (conv => whnf))
    | (refine retF1 ?_ <;> (conv => whnf) <;> repeat' (first
 | exact trivial
 | (with_reducible rfl)
 | ((with_reducible refine And.intro ?_ ?_) <;> conv => whnf)
 | omega
 | rfl
 | (refine congrArg (SV.arr _) ?_)
 | (refine congrArg (Value.int _) ?_)
 | (refine congrArg Value.bool ?_)))
 | (refine retF2 ?_ <;> (conv => whnf) <;> repeat' (first
 | exact trivial
 | (with_reducible rfl)
 | ((with_reducible refine And.intro ?_ ?_) <;> conv => whnf)
 | omega
 | rfl
 | (refine congrArg (SV.arr _) ?_)
 | (refine congrArg (Value.int _) ?_)
 | (refine congrArg Value.bool ?_)))); all_goals (try unfold Side)
  all_goals try (repeat' (first | (with_reducible rfl) | (with_reducible refine And.intro ?_ ?_) | omega | rfl | exact Or.inl rfl | exact Or.inr rfl | exact of_decide_eq_true rfl | exact Path.imp_of (of_decide_eq_true rfl) | (focus ((try simp only [Int.reduceToNat, Int.reduceTDiv, Int.reduceTMod, List.getD_cons_zero, List.getD_cons_succ, minL, maxL, pickB, getD_int, getD_sl, getD_bool, len_int, len_sl, len_bool, decide_eq_true_eq, decide_eq_false_iff_not, Bool.and_eq_true, Bool.or_eq_true, Bool.and_eq_false_iff, Bool.or_eq_false_iff, Bool.not_eq_true', Bool.not_eq_false', Bool.true_eq_false, Bool.false_eq_true, Int.toNat_natCast, Int.ofNat_lt, Int.ofNat_le, not_true_eq_false, not_false_eq_true, or_false, false_or, and_true, true_and, or_true, true_or, and_false, false_and, InK, Path.imp, List.length_replicate, List.length_set, List.length_append, List.length_cons, List.length_nil] at *); omega)) | (refine app_le rfl ?_; omega)))
  all_goals first | (refine subF.ok ?_ <;> (conv => whnf) <;> repeat' (first
 | exact trivial
 | (with_reducible rfl)
 | ((with_reducible refine And.intro ?_ ?_) <;> conv => whnf)
 | omega
 | rfl
 | (refine congrArg (SV.arr _) ?_)
 | (refine congrArg (Value.int _) ?_)
 | (refine congrArg Value.bool ?_))) | skip
  all_goals try (repeat' (first | (with_reducible rfl) | (with_reducible refine And.intro ?_ ?_) | omega | rfl | exact Or.inl rfl | exact Or.inr rfl | exact of_decide_eq_true rfl | exact Path.imp_of (of_decide_eq_true rfl) | (focus ((try simp only [Int.reduceToNat, Int.reduceTDiv, Int.reduceTMod, List.getD_cons_zero, List.getD_cons_succ, minL, maxL, pickB, getD_int, getD_sl, getD_bool, len_int, len_sl, len_bool, decide_eq_true_eq, decide_eq_false_iff_not, Bool.and_eq_true, Bool.or_eq_true, Bool.and_eq_false_iff, Bool.or_eq_false_iff, Bool.not_eq_true', Bool.not_eq_false', Bool.true_eq_false, Bool.false_eq_true, Int.toNat_natCast, Int.ofNat_lt, Int.ofNat_le, not_true_eq_false, not_false_eq_true, or_false, false_or, and_true, true_and, or_true, true_or, and_false, false_and, InK, Path.imp, List.length_replicate, List.length_set, List.length_append, List.length_cons, List.length_nil] at *); omega)) | (refine app_le rfl ?_; omega)))
set_option maxHeartbeats 4000000 in
theorem next_bmp {w s : List Int} {n x p q : Nat} {st : Int} (h : Word w n) (hn : n ≤ 10) (hl : s.length = n) (h0 : -((2 * n : Nat) : Int) ≤ st) (h1 : st < (2 * n : Nat)) (hx : x < n) (hpq : p < q) (hq : q < 2 * n)
    (hpl : placesT w x = [(p : Int), (q : Int)]) (hwa : w.getD p 0 = x) (hc : st < 0) (hat : -1 - st = (p : Int)) (hs : s.getD x 0 = -1) : FnAt Try.prog false 66 [curveT n w, .lit (.int .i64 st), .arr (.int .i64) s] (.lit (.int .i64 (-1 - ((q : Int) + (2 * n : Nat) - 1).tmod (2 * n : Nat)))) [] := by
  have hwl : @List.length (Ty.int .i64).T w = 2 * n := h.len
  have hsl : @List.length (Ty.int .i64).T s = n := hl
  have hPl : @List.length (Ty.sl (.int .i64)).T (PT w n) = n := PT_len
  have hPx : (PT w n).getD x [] = [(p : Int), (q : Int)] := (PT_get hx).trans hpl
  have hPs : @List.length (Ty.int .i64).T (@List.getD (Ty.sl (.int .i64)).T (PT w n) x (Ty.sl (.int .i64)).dflt) = 2 := by
    show ((PT w n).getD x []).length = 2
    rw [hPx]; rfl
  have hPs2 : ((PT w n).getD x []).length = 2 := hPs
  have hp2 : ((PT w n).getD x []).getD 0 0 = (p : Int) := by rw [hPx]; rfl
  have hq2 : ((PT w n).getD x []).getD 1 0 = (q : Int) := by rw [hPx]; rfl
  have ht0 := Int.tmod_nonneg (a := (q : Int) + (2 * n : Nat) - 1) (2 * n : Nat) (by omega)
  have ht1 := Int.tmod_lt_of_pos ((q : Int) + (2 * n : Nat) - 1) (b := (2 * n : Nat)) (by omega)
  have har : FnAt Try.prog false 72 [.lit (.int .i64 (s.getD x 0))] (.strct [.lit (.int .i64 0), .lit (.int .i64 3), .lit (.int .i64 1), .lit (.int .i64 2)]) [] := by
    rw [hs]; exact around_m
  refine FnAt.of_body tys_ok Try.func66 (by rfl) rfl Try.ntmps66 (by rw [Try.results66]) (by simp) ?_
  
  repeat' (first
 | refine W.seq ?_
 | refine W.block ?_
 | (refine W.resub (x := Code.region 6 _ _) (Γ' := ⟨[(0, .st false (curveT n w)), (1, .lit (.int .i64 (st))), (2, .st false (.arr (.int .i64) (s : List Int))), (7, .lit (.int .i64 (@List.length (Ty.int .i64).T w))), (8, .lit (.int .i64 (p))), (9, .lit (.bool (false)))], []⟩) ?_ (W.region tys_ok [] ?_); rotate_left; (conv => whnf))
 | (refine W.resub (x := Code.region 7 _ _) (Γ' := ⟨[(0, .st false (curveT n w)), (1, .lit (.int .i64 (st))), (2, .st false (.arr (.int .i64) (s : List Int))), (7, .lit (.int .i64 (@List.length (Ty.int .i64).T w))), (8, .lit (.int .i64 (p))), (9, .lit (.bool (false))), (10, .lit (.int .i64 (x)))], []⟩) ?_ (W.region tys_ok [] ?_); rotate_left; (conv => whnf))
 | (refine W.resub (x := Code.region 13 _ _) (Γ' := ⟨[(0, .st false (curveT n w)), (1, .lit (.int .i64 (st))), (2, .st false (.arr (.int .i64) (s : List Int))), (7, .lit (.int .i64 (@List.length (Ty.int .i64).T w))), (8, .lit (.int .i64 (p))), (9, .lit (.bool (false))), (10, .lit (.int .i64 (x))), (11, .lit (.int .i64 (1))), (12, .st true (.sadr (.agg [.lit (.int .i64 0), .lit (.int .i64 3), .lit (.int .i64 1), .lit (.int .i64 2)])))], []⟩) ?_ (W.region tys_ok [] ?_); rotate_left; (conv => whnf))
 | (refine W.resub (x := Code.region 15 _ _) (Γ' := ⟨[(0, .st false (curveT n w)), (1, .lit (.int .i64 (st))), (2, .st false (.arr (.int .i64) (s : List Int))), (7, .lit (.int .i64 ((2 * n : Nat)))), (8, .lit (.int .i64 (p))), (9, .lit (.bool (false))), (13, .lit (.int .i64 (2))), (14, .lit (.int .i64 (q)))], []⟩) ?_ (W.region tys_ok [] ?_); rotate_left; (conv => whnf))
 | (refine W.region tys_ok [] ?_; conv => whnf)
 | (refine W.drawAll tys_ok [] mixed rfl ?_; conv => whnf)
 | (refine W.ret ?_; conv => whnf)
 | (refine W.skip ?_; conv => whnf)
 | (refine W.exit ?_; conv => whnf)
 | (refine call_at (al := false) (har) rfl rfl rfl rfl ?_; conv => whnf)
 | (refine call_at (al := false) (index_lit [0, 3, 1, 2] 1 2 (by decide) rfl) rfl rfl rfl rfl ?_; conv => whnf)

    | (refine W.cond rfl (fun hb => ?_) (fun hb => ?_) <;> (try simp only [Int.reduceToNat, Int.reduceTDiv, Int.reduceTMod, List.getD_cons_zero, List.getD_cons_succ, minL, maxL, pickB, getD_int, getD_sl, getD_bool, len_int, len_sl, len_bool, decide_eq_true_eq, decide_eq_false_iff_not, Bool.and_eq_true, Bool.or_eq_true, Bool.and_eq_false_iff, Bool.or_eq_false_iff, Bool.not_eq_true', Bool.not_eq_false', Bool.true_eq_false, Bool.false_eq_true, Int.toNat_natCast, Int.ofNat_lt, Int.ofNat_le, not_true_eq_false, not_false_eq_true, or_false, false_or, and_true, true_and, or_true, true_or, and_false, false_and] at hb) <;> (try (first | (cases hb; done) | exact absurd hb (by decide) | (exfalso; omega))))
    | ((with_reducible refine And.intro ?_ ?_); (focus ((repeat' (first | (with_reducible rfl) | (with_reducible refine And.intro ?_ ?_) | omega | rfl | exact Or.inl rfl | exact Or.inr rfl | exact of_decide_eq_true rfl | exact Path.imp_of (of_decide_eq_true rfl) | (focus ((try simp only [Int.reduceToNat, Int.reduceTDiv, Int.reduceTMod, List.getD_cons_zero, List.getD_cons_succ, minL, maxL, pickB, getD_int, getD_sl, getD_bool, len_int, len_sl, len_bool, decide_eq_true_eq, decide_eq_false_iff_not, Bool.and_eq_true, Bool.or_eq_true, Bool.and_eq_false_iff, Bool.or_eq_false_iff, Bool.not_eq_true', Bool.not_eq_false', Bool.true_eq_false, Bool.false_eq_true, Int.toNat_natCast, Int.ofNat_lt, Int.ofNat_le, not_true_eq_false, not_false_eq_true, or_false, false_or, and_true, true_and, or_true, true_or, and_false, false_and, InK, Path.imp, List.length_replicate, List.length_set, List.length_append, List.length_cons, List.length_nil] at *); omega)) | (refine app_le rfl ?_; omega))); done)); (conv => whnf))
    | ((with_reducible refine And.intro (Side.out ?_) ?_); rotate_left; (conv => whnf))
    | (refine retF1 ?_ <;> (conv => whnf) <;> repeat' (first
 | exact trivial
 | (with_reducible rfl)
 | ((with_reducible refine And.intro ?_ ?_) <;> conv => whnf)
 | omega
 | rfl
 | (refine congrArg (SV.arr _) ?_)
 | (refine congrArg (Value.int _) ?_)
 | (refine congrArg Value.bool ?_)))
 | (refine retF2 ?_ <;> (conv => whnf) <;> repeat' (first
 | exact trivial
 | (with_reducible rfl)
 | ((with_reducible refine And.intro ?_ ?_) <;> conv => whnf)
 | omega
 | rfl
 | (refine congrArg (SV.arr _) ?_)
 | (refine congrArg (Value.int _) ?_)
 | (refine congrArg Value.bool ?_)))); all_goals (try unfold Side)
  all_goals try (repeat' (first | (with_reducible rfl) | (with_reducible refine And.intro ?_ ?_) | omega | rfl | exact Or.inl rfl | exact Or.inr rfl | exact of_decide_eq_true rfl | exact Path.imp_of (of_decide_eq_true rfl) | (focus ((try simp only [Int.reduceToNat, Int.reduceTDiv, Int.reduceTMod, List.getD_cons_zero, List.getD_cons_succ, minL, maxL, pickB, getD_int, getD_sl, getD_bool, len_int, len_sl, len_bool, decide_eq_true_eq, decide_eq_false_iff_not, Bool.and_eq_true, Bool.or_eq_true, Bool.and_eq_false_iff, Bool.or_eq_false_iff, Bool.not_eq_true', Bool.not_eq_false', Bool.true_eq_false, Bool.false_eq_true, Int.toNat_natCast, Int.ofNat_lt, Int.ofNat_le, not_true_eq_false, not_false_eq_true, or_false, false_or, and_true, true_and, or_true, true_or, and_false, false_and, InK, Path.imp, List.length_replicate, List.length_set, List.length_append, List.length_cons, List.length_nil] at *); omega)) | (refine app_le rfl ?_; omega)))
  all_goals first | (refine subF.ok ?_ <;> (conv => whnf) <;> repeat' (first
 | exact trivial
 | (with_reducible rfl)
 | ((with_reducible refine And.intro ?_ ?_) <;> conv => whnf)
 | omega
 | rfl
 | (refine congrArg (SV.arr _) ?_)
 | (refine congrArg (Value.int _) ?_)
 | (refine congrArg Value.bool ?_))) | skip
  all_goals try (repeat' (first | (with_reducible rfl) | (with_reducible refine And.intro ?_ ?_) | omega | rfl | exact Or.inl rfl | exact Or.inr rfl | exact of_decide_eq_true rfl | exact Path.imp_of (of_decide_eq_true rfl) | (focus ((try simp only [Int.reduceToNat, Int.reduceTDiv, Int.reduceTMod, List.getD_cons_zero, List.getD_cons_succ, minL, maxL, pickB, getD_int, getD_sl, getD_bool, len_int, len_sl, len_bool, decide_eq_true_eq, decide_eq_false_iff_not, Bool.and_eq_true, Bool.or_eq_true, Bool.and_eq_false_iff, Bool.or_eq_false_iff, Bool.not_eq_true', Bool.not_eq_false', Bool.true_eq_false, Bool.false_eq_true, Int.toNat_natCast, Int.ofNat_lt, Int.ofNat_le, not_true_eq_false, not_false_eq_true, or_false, false_or, and_true, true_and, or_true, true_or, and_false, false_and, InK, Path.imp, List.length_replicate, List.length_set, List.length_append, List.length_cons, List.length_nil] at *); omega)) | (refine app_le rfl ?_; omega)))
set_option maxHeartbeats 4000000 in
theorem next_bmq {w s : List Int} {n x p q : Nat} {st : Int} (h : Word w n) (hn : n ≤ 10) (hl : s.length = n) (h0 : -((2 * n : Nat) : Int) ≤ st) (h1 : st < (2 * n : Nat)) (hx : x < n) (hpq : p < q) (hq : q < 2 * n)
    (hpl : placesT w x = [(p : Int), (q : Int)]) (hwa : w.getD q 0 = x) (hc : st < 0) (hat : -1 - st = (q : Int)) (hs : s.getD x 0 = -1) : FnAt Try.prog false 66 [curveT n w, .lit (.int .i64 st), .arr (.int .i64) s] (.lit (.int .i64 ((p : Int)))) [] := by
  have hwl : @List.length (Ty.int .i64).T w = 2 * n := h.len
  have hsl : @List.length (Ty.int .i64).T s = n := hl
  have hPl : @List.length (Ty.sl (.int .i64)).T (PT w n) = n := PT_len
  have hPx : (PT w n).getD x [] = [(p : Int), (q : Int)] := (PT_get hx).trans hpl
  have hPs : @List.length (Ty.int .i64).T (@List.getD (Ty.sl (.int .i64)).T (PT w n) x (Ty.sl (.int .i64)).dflt) = 2 := by
    show ((PT w n).getD x []).length = 2
    rw [hPx]; rfl
  have hPs2 : ((PT w n).getD x []).length = 2 := hPs
  have hp2 : ((PT w n).getD x []).getD 0 0 = (p : Int) := by rw [hPx]; rfl
  have hq2 : ((PT w n).getD x []).getD 1 0 = (q : Int) := by rw [hPx]; rfl
  have ht0 := Int.tmod_nonneg (a := (p : Int) + (2 * n : Nat) - 1) (2 * n : Nat) (by omega)
  have ht1 := Int.tmod_lt_of_pos ((p : Int) + (2 * n : Nat) - 1) (b := (2 * n : Nat)) (by omega)
  have har : FnAt Try.prog false 72 [.lit (.int .i64 (s.getD x 0))] (.strct [.lit (.int .i64 0), .lit (.int .i64 3), .lit (.int .i64 1), .lit (.int .i64 2)]) [] := by
    rw [hs]; exact around_m
  refine FnAt.of_body tys_ok Try.func66 (by rfl) rfl Try.ntmps66 (by rw [Try.results66]) (by simp) ?_
  
  repeat' (first
 | refine W.seq ?_
 | refine W.block ?_
 | (refine W.resub (x := Code.region 6 _ _) (Γ' := ⟨[(0, .st false (curveT n w)), (1, .lit (.int .i64 (st))), (2, .st false (.arr (.int .i64) (s : List Int))), (7, .lit (.int .i64 (@List.length (Ty.int .i64).T w))), (8, .lit (.int .i64 (q))), (9, .lit (.bool (false)))], []⟩) ?_ (W.region tys_ok [] ?_); rotate_left; (conv => whnf))
 | (refine W.resub (x := Code.region 7 _ _) (Γ' := ⟨[(0, .st false (curveT n w)), (1, .lit (.int .i64 (st))), (2, .st false (.arr (.int .i64) (s : List Int))), (7, .lit (.int .i64 (@List.length (Ty.int .i64).T w))), (8, .lit (.int .i64 (q))), (9, .lit (.bool (false))), (10, .lit (.int .i64 (x)))], []⟩) ?_ (W.region tys_ok [] ?_); rotate_left; (conv => whnf))
 | (refine W.resub (x := Code.region 13 _ _) (Γ' := ⟨[(0, .st false (curveT n w)), (1, .lit (.int .i64 (st))), (2, .st false (.arr (.int .i64) (s : List Int))), (7, .lit (.int .i64 (@List.length (Ty.int .i64).T w))), (8, .lit (.int .i64 (q))), (9, .lit (.bool (false))), (10, .lit (.int .i64 (x))), (11, .lit (.int .i64 (3))), (12, .st true (.sadr (.agg [.lit (.int .i64 0), .lit (.int .i64 3), .lit (.int .i64 1), .lit (.int .i64 2)])))], []⟩) ?_ (W.region tys_ok [] ?_); rotate_left; (conv => whnf))
 | (refine W.resub (x := Code.region 15 _ _) (Γ' := ⟨[(0, .st false (curveT n w)), (1, .lit (.int .i64 (st))), (2, .st false (.arr (.int .i64) (s : List Int))), (7, .lit (.int .i64 ((2 * n : Nat)))), (8, .lit (.int .i64 (q))), (9, .lit (.bool (false))), (13, .lit (.int .i64 (1))), (14, .lit (.int .i64 (p)))], []⟩) ?_ (W.region tys_ok [] ?_); rotate_left; (conv => whnf))
 | (refine W.region tys_ok [] ?_; conv => whnf)
 | (refine W.drawAll tys_ok [] mixed rfl ?_; conv => whnf)
 | (refine W.ret ?_; conv => whnf)
 | (refine W.skip ?_; conv => whnf)
 | (refine W.exit ?_; conv => whnf)
 | (refine call_at (al := false) (har) rfl rfl rfl rfl ?_; conv => whnf)
 | (refine call_at (al := false) (index_lit [0, 3, 1, 2] 3 1 (by decide) rfl) rfl rfl rfl rfl ?_; conv => whnf)

    | (refine W.cond rfl (fun hb => ?_) (fun hb => ?_) <;> (try simp only [Int.reduceToNat, Int.reduceTDiv, Int.reduceTMod, List.getD_cons_zero, List.getD_cons_succ, minL, maxL, pickB, getD_int, getD_sl, getD_bool, len_int, len_sl, len_bool, decide_eq_true_eq, decide_eq_false_iff_not, Bool.and_eq_true, Bool.or_eq_true, Bool.and_eq_false_iff, Bool.or_eq_false_iff, Bool.not_eq_true', Bool.not_eq_false', Bool.true_eq_false, Bool.false_eq_true, Int.toNat_natCast, Int.ofNat_lt, Int.ofNat_le, not_true_eq_false, not_false_eq_true, or_false, false_or, and_true, true_and, or_true, true_or, and_false, false_and] at hb) <;> (try (first | (cases hb; done) | exact absurd hb (by decide) | (exfalso; omega))))
    | ((with_reducible refine And.intro ?_ ?_); (focus ((repeat' (first | (with_reducible rfl) | (with_reducible refine And.intro ?_ ?_) | omega | rfl | exact Or.inl rfl | exact Or.inr rfl | exact of_decide_eq_true rfl | exact Path.imp_of (of_decide_eq_true rfl) | (focus ((try simp only [Int.reduceToNat, Int.reduceTDiv, Int.reduceTMod, List.getD_cons_zero, List.getD_cons_succ, minL, maxL, pickB, getD_int, getD_sl, getD_bool, len_int, len_sl, len_bool, decide_eq_true_eq, decide_eq_false_iff_not, Bool.and_eq_true, Bool.or_eq_true, Bool.and_eq_false_iff, Bool.or_eq_false_iff, Bool.not_eq_true', Bool.not_eq_false', Bool.true_eq_false, Bool.false_eq_true, Int.toNat_natCast, Int.ofNat_lt, Int.ofNat_le, not_true_eq_false, not_false_eq_true, or_false, false_or, and_true, true_and, or_true, true_or, and_false, false_and, InK, Path.imp, List.length_replicate, List.length_set, List.length_append, List.length_cons, List.length_nil] at *); omega)) | (refine app_le rfl ?_; omega))); done)); (conv => whnf))
    | ((with_reducible refine And.intro (Side.out ?_) ?_); rotate_left; (conv => whnf))
    | (refine retF1 ?_ <;> (conv => whnf) <;> repeat' (first
 | exact trivial
 | (with_reducible rfl)
 | ((with_reducible refine And.intro ?_ ?_) <;> conv => whnf)
 | omega
 | rfl
 | (refine congrArg (SV.arr _) ?_)
 | (refine congrArg (Value.int _) ?_)
 | (refine congrArg Value.bool ?_)))
 | (refine retF2 ?_ <;> (conv => whnf) <;> repeat' (first
 | exact trivial
 | (with_reducible rfl)
 | ((with_reducible refine And.intro ?_ ?_) <;> conv => whnf)
 | omega
 | rfl
 | (refine congrArg (SV.arr _) ?_)
 | (refine congrArg (Value.int _) ?_)
 | (refine congrArg Value.bool ?_)))); all_goals (try unfold Side)
  all_goals try (repeat' (first | (with_reducible rfl) | (with_reducible refine And.intro ?_ ?_) | omega | rfl | exact Or.inl rfl | exact Or.inr rfl | exact of_decide_eq_true rfl | exact Path.imp_of (of_decide_eq_true rfl) | (focus ((try simp only [Int.reduceToNat, Int.reduceTDiv, Int.reduceTMod, List.getD_cons_zero, List.getD_cons_succ, minL, maxL, pickB, getD_int, getD_sl, getD_bool, len_int, len_sl, len_bool, decide_eq_true_eq, decide_eq_false_iff_not, Bool.and_eq_true, Bool.or_eq_true, Bool.and_eq_false_iff, Bool.or_eq_false_iff, Bool.not_eq_true', Bool.not_eq_false', Bool.true_eq_false, Bool.false_eq_true, Int.toNat_natCast, Int.ofNat_lt, Int.ofNat_le, not_true_eq_false, not_false_eq_true, or_false, false_or, and_true, true_and, or_true, true_or, and_false, false_and, InK, Path.imp, List.length_replicate, List.length_set, List.length_append, List.length_cons, List.length_nil] at *); omega)) | (refine app_le rfl ?_; omega)))
  all_goals first | (refine subF.ok ?_ <;> (conv => whnf) <;> repeat' (first
 | exact trivial
 | (with_reducible rfl)
 | ((with_reducible refine And.intro ?_ ?_) <;> conv => whnf)
 | omega
 | rfl
 | (refine congrArg (SV.arr _) ?_)
 | (refine congrArg (Value.int _) ?_)
 | (refine congrArg Value.bool ?_))) | skip
  all_goals try (repeat' (first | (with_reducible rfl) | (with_reducible refine And.intro ?_ ?_) | omega | rfl | exact Or.inl rfl | exact Or.inr rfl | exact of_decide_eq_true rfl | exact Path.imp_of (of_decide_eq_true rfl) | (focus ((try simp only [Int.reduceToNat, Int.reduceTDiv, Int.reduceTMod, List.getD_cons_zero, List.getD_cons_succ, minL, maxL, pickB, getD_int, getD_sl, getD_bool, len_int, len_sl, len_bool, decide_eq_true_eq, decide_eq_false_iff_not, Bool.and_eq_true, Bool.or_eq_true, Bool.and_eq_false_iff, Bool.or_eq_false_iff, Bool.not_eq_true', Bool.not_eq_false', Bool.true_eq_false, Bool.false_eq_true, Int.toNat_natCast, Int.ofNat_lt, Int.ofNat_le, not_true_eq_false, not_false_eq_true, or_false, false_or, and_true, true_and, or_true, true_or, and_false, false_and, InK, Path.imp, List.length_replicate, List.length_set, List.length_append, List.length_cons, List.length_nil] at *); omega)) | (refine app_le rfl ?_; omega)))
end Go.Proofs.Ytdfajcfkdfjoeaa
/- The step that follows a step: the two agree. No condition. -/
namespace Go.Proofs.Ytdfajcfkdfjoeaa
open Go Go.Vc Go.Scr
set_option linter.unusedVariables false
set_option linter.unusedSimpArgs false

theorem next_at {w s : List Int} {n : Nat} (h : Word w n) (hn : n ≤ 10) (hs : signsB s n = true) {st : Int} (h0 : -((2 * n : Nat) : Int) ≤ st) (h1 : st < (2 * n : Nat)) : FnAt Try.prog false 66 [curveT n w, .lit (.int .i64 st), .arr (.int .i64) s] (.lit (.int .i64 (nextT w s st))) [] := by
  simp only [signsB, Bool.and_eq_true, decide_eq_true_eq] at hs
  obtain ⟨a, x, p, q, ha, hat, hx, hwa, hpq, hq, hpl, hpp, hsg, hnx⟩ := at_of h hs.1 hs.2 h0 h1
  rw [hnx]
  by_cases hc : 0 ≤ st
  · have hd : decide (0 ≤ st) = true := decide_eq_true hc
    have hat' : (st + 1).tmod ((2 * n : Nat) : Int) = a := by rw [atT, if_pos hc] at hat; exact hat
    rcases hpp with rfl | rfl <;> rcases hsg with hsg | hsg
    · have := next_fpp h hn hs.2 h0 h1 hx hpq hq hpl hwa hc hat' hsg
      have e1 : decide (s.getD x 0 = 1) = true := decide_eq_true hsg
      have e2 : decide (a = a) = true := decide_eq_true rfl
      rw [hd, e1, e2, show (a : Int) + q - a = q by omega]
      exact this
    · have := next_fmp h hn hs.2 h0 h1 hx hpq hq hpl hwa hc hat' hsg
      have e1 : decide (s.getD x 0 = 1) = false := decide_eq_false (by rw [hsg]; decide)
      have e2 : decide (a = a) = true := decide_eq_true rfl
      rw [hd, e1, e2, show (a : Int) + q - a = q by omega]
      exact this
    · have := next_fpq h hn hs.2 h0 h1 hx hpq hq hpl hwa hc hat' hsg
      have e1 : decide (s.getD x 0 = 1) = true := decide_eq_true hsg
      have e2 : decide (a = p) = false := decide_eq_false (by omega)
      rw [hd, e1, e2, show (p : Int) + a - a = p by omega]
      exact this
    · have := next_fmq h hn hs.2 h0 h1 hx hpq hq hpl hwa hc hat' hsg
      have e1 : decide (s.getD x 0 = 1) = false := decide_eq_false (by rw [hsg]; decide)
      have e2 : decide (a = p) = false := decide_eq_false (by omega)
      rw [hd, e1, e2, show (p : Int) + a - a = p by omega]
      exact this
  · have hd : decide (0 ≤ st) = false := decide_eq_false hc
    have hat' : -1 - st = (a : Int) := by rw [atT, if_neg hc] at hat; exact hat
    have hc' : st < 0 := by omega
    rcases hpp with rfl | rfl <;> rcases hsg with hsg | hsg
    · have := next_bpp h hn hs.2 h0 h1 hx hpq hq hpl hwa hc' hat' hsg
      have e1 : decide (s.getD x 0 = 1) = true := decide_eq_true hsg
      have e2 : decide (a = a) = true := decide_eq_true rfl
      rw [hd, e1, e2, show (a : Int) + q - a = q by omega]
      exact this
    · have := next_bmp h hn hs.2 h0 h1 hx hpq hq hpl hwa hc' hat' hsg
      have e1 : decide (s.getD x 0 = 1) = false := decide_eq_false (by rw [hsg]; decide)
      have e2 : decide (a = a) = true := decide_eq_true rfl
      rw [hd, e1, e2, show (a : Int) + q - a = q by omega]
      exact this
    · have := next_bpq h hn hs.2 h0 h1 hx hpq hq hpl hwa hc' hat' hsg
      have e1 : decide (s.getD x 0 = 1) = true := decide_eq_true hsg
      have e2 : decide (a = p) = false := decide_eq_false (by omega)
      rw [hd, e1, e2, show (p : Int) + a - a = p by omega]
      exact this
    · have := next_bmq h hn hs.2 h0 h1 hx hpq hq hpl hwa hc' hat' hsg
      have e1 : decide (s.getD x 0 = 1) = false := decide_eq_false (by rw [hsg]; decide)
      have e2 : decide (a = p) = false := decide_eq_false (by omega)
      rw [hd, e1, e2, show (p : Int) + a - a = p by omega]
      exact this

set_option maxHeartbeats 4000000 in
theorem nref_f {w s : List Int} {n a x p q : Nat} {st : Int} (h : Word w n) (hn : n ≤ 10) (hl : s.length = n) (h0 : -((2 * n : Nat) : Int) ≤ st) (h1 : st < (2 * n : Nat)) (hA : At w s n st a x p q) (hc : 0 ≤ st) : FnAt Try.prog false 51 [.arr (.int .i64) w, .arr (.int .i64) s, .lit (.int .i64 st)] (.lit (.int .i64 (nextT w s st))) [] := by
  have hwl : @List.length (Ty.int .i64).T w = 2 * n := h.len
  have hsl : @List.length (Ty.int .i64).T s = n := hl
  have hwl0 := h.len
  obtain ⟨ha, hat, hx, hwa, hpq, hq, hpl, hpp, hsg, hnx⟩ := hA
  have hat' : (st + 1).tmod ((2 * n : Nat) : Int) = a := by
    unfold atT at hat
    rwa [if_pos hc] at hat
  have hdc : decide (0 ≤ st) = true := decide_eq_true hc
  have ht0 := Int.tmod_nonneg (a := (p : Int) + q - a + (2 * n : Nat) - 1) (2 * n : Nat) (by omega)
  have ht1 := Int.tmod_lt_of_pos ((p : Int) + q - a + (2 * n : Nat) - 1) (b := (2 * n : Nat)) (by omega)
  have ht0w : 0 ≤ ((p : Int) + q - a + @List.length (Ty.int .i64).T w - 1).tmod (@List.length (Ty.int .i64).T w) := by rw [hwl]; exact ht0
  have ht1w : ((p : Int) + q - a + @List.length (Ty.int .i64).T w - 1).tmod (@List.length (Ty.int .i64).T w) < (2 * n : Nat) := by rw [hwl]; exact ht1
  rw [hdc] at hnx
  have hP := places_at w x (by omega)
  rw [hpl] at hP
  obtain ⟨t, ht⟩ : ∃ t, t = (decide (s.getD x 0 = 1) == decide (a = p)) := ⟨_, rfl⟩
  rw [← ht] at hnx
  have ht' : (decide (s.getD x 0 = 1) == decide ((a : Int) = p)) = t := by
    rw [ht]; congr 1; rw [decide_eq_decide]; omega
  refine FnAt.of_body tys_ok Try.func51 (by rfl) rfl Try.ntmps51 (by rw [Try.results51]) (by simp) ?_
  
  repeat' (first
 | refine W.seq ?_
 | refine W.block ?_
 | (refine W.resub (x := Code.region 4 _ _) (Γ' := ⟨[(0, .st false (.arr (.int .i64) (w : List Int))), (1, .st false (.arr (.int .i64) (s : List Int))), (2, .lit (.int .i64 (st))), (7, .lit (.int .i64 (a))), (8, .lit (.bool (true)))], []⟩) ?_ (W.region tys_ok [10, 28] ?_); rotate_left; (conv => whnf))
 | (refine W.resub (x := Code.region 5 _ _) (Γ' := ⟨[(0, .st false (.arr (.int .i64) (w : List Int))), (1, .st false (.arr (.int .i64) (s : List Int))), (2, .lit (.int .i64 (st))), (7, .lit (.int .i64 (a))), (8, .lit (.bool (true))), (9, .lit (.int .i64 (x)))], []⟩) ?_ (W.region tys_ok [10, 28] ?_); rotate_left; (conv => whnf))
 | (refine W.drawPhTo (id := 6) tys_ok [10, 28] mixed [0, 1, 2, 0, 8, 16, 36, 0, 192, 511] [([0, 1, 2, 3, 4, 5, 6, 7, 8, 9], 0, 1023)] ⟨[(0, .st false (.arr (.int .i64) (w : List Int))), (1, .st false (.arr (.int .i64) (s : List Int))), (2, .lit (.int .i64 (st))), (7, .lit (.int .i64 (a))), (8, .lit (.bool (true))), (9, .lit (.int .i64 (x))), (10, .st true (.arr (.int .i64) ([(p : Int), (q : Int)] : List Int))), (11, .lit (.int .i64 ((p : Int) + q - a)))], []⟩ (by decide +kernel) ?_ ?_ <;> (conv => whnf))
 | (refine W.drawPhTo (id := 7) tys_ok [10, 28] mixed [0, 0, 3, 4, 8, 0, 0, 64, 128, 288, 528, 2047] [([0, 1, 2, 3, 4, 5, 6, 7, 8, 9, 10, 11], 0, 4095)] ⟨[(0, .st false (.arr (.int .i64) (w : List Int))), (1, .st false (.arr (.int .i64) (s : List Int))), (2, .lit (.int .i64 (st))), (7, .lit (.int .i64 (a))), (8, .lit (.bool (true))), (11, .lit (.int .i64 ((p : Int) + q - a))), (12, .lit (.bool (t)))], []⟩ (by decide +kernel) ?_ ?_ <;> (conv => whnf))
 | (refine W.resub (x := Code.region 9 _ _) (Γ' := ⟨[(0, .st false (.arr (.int .i64) w)), (2, .lit (.int .i64 st)), (11, .lit (.int .i64 ((p : Int) + q - a)))], []⟩) ?_ (W.region tys_ok [10, 28] ?_); rotate_left; (conv => whnf))
 | (refine W.region tys_ok [10, 28] ?_; conv => whnf)
 | (refine W.drawAll tys_ok [10, 28] mixed rfl ?_; conv => whnf)
 | (refine W.ret ?_; conv => whnf)
 | (refine W.skip ?_; conv => whnf)
 | (refine W.exit ?_; conv => whnf)
 | (refine call_at (al := false) (hP) rfl rfl rfl rfl ?_; conv => whnf)

    | (refine Both.mk ?_ ?_ <;> (conv => whnf))
    | (refine subF.leaf ?_ <;> (conv => whnf) <;> repeat' (first
 | exact trivial
 | (with_reducible rfl)
 | ((with_reducible refine And.intro ?_ ?_) <;> conv => whnf)
 | omega
 | rfl
 | (refine congrArg (SV.arr _) ?_)
 | (refine congrArg (Value.int _) ?_)
 | (refine congrArg Value.bool ?_)))
 | (refine subF.side ?_ <;> (conv => whnf) <;> repeat' (first
 | exact trivial
 | (with_reducible rfl)
 | ((with_reducible refine And.intro ?_ ?_) <;> conv => whnf)
 | omega
 | rfl
 | (refine congrArg (SV.arr _) ?_)
 | (refine congrArg (Value.int _) ?_)
 | (refine congrArg Value.bool ?_)))
 | (refine W.cond rfl (fun hb => ?_) (fun hb => ?_) <;> (try simp only [Int.reduceToNat, Int.reduceTDiv, Int.reduceTMod, List.getD_cons_zero, List.getD_cons_succ, minL, maxL, pickB, getD_int, getD_sl, getD_bool, len_int, len_sl, len_bool, decide_eq_true_eq, decide_eq_false_iff_not, Bool.and_eq_true, Bool.or_eq_true, Bool.and_eq_false_iff, Bool.or_eq_false_iff, Bool.not_eq_true', Bool.not_eq_false', Bool.true_eq_false, Bool.false_eq_true, Int.toNat_natCast, Int.ofNat_lt, Int.ofNat_le, not_true_eq_false, not_false_eq_true, or_false, false_or, and_true, true_and, or_true, true_or, and_false, false_and] at hb) <;> (try (first | (cases hb; done) | exact absurd hb (by decide) | (exfalso; omega))))
 | ((with_reducible refine And.intro ?_ ?_); (focus ((repeat' (first | (with_reducible rfl) | (with_reducible refine And.intro ?_ ?_) | omega | rfl | exact Or.inl rfl | exact Or.inr rfl | exact of_decide_eq_true rfl | exact Path.imp_of (of_decide_eq_true rfl) | (focus ((try simp only [Int.reduceToNat, Int.reduceTDiv, Int.reduceTMod, List.getD_cons_zero, List.getD_cons_succ, minL, maxL, pickB, getD_int, getD_sl, getD_bool, len_int, len_sl, len_bool, decide_eq_true_eq, decide_eq_false_iff_not, Bool.and_eq_true, Bool.or_eq_true, Bool.and_eq_false_iff, Bool.or_eq_false_iff, Bool.not_eq_true', Bool.not_eq_false', Bool.true_eq_false, Bool.false_eq_true, Int.toNat_natCast, Int.ofNat_lt, Int.ofNat_le, not_true_eq_false, not_false_eq_true, or_false, false_or, and_true, true_and, or_true, true_or, and_false, false_and, InK, Path.imp, List.length_replicate, List.length_set, List.length_append, List.length_cons, List.length_nil] at *); omega)) | (refine app_le rfl ?_; omega))); done)); (conv => whnf))
 | ((with_reducible refine And.intro (Side.out ?_) ?_); rotate_left; (conv => whnf))
 | (refine retF1 ?_ <;> (conv => whnf) <;> repeat' (first
 | exact trivial
 | (with_reducible rfl)
 | ((with_reducible refine And.intro ?_ ?_) <;> conv => whnf)
 | omega
 | rfl
 | (refine congrArg (SV.arr _) ?_)
 | (refine congrArg (Value.int _) ?_)
 | (refine congrArg Value.bool ?_)))
 | (refine retF2 ?_ <;> (conv => whnf) <;> repeat' (first
 | exact trivial
 | (with_reducible rfl)
 | ((with_reducible refine And.intro ?_ ?_) <;> conv => whnf)
 | omega
 | rfl
 | (refine congrArg (SV.arr _) ?_)
 | (refine congrArg (Value.int _) ?_)
 | (refine congrArg Value.bool ?_)))); all_goals (try unfold Side)
  all_goals try (repeat' (first | (with_reducible rfl) | (with_reducible refine And.intro ?_ ?_) | omega | rfl | exact Or.inl rfl | exact Or.inr rfl | exact of_decide_eq_true rfl | exact Path.imp_of (of_decide_eq_true rfl) | (focus ((try simp only [Int.reduceToNat, Int.reduceTDiv, Int.reduceTMod, List.getD_cons_zero, List.getD_cons_succ, minL, maxL, pickB, getD_int, getD_sl, getD_bool, len_int, len_sl, len_bool, decide_eq_true_eq, decide_eq_false_iff_not, Bool.and_eq_true, Bool.or_eq_true, Bool.and_eq_false_iff, Bool.or_eq_false_iff, Bool.not_eq_true', Bool.not_eq_false', Bool.true_eq_false, Bool.false_eq_true, Int.toNat_natCast, Int.ofNat_lt, Int.ofNat_le, not_true_eq_false, not_false_eq_true, or_false, false_or, and_true, true_and, or_true, true_or, and_false, false_and, InK, Path.imp, List.length_replicate, List.length_set, List.length_append, List.length_cons, List.length_nil] at *); omega)) | (refine app_le rfl ?_; omega)))
  all_goals first
    | (rw [hnx, if_pos hb]; show -1 - Int.tmod ((p : Int) + q - a + (w.length : Nat) - 1) (w.length : Nat) = _; rw [hwl0])
    | (rw [hnx, if_neg (by rw [hb]; simp)]; done)
    | (rw [hwl]; exact hat')
set_option maxHeartbeats 4000000 in
theorem nref_b {w s : List Int} {n a x p q : Nat} {st : Int} (h : Word w n) (hn : n ≤ 10) (hl : s.length = n) (h0 : -((2 * n : Nat) : Int) ≤ st) (h1 : st < (2 * n : Nat)) (hA : At w s n st a x p q) (hc : st < 0) : FnAt Try.prog false 51 [.arr (.int .i64) w, .arr (.int .i64) s, .lit (.int .i64 st)] (.lit (.int .i64 (nextT w s st))) [] := by
  have hwl : @List.length (Ty.int .i64).T w = 2 * n := h.len
  have hsl : @List.length (Ty.int .i64).T s = n := hl
  have hwl0 := h.len
  obtain ⟨ha, hat, hx, hwa, hpq, hq, hpl, hpp, hsg, hnx⟩ := hA
  have hat' : -1 - st = (a : Int) := by
    unfold atT at hat
    rwa [if_neg (by omega)] at hat
  have hdc : decide (0 ≤ st) = false := decide_eq_false (by omega)
  have ht0 := Int.tmod_nonneg (a := (p : Int) + q - a + (2 * n : Nat) - 1) (2 * n : Nat) (by omega)
  have ht1 := Int.tmod_lt_of_pos ((p : Int) + q - a + (2 * n : Nat) - 1) (b := (2 * n : Nat)) (by omega)
  have ht0w : 0 ≤ ((p : Int) + q - a + @List.length (Ty.int .i64).T w - 1).tmod (@List.length (Ty.int .i64).T w) := by rw [hwl]; exact ht0
  have ht1w : ((p : Int) + q - a + @List.length (Ty.int .i64).T w - 1).tmod (@List.length (Ty.int .i64).T w) < (2 * n : Nat) := by rw [hwl]; exact ht1
  rw [hdc] at hnx
  have hP := places_at w x (by omega)
  rw [hpl] at hP
  obtain ⟨t, ht⟩ : ∃ t, t = (decide (s.getD x 0 = 1) == decide (a = p)) := ⟨_, rfl⟩
  rw [← ht] at hnx
  have ht' : (decide (s.getD x 0 = 1) == decide ((a : Int) = p)) = t := by
    rw [ht]; congr 1; rw [decide_eq_decide]; omega
  refine FnAt.of_body tys_ok Try.func51 (by rfl) rfl Try.ntmps51 (by rw [Try.results51]) (by simp) ?_
  
  repeat' (first
 | refine W.seq ?_
 | refine W.block ?_
 | (refine W.resub (x := Code.region 4 _ _) (Γ' := ⟨[(0, .st false (.arr (.int .i64) (w : List Int))), (1, .st false (.arr (.int .i64) (s : List Int))), (2, .lit (.int .i64 (st))), (7, .lit (.int .i64 (a))), (8, .lit (.bool (false)))], []⟩) ?_ (W.region tys_ok [10, 28] ?_); rotate_left; (conv => whnf))
 | (refine W.resub (x := Code.region 5 _ _) (Γ' := ⟨[(0, .st false (.arr (.int .i64) (w : List Int))), (1, .st false (.arr (.int .i64) (s : List Int))), (2, .lit (.int .i64 (st))), (7, .lit (.int .i64 (a))), (8, .lit (.bool (false))), (9, .lit (.int .i64 (x)))], []⟩) ?_ (W.region tys_ok [10, 28] ?_); rotate_left; (conv => whnf))
 | (refine W.drawPhTo (id := 6) tys_ok [10, 28] mixed [0, 1, 2, 0, 8, 16, 36, 0, 192, 511] [([0, 1, 2, 3, 4, 5, 6, 7, 8, 9], 0, 1023)] ⟨[(0, .st false (.arr (.int .i64) (w : List Int))), (1, .st false (.arr (.int .i64) (s : List Int))), (2, .lit (.int .i64 (st))), (7, .lit (.int .i64 (a))), (8, .lit (.bool (false))), (9, .lit (.int .i64 (x))), (10, .st true (.arr (.int .i64) ([(p : Int), (q : Int)] : List Int))), (11, .lit (.int .i64 ((p : Int) + q - a)))], []⟩ (by decide +kernel) ?_ ?_ <;> (conv => whnf))
 | (refine W.drawPhTo (id := 7) tys_ok [10, 28] mixed [0, 0, 3, 4, 8, 0, 0, 64, 128, 288, 528, 2047] [([0, 1, 2, 3, 4, 5, 6, 7, 8, 9, 10, 11], 0, 4095)] ⟨[(0, .st false (.arr (.int .i64) (w : List Int))), (1, .st false (.arr (.int .i64) (s : List Int))), (2, .lit (.int .i64 (st))), (7, .lit (.int .i64 (a))), (8, .lit (.bool (false))), (11, .lit (.int .i64 ((p : Int) + q - a))), (12, .lit (.bool (t)))], []⟩ (by decide +kernel) ?_ ?_ <;> (conv => whnf))
 | (refine W.resub (x := Code.region 9 _ _) (Γ' := ⟨[(0, .st false (.arr (.int .i64) w)), (2, .lit (.int .i64 st)), (11, .lit (.int .i64 ((p : Int) + q - a)))], []⟩) ?_ (W.region tys_ok [10, 28] ?_); rotate_left; (conv => whnf))
 | (refine W.region tys_ok [10, 28] ?_; conv => whnf)
 | (refine W.drawAll tys_ok [10, 28] mixed rfl ?_; conv => whnf)
 | (refine W.ret ?_; conv => whnf)
 | (refine W.skip ?_; conv => whnf)
 | (refine W.exit ?_; conv => whnf)
 | (refine call_at (al := false) (hP) rfl rfl rfl rfl ?_; conv => whnf)

    | (refine Both.mk ?_ ?_ <;> (conv => whnf))
    | (refine subF.leaf ?_ <;> (conv => whnf) <;> repeat' (first
 | exact trivial
 | (with_reducible rfl)
 | ((with_reducible refine And.intro ?_ ?_) <;> conv => whnf)
 | omega
 | rfl
 | (refine congrArg (SV.arr _) ?_)
 | (refine congrArg (Value.int _) ?_)
 | (refine congrArg Value.bool ?_)))
 | (refine subF.side ?_ <;> (conv => whnf) <;> repeat' (first
 | exact trivial
 | (with_reducible rfl)
 | ((with_reducible refine And.intro ?_ ?_) <;> conv => whnf)
 | omega
 | rfl
 | (refine congrArg (SV.arr _) ?_)
 | (refine congrArg (Value.int _) ?_)
 | (refine congrArg Value.bool ?_)))
 | (refine W.cond rfl (fun hb => ?_) (fun hb => ?_) <;> (try simp only [Int.reduceToNat, Int.reduceTDiv, Int.reduceTMod, List.getD_cons_zero, List.getD_cons_succ, minL, maxL, pickB, getD_int, getD_sl, getD_bool, len_int, len_sl, len_bool, decide_eq_true_eq, decide_eq_false_iff_not, Bool.and_eq_true, Bool.or_eq_true, Bool.and_eq_false_iff, Bool.or_eq_false_iff, Bool.not_eq_true', Bool.not_eq_false', Bool.true_eq_false, Bool.false_eq_true, Int.toNat_natCast, Int.ofNat_lt, Int.ofNat_le, not_true_eq_false, not_false_eq_true, or_false, false_or, and_true, true_and, or_true, true_or, and_false, false_and] at hb) <;> (try (first | (cases hb; done) | exact absurd hb (by decide) | (exfalso; omega))))
 | ((with_reducible refine And.intro ?_ ?_); (focus ((repeat' (first | (with_reducible rfl) | (with_reducible refine And.intro ?_ ?_) | omega | rfl | exact Or.inl rfl | exact Or.inr rfl | exact of_decide_eq_true rfl | exact Path.imp_of (of_decide_eq_true rfl) | (focus ((try simp only [Int.reduceToNat, Int.reduceTDiv, Int.reduceTMod, List.getD_cons_zero, List.getD_cons_succ, minL, maxL, pickB, getD_int, getD_sl, getD_bool, len_int, len_sl, len_bool, decide_eq_true_eq, decide_eq_false_iff_not, Bool.and_eq_true, Bool.or_eq_true, Bool.and_eq_false_iff, Bool.or_eq_false_iff, Bool.not_eq_true', Bool.not_eq_false', Bool.true_eq_false, Bool.false_eq_true, Int.toNat_natCast, Int.ofNat_lt, Int.ofNat_le, not_true_eq_false, not_false_eq_true, or_false, false_or, and_true, true_and, or_true, true_or, and_false, false_and, InK, Path.imp, List.length_replicate, List.length_set, List.length_append, List.length_cons, List.length_nil] at *); omega)) | (refine app_le rfl ?_; omega))); done)); (conv => whnf))
 | ((with_reducible refine And.intro (Side.out ?_) ?_); rotate_left; (conv => whnf))
 | (refine retF1 ?_ <;> (conv => whnf) <;> repeat' (first
 | exact trivial
 | (with_reducible rfl)
 | ((with_reducible refine And.intro ?_ ?_) <;> conv => whnf)
 | omega
 | rfl
 | (refine congrArg (SV.arr _) ?_)
 | (refine congrArg (Value.int _) ?_)
 | (refine congrArg Value.bool ?_)))
 | (refine retF2 ?_ <;> (conv => whnf) <;> repeat' (first
 | exact trivial
 | (with_reducible rfl)
 | ((with_reducible refine And.intro ?_ ?_) <;> conv => whnf)
 | omega
 | rfl
 | (refine congrArg (SV.arr _) ?_)
 | (refine congrArg (Value.int _) ?_)
 | (refine congrArg Value.bool ?_)))); all_goals (try unfold Side)
  all_goals try (repeat' (first | (with_reducible rfl) | (with_reducible refine And.intro ?_ ?_) | omega | rfl | exact Or.inl rfl | exact Or.inr rfl | exact of_decide_eq_true rfl | exact Path.imp_of (of_decide_eq_true rfl) | (focus ((try simp only [Int.reduceToNat, Int.reduceTDiv, Int.reduceTMod, List.getD_cons_zero, List.getD_cons_succ, minL, maxL, pickB, getD_int, getD_sl, getD_bool, len_int, len_sl, len_bool, decide_eq_true_eq, decide_eq_false_iff_not, Bool.and_eq_true, Bool.or_eq_true, Bool.and_eq_false_iff, Bool.or_eq_false_iff, Bool.not_eq_true', Bool.not_eq_false', Bool.true_eq_false, Bool.false_eq_true, Int.toNat_natCast, Int.ofNat_lt, Int.ofNat_le, not_true_eq_false, not_false_eq_true, or_false, false_or, and_true, true_and, or_true, true_or, and_false, false_and, InK, Path.imp, List.length_replicate, List.length_set, List.length_append, List.length_cons, List.length_nil] at *); omega)) | (refine app_le rfl ?_; omega)))
  all_goals first
    | (rw [hnx, if_pos hb]; show -1 - Int.tmod ((p : Int) + q - a + (w.length : Nat) - 1) (w.length : Nat) = _; rw [hwl0])
    | (rw [hnx, if_neg (by rw [hb]; simp)]; done)
    | (rw [hwl]; exact hat')
end Go.Proofs.Ytdfajcfkdfjoeaa
/- The faces of a word with signs: the program's. No condition. -/
namespace Go.Proofs.Ytdfajcfkdfjoeaa
open Go Go.Vc Go.Scr
set_option linter.unusedVariables false
set_option linter.unusedSimpArgs false

theorem mp_add {L : List Int} {x : Int} (h : ¬ x ∈ L) : Ob.mp .i64 .bool (mput (mpT L) x true) (if (mpT L x).isSome = true then L.length else L.length + 1) = Ob.mp .i64 .bool (mpT (L ++ [x])) (L ++ [x]).length := by
  have h1 : mput (mpT L) x true = mpT (L ++ [x]) := by
    funext j
    unfold mput mpT
    by_cases e : j = x
    · subst e; simp
    · simp [e]
  have h2 : (mpT L x).isSome = false := by rw [mpT, if_neg h]; rfl
  have key : ∀ {m m' : Int → Option Bool} {c c' : Nat}, m = m' → c = c' → Ob.mp .i64 .bool m c = Ob.mp .i64 .bool m' c' := by rintro m m' c c' rfl rfl; rfl
  refine key h1 ?_
  rw [h2, List.length_append]; rfl
theorem mp_eq {L M : List Int} (h : L = M) : Ob.mp .i64 .bool (mpT L) L.length = Ob.mp .i64 .bool (mpT M) M.length := by rw [h]
theorem mp_nil {L : List Int} (h : L = []) : Ob.mp .i64 .bool (fun _ => none) 0 = Ob.mp .i64 .bool (mpT L) L.length := by
  subst h
  have : mpT [] = fun _ => none := by funext j; simp [mpT]
  rw [this]; rfl
theorem next_rg {w s : List Int} {n : Nat} (h : Word w n) (hs : signsB s n = true) : ∀ st, -((2 * n : Nat) : Int) ≤ st → st < (2 * n : Nat) → -((2 * n : Nat) : Int) ≤ nextT w s st ∧ nextT w s st < (2 * n : Nat) := fun st h0 h1 => by
  simp only [signsB, Bool.and_eq_true, decide_eq_true_eq] at hs
  obtain ⟨a, x, p, q, hA⟩ := at_of h hs.1 hs.2 h0 h1
  exact hA.rg
set_option maxHeartbeats 4000000 in
theorem faces_at {w s : List Int} {n : Nat} (h : Word w n) (hn : n ≤ 10) (hs : signsB s n = true) : FnAt Try.prog false 48 [curveT n w, .arr (.int .i64) s] (.own 0) [(0, .row 22 (.sl (.int .i64)) true (facesT (nextT w s) (2 * n)))] := by
  have hwl : @List.length (Ty.int .i64).T w = 2 * n := h.len
  have hp := h.pos
  have hr := next_rg h hs
  obtain ⟨nx, hnx⟩ : ∃ nx, nx = nextT w s := ⟨_, rfl⟩
  rw [← hnx] at hr ⊢
  obtain ⟨K, hK⟩ : ∃ K : Nat → List (List Int), K = facesK nx (2 * n) := ⟨_, rfl⟩
  have hK0 : K 0 = [] := by rw [hK]; rfl
  have hKT : K (2 * (2 * n)) = facesT nx (2 * n) := by rw [hK]; rfl
  have hKl : ∀ k, (K k).length ≤ k := fun k => by rw [hK]; exact facesK_len k
  have hKl2 : ∀ k, @List.length (Ty.sl (.int .i64)).T (K k) ≤ k := hKl
  have hok : ∀ k, k ≤ 2 * (2 * n) → (K k).flatten.Nodup ∧ ∀ x ∈ (K k).flatten, -((2 * n : Nat) : Int) ≤ x ∧ x < (2 * n : Nat) := by rw [hK]; exact facesK_ok hr
  have hskip : ∀ k : Nat, (k : Int) - (2 * n : Nat) ∈ (K k).flatten → K (k + 1) = K k := by rw [hK]; exact fun k => facesK_skip
  have hpush : ∀ k : Nat, ¬ (k : Int) - (2 * n : Nat) ∈ (K k).flatten → K (k + 1) = K k ++ [walk nx (K k).flatten (2 * (2 * n) + 1) ((k : Int) - (2 * n : Nat)) []] := by rw [hK]; exact fun k => facesK_push
  refine FnAt.of_body tys_ok Try.func48 (by rfl) rfl Try.ntmps48 (by rw [Try.results48]) (by simp) ?_
  
  repeat' (first
 | refine W.seq ?_
 | refine W.block ?_
 | (refine W.region tys_ok [] ?_; conv => whnf)
 | (refine W.drawAll tys_ok [] mixed rfl ?_; conv => whnf)
 | (refine W.ret ?_; conv => whnf)
 | (refine W.skip ?_; conv => whnf)
 | (refine W.exit ?_; conv => whnf)

    | (refine W.cond rfl (fun hb => ?_) (fun hb => ?_) <;> (try simp only [Int.reduceToNat, Int.reduceTDiv, Int.reduceTMod, List.getD_cons_zero, List.getD_cons_succ, minL, maxL, pickB, getD_int, getD_sl, getD_bool, len_int, len_sl, len_bool, decide_eq_true_eq, decide_eq_false_iff_not, Bool.and_eq_true, Bool.or_eq_true, Bool.and_eq_false_iff, Bool.or_eq_false_iff, Bool.not_eq_true', Bool.not_eq_false', Bool.true_eq_false, Bool.false_eq_true, Int.toNat_natCast, Int.ofNat_lt, Int.ofNat_le, not_true_eq_false, not_false_eq_true, or_false, false_or, and_true, true_and, or_true, true_or, and_false, false_and] at hb) <;> (try (first | (cases hb; done) | exact absurd hb (by decide) | (exfalso; omega))))
    | ((with_reducible refine And.intro ?_ ?_); (focus ((repeat' (first | (with_reducible rfl) | (with_reducible refine And.intro ?_ ?_) | omega | rfl | exact Or.inl rfl | exact Or.inr rfl | exact of_decide_eq_true rfl | exact Path.imp_of (of_decide_eq_true rfl) | (focus ((try simp only [Int.reduceToNat, Int.reduceTDiv, Int.reduceTMod, List.getD_cons_zero, List.getD_cons_succ, minL, maxL, pickB, getD_int, getD_sl, getD_bool, len_int, len_sl, len_bool, decide_eq_true_eq, decide_eq_false_iff_not, Bool.and_eq_true, Bool.or_eq_true, Bool.and_eq_false_iff, Bool.or_eq_false_iff, Bool.not_eq_true', Bool.not_eq_false', Bool.true_eq_false, Bool.false_eq_true, Int.toNat_natCast, Int.ofNat_lt, Int.ofNat_le, not_true_eq_false, not_false_eq_true, or_false, false_or, and_true, true_and, or_true, true_or, and_false, false_and, InK, Path.imp, List.length_replicate, List.length_set, List.length_append, List.length_cons, List.length_nil] at *); omega)) | (refine app_le rfl ?_; omega))); done)); (conv => whnf))
    | ((with_reducible refine And.intro (Side.out ?_) ?_); rotate_left; (conv => whnf))
    | (refine retF1 ?_ <;> (conv => whnf) <;> repeat' (first
 | exact trivial
 | (with_reducible rfl)
 | ((with_reducible refine And.intro ?_ ?_) <;> conv => whnf)
 | omega
 | rfl
 | (refine congrArg (SV.arr _) ?_)
 | (refine congrArg (Value.int _) ?_)
 | (refine congrArg Value.bool ?_)))
 | (refine retF2 ?_ <;> (conv => whnf) <;> repeat' (first
 | exact trivial
 | (with_reducible rfl)
 | ((with_reducible refine And.intro ?_ ?_) <;> conv => whnf)
 | omega
 | rfl
 | (refine congrArg (SV.arr _) ?_)
 | (refine congrArg (Value.int _) ?_)
 | (refine congrArg Value.bool ?_)))); all_goals (try unfold Side)
  all_goals try (repeat' (first | (with_reducible rfl) | (with_reducible refine And.intro ?_ ?_) | omega | rfl | exact Or.inl rfl | exact Or.inr rfl | exact of_decide_eq_true rfl | exact Path.imp_of (of_decide_eq_true rfl) | (focus ((try simp only [Int.reduceToNat, Int.reduceTDiv, Int.reduceTMod, List.getD_cons_zero, List.getD_cons_succ, minL, maxL, pickB, getD_int, getD_sl, getD_bool, len_int, len_sl, len_bool, decide_eq_true_eq, decide_eq_false_iff_not, Bool.and_eq_true, Bool.or_eq_true, Bool.and_eq_false_iff, Bool.or_eq_false_iff, Bool.not_eq_true', Bool.not_eq_false', Bool.true_eq_false, Bool.false_eq_true, Int.toNat_natCast, Int.ofNat_lt, Int.ofNat_le, not_true_eq_false, not_false_eq_true, or_false, false_or, and_true, true_and, or_true, true_or, and_false, false_and, InK, Path.imp, List.length_replicate, List.length_set, List.length_append, List.length_cons, List.length_nil] at *); omega)) | (refine app_le rfl ?_; omega)))
  refine W.loop (fun k : Nat => ⟨[(0, .st false (curveT n w)), (1, .st false (.arr (.int .i64) (s : List Int))), (5, .own 900005), (6, .own 900006), (7, .lit (.int .i64 ((2 * n : Nat)))), (8, .lit (.int .i64 ((k : Int) - (2 * n : Nat))))], [(900005, .row 22 (.sl (.int .i64)) true (K k : List (List Int))), (900006, .mp .i64 .bool (mpT (K k).flatten) (K k).flatten.length)]⟩) (fun k => k ≤ 2 * (2 * n)) (fun k => 2 * (2 * n) - k) (0) ?_ ?_
  · refine ⟨Nat.zero_le _, ?_⟩
    refine subF.ok ?_ <;> (conv => whnf) <;> repeat' (first
 | exact trivial
 | (with_reducible rfl)
 | ((with_reducible refine And.intro ?_ ?_) <;> conv => whnf)
 | omega
 | rfl
 | (refine congrArg (SV.arr _) ?_)
 | (refine congrArg (Value.int _) ?_)
 | (refine congrArg Value.bool ?_))
    · exact hK0
    · exact mp_nil (by rw [hK0]; rfl)
  · intro k hk
    have hlk := hKl2 k
    by_cases hil : k < 2 * (2 * n)
    · by_cases hm : (k : Int) - (2 * n : Nat) ∈ (K k).flatten
      · have hv := mpT_in hm
        repeat' (first
 | refine W.seq ?_
 | refine W.block ?_
 | (refine W.region tys_ok [] ?_; conv => whnf)
 | (refine W.drawAll tys_ok [] mixed rfl ?_; conv => whnf)
 | (refine W.ret ?_; conv => whnf)
 | (refine W.skip ?_; conv => whnf)
 | (refine W.exit ?_; conv => whnf)

    | (refine W.cond rfl (fun hb => ?_) (fun hb => ?_) <;> (try simp only [Int.reduceToNat, Int.reduceTDiv, Int.reduceTMod, List.getD_cons_zero, List.getD_cons_succ, minL, maxL, pickB, getD_int, getD_sl, getD_bool, len_int, len_sl, len_bool, decide_eq_true_eq, decide_eq_false_iff_not, Bool.and_eq_true, Bool.or_eq_true, Bool.and_eq_false_iff, Bool.or_eq_false_iff, Bool.not_eq_true', Bool.not_eq_false', Bool.true_eq_false, Bool.false_eq_true, Int.toNat_natCast, Int.ofNat_lt, Int.ofNat_le, not_true_eq_false, not_false_eq_true, or_false, false_or, and_true, true_and, or_true, true_or, and_false, false_and] at hb) <;> (try (first | (cases hb; done) | exact absurd hb (by decide) | (exfalso; omega) | (exact absurd (hb.symm.trans hv) (by decide)))))
    | ((with_reducible refine And.intro ?_ ?_); (focus ((repeat' (first | (with_reducible rfl) | (with_reducible refine And.intro ?_ ?_) | omega | rfl | exact Or.inl rfl | exact Or.inr rfl | exact of_decide_eq_true rfl | exact Path.imp_of (of_decide_eq_true rfl) | (focus ((try simp only [Int.reduceToNat, Int.reduceTDiv, Int.reduceTMod, List.getD_cons_zero, List.getD_cons_succ, minL, maxL, pickB, getD_int, getD_sl, getD_bool, len_int, len_sl, len_bool, decide_eq_true_eq, decide_eq_false_iff_not, Bool.and_eq_true, Bool.or_eq_true, Bool.and_eq_false_iff, Bool.or_eq_false_iff, Bool.not_eq_true', Bool.not_eq_false', Bool.true_eq_false, Bool.false_eq_true, Int.toNat_natCast, Int.ofNat_lt, Int.ofNat_le, not_true_eq_false, not_false_eq_true, or_false, false_or, and_true, true_and, or_true, true_or, and_false, false_and, InK, Path.imp, List.length_replicate, List.length_set, List.length_append, List.length_cons, List.length_nil] at *); omega)) | (refine app_le rfl ?_; omega))); done)); (conv => whnf))
    | ((with_reducible refine And.intro (Side.out ?_) ?_); rotate_left; (conv => whnf))
    | (refine retF1 ?_ <;> (conv => whnf) <;> repeat' (first
 | exact trivial
 | (with_reducible rfl)
 | ((with_reducible refine And.intro ?_ ?_) <;> conv => whnf)
 | omega
 | rfl
 | (refine congrArg (SV.arr _) ?_)
 | (refine congrArg (Value.int _) ?_)
 | (refine congrArg Value.bool ?_)))
 | (refine retF2 ?_ <;> (conv => whnf) <;> repeat' (first
 | exact trivial
 | (with_reducible rfl)
 | ((with_reducible refine And.intro ?_ ?_) <;> conv => whnf)
 | omega
 | rfl
 | (refine congrArg (SV.arr _) ?_)
 | (refine congrArg (Value.int _) ?_)
 | (refine congrArg Value.bool ?_)))); all_goals (try unfold Side)
        all_goals try (repeat' (first | (with_reducible rfl) | (with_reducible refine And.intro ?_ ?_) | omega | rfl | exact Or.inl rfl | exact Or.inr rfl | exact of_decide_eq_true rfl | exact Path.imp_of (of_decide_eq_true rfl) | (focus ((try simp only [Int.reduceToNat, Int.reduceTDiv, Int.reduceTMod, List.getD_cons_zero, List.getD_cons_succ, minL, maxL, pickB, getD_int, getD_sl, getD_bool, len_int, len_sl, len_bool, decide_eq_true_eq, decide_eq_false_iff_not, Bool.and_eq_true, Bool.or_eq_true, Bool.and_eq_false_iff, Bool.or_eq_false_iff, Bool.not_eq_true', Bool.not_eq_false', Bool.true_eq_false, Bool.false_eq_true, Int.toNat_natCast, Int.ofNat_lt, Int.ofNat_le, not_true_eq_false, not_false_eq_true, or_false, false_or, and_true, true_and, or_true, true_or, and_false, false_and, InK, Path.imp, List.length_replicate, List.length_set, List.length_append, List.length_cons, List.length_nil] at *); omega)) | (refine app_le rfl ?_; omega)))
        refine ⟨k + 1, ⟨by omega, by omega⟩, ?_⟩
        rw [hskip k hm]
        refine subF.ok ?_ <;> (conv => whnf) <;> repeat' (first
 | exact trivial
 | (with_reducible rfl)
 | ((with_reducible refine And.intro ?_ ?_) <;> conv => whnf)
 | omega
 | rfl
 | (refine congrArg (SV.arr _) ?_)
 | (refine congrArg (Value.int _) ?_)
 | (refine congrArg Value.bool ?_))
      · have hv := mpT_out hm
        obtain ⟨nd, rg⟩ := hok k (by omega)
        obtain ⟨F, hF⟩ : ∃ F, F = walk nx (K k).flatten (2 * (2 * n) + 1) ((k : Int) - (2 * n : Nat)) [] := ⟨_, rfl⟩
        have hpk := hpush k hm
        rw [← hF] at hpk
        repeat' (first
 | refine W.seq ?_
 | refine W.block ?_
 | (refine W.region tys_ok [] ?_; conv => whnf)
 | (refine W.drawAll tys_ok [] mixed rfl ?_; conv => whnf)
 | (refine W.ret ?_; conv => whnf)
 | (refine W.skip ?_; conv => whnf)
 | (refine W.exit ?_; conv => whnf)

    | (refine W.cond rfl (fun hb => ?_) (fun hb => ?_) <;> (try simp only [Int.reduceToNat, Int.reduceTDiv, Int.reduceTMod, List.getD_cons_zero, List.getD_cons_succ, minL, maxL, pickB, getD_int, getD_sl, getD_bool, len_int, len_sl, len_bool, decide_eq_true_eq, decide_eq_false_iff_not, Bool.and_eq_true, Bool.or_eq_true, Bool.and_eq_false_iff, Bool.or_eq_false_iff, Bool.not_eq_true', Bool.not_eq_false', Bool.true_eq_false, Bool.false_eq_true, Int.toNat_natCast, Int.ofNat_lt, Int.ofNat_le, not_true_eq_false, not_false_eq_true, or_false, false_or, and_true, true_and, or_true, true_or, and_false, false_and] at hb) <;> (try (first | (cases hb; done) | exact absurd hb (by decide) | (exfalso; omega) | (exact absurd (hb.symm.trans hv) (by decide)))))
    | ((with_reducible refine And.intro ?_ ?_); (focus ((repeat' (first | (with_reducible rfl) | (with_reducible refine And.intro ?_ ?_) | omega | rfl | exact Or.inl rfl | exact Or.inr rfl | exact of_decide_eq_true rfl | exact Path.imp_of (of_decide_eq_true rfl) | (focus ((try simp only [Int.reduceToNat, Int.reduceTDiv, Int.reduceTMod, List.getD_cons_zero, List.getD_cons_succ, minL, maxL, pickB, getD_int, getD_sl, getD_bool, len_int, len_sl, len_bool, decide_eq_true_eq, decide_eq_false_iff_not, Bool.and_eq_true, Bool.or_eq_true, Bool.and_eq_false_iff, Bool.or_eq_false_iff, Bool.not_eq_true', Bool.not_eq_false', Bool.true_eq_false, Bool.false_eq_true, Int.toNat_natCast, Int.ofNat_lt, Int.ofNat_le, not_true_eq_false, not_false_eq_true, or_false, false_or, and_true, true_and, or_true, true_or, and_false, false_and, InK, Path.imp, List.length_replicate, List.length_set, List.length_append, List.length_cons, List.length_nil] at *); omega)) | (refine app_le rfl ?_; omega))); done)); (conv => whnf))
    | ((with_reducible refine And.intro (Side.out ?_) ?_); rotate_left; (conv => whnf))
    | (refine retF1 ?_ <;> (conv => whnf) <;> repeat' (first
 | exact trivial
 | (with_reducible rfl)
 | ((with_reducible refine And.intro ?_ ?_) <;> conv => whnf)
 | omega
 | rfl
 | (refine congrArg (SV.arr _) ?_)
 | (refine congrArg (Value.int _) ?_)
 | (refine congrArg Value.bool ?_)))
 | (refine retF2 ?_ <;> (conv => whnf) <;> repeat' (first
 | exact trivial
 | (with_reducible rfl)
 | ((with_reducible refine And.intro ?_ ?_) <;> conv => whnf)
 | omega
 | rfl
 | (refine congrArg (SV.arr _) ?_)
 | (refine congrArg (Value.int _) ?_)
 | (refine congrArg Value.bool ?_)))); all_goals (try unfold Side)
        all_goals try (repeat' (first | (with_reducible rfl) | (with_reducible refine And.intro ?_ ?_) | omega | rfl | exact Or.inl rfl | exact Or.inr rfl | exact of_decide_eq_true rfl | exact Path.imp_of (of_decide_eq_true rfl) | (focus ((try simp only [Int.reduceToNat, Int.reduceTDiv, Int.reduceTMod, List.getD_cons_zero, List.getD_cons_succ, minL, maxL, pickB, getD_int, getD_sl, getD_bool, len_int, len_sl, len_bool, decide_eq_true_eq, decide_eq_false_iff_not, Bool.and_eq_true, Bool.or_eq_true, Bool.and_eq_false_iff, Bool.or_eq_false_iff, Bool.not_eq_true', Bool.not_eq_false', Bool.true_eq_false, Bool.false_eq_true, Int.toNat_natCast, Int.ofNat_lt, Int.ofNat_le, not_true_eq_false, not_false_eq_true, or_false, false_or, and_true, true_and, or_true, true_or, and_false, false_and, InK, Path.imp, List.length_replicate, List.length_set, List.length_append, List.length_cons, List.length_nil] at *); omega)) | (refine app_le rfl ?_; omega)))
        refine W.loop (fun z : List Int × Int => ⟨[(0, .st false (curveT n w)), (1, .st false (.arr (.int .i64) (s : List Int))), (5, .own 900005), (6, .own 900006), (7, .lit (.int .i64 ((2 * n : Nat)))), (8, .lit (.int .i64 ((k : Int) - (2 * n : Nat)))), (9, .own 900009), (10, .lit (.int .i64 (z.2)))], [(900005, .row 22 (.sl (.int .i64)) true (K k : List (List Int))), (900006, .mp .i64 .bool (mpT ((K k).flatten ++ z.1)) ((K k).flatten ++ z.1).length), (900009, .row 3 (.int .i64) true (z.1 : List Int))]⟩) (fun z => Wk nx (2 * n) (K k).flatten ((k : Int) - (2 * n : Nat)) z.2 z.1 ∧ walk nx (K k).flatten (2 * (2 * n) + 1 - z.1.length) z.2 z.1 = F) (fun z => 2 * (2 * n) - ((K k).flatten.length + z.1.length)) (([], (k : Int) - (2 * n : Nat))) ?_ ?_
        · refine ⟨⟨Wk.init nd rg (by omega) (by omega), hF.symm⟩, ?_⟩
          refine subF.ok ?_ <;> (conv => whnf) <;> repeat' (first
 | exact trivial
 | (with_reducible rfl)
 | ((with_reducible refine And.intro ?_ ?_) <;> conv => whnf)
 | omega
 | rfl
 | (refine congrArg (SV.arr _) ?_)
 | (refine congrArg (Value.int _) ?_)
 | (refine congrArg Value.bool ?_))
          · exact mp_eq (by simp)
        · rintro ⟨face, st⟩ ⟨hw, hf⟩
          dsimp only at hw hf ⊢
          have hlen := hw.len
          have hfl : @List.length (Ty.int .i64).T face ≤ 2 * (2 * n) := by show face.length ≤ _; omega
          have hst := hw.st
          have hrs := hr st hst.1 hst.2
          by_cases hms : st ∈ (K k).flatten ∨ st ∈ face
          · have hv2 := mpT_in (List.mem_append.2 hms)
            rw [walk_end hfl hms] at hf
            subst hf
            repeat' (first
 | refine W.seq ?_
 | refine W.block ?_
 | (refine W.resub (x := Code.region 14 _ _) (Γ' := ⟨[(0, .st false (curveT n w)), (1, .st false (.arr (.int .i64) (s : List Int))), (5, .own 900005), (6, .own 900006), (7, .lit (.int .i64 ((2 * n : Nat)))), (8, .lit (.int .i64 ((k : Int) - (2 * n : Nat)))), (9, .st true (.arr (.int .i64) (face : List Int)))], [(900005, .row 22 (.sl (.int .i64)) true (K k : List (List Int))), (900006, .mp .i64 .bool (mpT ((K k).flatten ++ face)) ((K k).flatten ++ face).length)]⟩) ?_ (W.region tys_ok [] ?_); rotate_left; (conv => whnf))
 | (refine W.region tys_ok [] ?_; conv => whnf)
 | (refine W.drawAll tys_ok [] mixed rfl ?_; conv => whnf)
 | (refine W.ret ?_; conv => whnf)
 | (refine W.skip ?_; conv => whnf)
 | (refine W.exit ?_; conv => whnf)

    | (refine W.cond rfl (fun hb => ?_) (fun hb => ?_) <;> (try simp only [Int.reduceToNat, Int.reduceTDiv, Int.reduceTMod, List.getD_cons_zero, List.getD_cons_succ, minL, maxL, pickB, getD_int, getD_sl, getD_bool, len_int, len_sl, len_bool, decide_eq_true_eq, decide_eq_false_iff_not, Bool.and_eq_true, Bool.or_eq_true, Bool.and_eq_false_iff, Bool.or_eq_false_iff, Bool.not_eq_true', Bool.not_eq_false', Bool.true_eq_false, Bool.false_eq_true, Int.toNat_natCast, Int.ofNat_lt, Int.ofNat_le, not_true_eq_false, not_false_eq_true, or_false, false_or, and_true, true_and, or_true, true_or, and_false, false_and] at hb) <;> (try (first | (cases hb; done) | exact absurd hb (by decide) | (exfalso; omega) | (exact absurd (hb.symm.trans (congrArg (fun b : Bool => !b) hv2)) (by decide)))))
    | ((with_reducible refine And.intro ?_ ?_); (focus ((repeat' (first | (with_reducible rfl) | (with_reducible refine And.intro ?_ ?_) | omega | rfl | exact Or.inl rfl | exact Or.inr rfl | exact of_decide_eq_true rfl | exact Path.imp_of (of_decide_eq_true rfl) | (focus ((try simp only [Int.reduceToNat, Int.reduceTDiv, Int.reduceTMod, List.getD_cons_zero, List.getD_cons_succ, minL, maxL, pickB, getD_int, getD_sl, getD_bool, len_int, len_sl, len_bool, decide_eq_true_eq, decide_eq_false_iff_not, Bool.and_eq_true, Bool.or_eq_true, Bool.and_eq_false_iff, Bool.or_eq_false_iff, Bool.not_eq_true', Bool.not_eq_false', Bool.true_eq_false, Bool.false_eq_true, Int.toNat_natCast, Int.ofNat_lt, Int.ofNat_le, not_true_eq_false, not_false_eq_true, or_false, false_or, and_true, true_and, or_true, true_or, and_false, false_and, InK, Path.imp, List.length_replicate, List.length_set, List.length_append, List.length_cons, List.length_nil] at *); omega)) | (refine app_le rfl ?_; omega))); done)); (conv => whnf))
    | ((with_reducible refine And.intro (Side.out ?_) ?_); rotate_left; (conv => whnf))
    | (refine retF1 ?_ <;> (conv => whnf) <;> repeat' (first
 | exact trivial
 | (with_reducible rfl)
 | ((with_reducible refine And.intro ?_ ?_) <;> conv => whnf)
 | omega
 | rfl
 | (refine congrArg (SV.arr _) ?_)
 | (refine congrArg (Value.int _) ?_)
 | (refine congrArg Value.bool ?_)))
 | (refine retF2 ?_ <;> (conv => whnf) <;> repeat' (first
 | exact trivial
 | (with_reducible rfl)
 | ((with_reducible refine And.intro ?_ ?_) <;> conv => whnf)
 | omega
 | rfl
 | (refine congrArg (SV.arr _) ?_)
 | (refine congrArg (Value.int _) ?_)
 | (refine congrArg Value.bool ?_)))); all_goals (try unfold Side)
            all_goals try (repeat' (first | (with_reducible rfl) | (with_reducible refine And.intro ?_ ?_) | omega | rfl | exact Or.inl rfl | exact Or.inr rfl | exact of_decide_eq_true rfl | exact Path.imp_of (of_decide_eq_true rfl) | (focus ((try simp only [Int.reduceToNat, Int.reduceTDiv, Int.reduceTMod, List.getD_cons_zero, List.getD_cons_succ, minL, maxL, pickB, getD_int, getD_sl, getD_bool, len_int, len_sl, len_bool, decide_eq_true_eq, decide_eq_false_iff_not, Bool.and_eq_true, Bool.or_eq_true, Bool.and_eq_false_iff, Bool.or_eq_false_iff, Bool.not_eq_true', Bool.not_eq_false', Bool.true_eq_false, Bool.false_eq_true, Int.toNat_natCast, Int.ofNat_lt, Int.ofNat_le, not_true_eq_false, not_false_eq_true, or_false, false_or, and_true, true_and, or_true, true_or, and_false, false_and, InK, Path.imp, List.length_replicate, List.length_set, List.length_append, List.length_cons, List.length_nil] at *); omega)) | (refine app_le rfl ?_; omega)))
            · refine ⟨k + 1, ⟨by omega, by omega⟩, ?_⟩
              rw [hpk]
              refine subF.ok ?_ <;> (conv => whnf) <;> repeat' (first
 | exact trivial
 | (with_reducible rfl)
 | ((with_reducible refine And.intro ?_ ?_) <;> conv => whnf)
 | omega
 | rfl
 | (refine congrArg (SV.arr _) ?_)
 | (refine congrArg (Value.int _) ?_)
 | (refine congrArg Value.bool ?_))
              all_goals exact mp_eq (by simp)
            · refine subF.ok ?_ <;> (conv => whnf) <;> repeat' (first
 | exact trivial
 | (with_reducible rfl)
 | ((with_reducible refine And.intro ?_ ?_) <;> conv => whnf)
 | omega
 | rfl
 | (refine congrArg (SV.arr _) ?_)
 | (refine congrArg (Value.int _) ?_)
 | (refine congrArg Value.bool ?_))
          · have hv2 := mpT_out (fun h => hms (List.mem_append.1 h))
            have hadd := mp_add (fun h => hms (List.mem_append.1 h))
            rw [walk_more hfl hms] at hf
            have hnext := next_at h hn hs hst.1 hst.2
            rw [← hnx] at hnext
            repeat' (first
 | refine W.seq ?_
 | refine W.block ?_
 | (refine W.region tys_ok [] ?_; conv => whnf)
 | (refine W.drawAll tys_ok [] mixed rfl ?_; conv => whnf)
 | (refine W.ret ?_; conv => whnf)
 | (refine W.skip ?_; conv => whnf)
 | (refine W.exit ?_; conv => whnf)
 | (refine call_at (al := false) (hnext) rfl rfl rfl rfl ?_; conv => whnf)

    | (refine W.cond rfl (fun hb => ?_) (fun hb => ?_) <;> (try simp only [Int.reduceToNat, Int.reduceTDiv, Int.reduceTMod, List.getD_cons_zero, List.getD_cons_succ, minL, maxL, pickB, getD_int, getD_sl, getD_bool, len_int, len_sl, len_bool, decide_eq_true_eq, decide_eq_false_iff_not, Bool.and_eq_true, Bool.or_eq_true, Bool.and_eq_false_iff, Bool.or_eq_false_iff, Bool.not_eq_true', Bool.not_eq_false', Bool.true_eq_false, Bool.false_eq_true, Int.toNat_natCast, Int.ofNat_lt, Int.ofNat_le, not_true_eq_false, not_false_eq_true, or_false, false_or, and_true, true_and, or_true, true_or, and_false, false_and] at hb) <;> (try (first | (cases hb; done) | exact absurd hb (by decide) | (exfalso; omega) | (exact absurd (hb.symm.trans (congrArg (fun b : Bool => !b) hv2)) (by decide)))))
    | ((with_reducible refine And.intro ?_ ?_); (focus ((repeat' (first | (with_reducible rfl) | (with_reducible refine And.intro ?_ ?_) | omega | rfl | exact Or.inl rfl | exact Or.inr rfl | exact of_decide_eq_true rfl | exact Path.imp_of (of_decide_eq_true rfl) | (focus ((try simp only [Int.reduceToNat, Int.reduceTDiv, Int.reduceTMod, List.getD_cons_zero, List.getD_cons_succ, minL, maxL, pickB, getD_int, getD_sl, getD_bool, len_int, len_sl, len_bool, decide_eq_true_eq, decide_eq_false_iff_not, Bool.and_eq_true, Bool.or_eq_true, Bool.and_eq_false_iff, Bool.or_eq_false_iff, Bool.not_eq_true', Bool.not_eq_false', Bool.true_eq_false, Bool.false_eq_true, Int.toNat_natCast, Int.ofNat_lt, Int.ofNat_le, not_true_eq_false, not_false_eq_true, or_false, false_or, and_true, true_and, or_true, true_or, and_false, false_and, InK, Path.imp, List.length_replicate, List.length_set, List.length_append, List.length_cons, List.length_nil] at *); omega)) | (refine app_le rfl ?_; omega))); done)); (conv => whnf))
    | ((with_reducible refine And.intro (Side.out ?_) ?_); rotate_left; (conv => whnf))
    | (refine retF1 ?_ <;> (conv => whnf) <;> repeat' (first
 | exact trivial
 | (with_reducible rfl)
 | ((with_reducible refine And.intro ?_ ?_) <;> conv => whnf)
 | omega
 | rfl
 | (refine congrArg (SV.arr _) ?_)
 | (refine congrArg (Value.int _) ?_)
 | (refine congrArg Value.bool ?_)))
 | (refine retF2 ?_ <;> (conv => whnf) <;> repeat' (first
 | exact trivial
 | (with_reducible rfl)
 | ((with_reducible refine And.intro ?_ ?_) <;> conv => whnf)
 | omega
 | rfl
 | (refine congrArg (SV.arr _) ?_)
 | (refine congrArg (Value.int _) ?_)
 | (refine congrArg Value.bool ?_)))); all_goals (try unfold Side)
            all_goals try (repeat' (first | (with_reducible rfl) | (with_reducible refine And.intro ?_ ?_) | omega | rfl | exact Or.inl rfl | exact Or.inr rfl | exact of_decide_eq_true rfl | exact Path.imp_of (of_decide_eq_true rfl) | (focus ((try simp only [Int.reduceToNat, Int.reduceTDiv, Int.reduceTMod, List.getD_cons_zero, List.getD_cons_succ, minL, maxL, pickB, getD_int, getD_sl, getD_bool, len_int, len_sl, len_bool, decide_eq_true_eq, decide_eq_false_iff_not, Bool.and_eq_true, Bool.or_eq_true, Bool.and_eq_false_iff, Bool.or_eq_false_iff, Bool.not_eq_true', Bool.not_eq_false', Bool.true_eq_false, Bool.false_eq_true, Int.toNat_natCast, Int.ofNat_lt, Int.ofNat_le, not_true_eq_false, not_false_eq_true, or_false, false_or, and_true, true_and, or_true, true_or, and_false, false_and, InK, Path.imp, List.length_replicate, List.length_set, List.length_append, List.length_cons, List.length_nil] at *); omega)) | (refine app_le rfl ?_; omega)))
            refine ⟨(face ++ [st], nx st), ⟨⟨hw.step hr hms, hf⟩, by
              have := (hw.step hr hms).len
              simp only [List.length_append, List.length_singleton] at this ⊢
              omega⟩, ?_⟩
            refine subF.ok ?_ <;> (conv => whnf) <;> repeat' (first
 | exact trivial
 | (with_reducible rfl)
 | ((with_reducible refine And.intro ?_ ?_) <;> conv => whnf)
 | omega
 | rfl
 | (refine congrArg (SV.arr _) ?_)
 | (refine congrArg (Value.int _) ?_)
 | (refine congrArg Value.bool ?_))
            all_goals exact hadd.trans (mp_eq (List.append_assoc _ _ _))
    · have hie : 2 * (2 * n) = k := by omega
      subst hie
      rw [hKT]
      repeat' (first
 | refine W.seq ?_
 | refine W.block ?_
 | (refine W.region tys_ok [] ?_; conv => whnf)
 | (refine W.drawAll tys_ok [] mixed rfl ?_; conv => whnf)
 | (refine W.ret ?_; conv => whnf)
 | (refine W.skip ?_; conv => whnf)
 | (refine W.exit ?_; conv => whnf)

    | (refine W.cond rfl (fun hb => ?_) (fun hb => ?_) <;> (try simp only [Int.reduceToNat, Int.reduceTDiv, Int.reduceTMod, List.getD_cons_zero, List.getD_cons_succ, minL, maxL, pickB, getD_int, getD_sl, getD_bool, len_int, len_sl, len_bool, decide_eq_true_eq, decide_eq_false_iff_not, Bool.and_eq_true, Bool.or_eq_true, Bool.and_eq_false_iff, Bool.or_eq_false_iff, Bool.not_eq_true', Bool.not_eq_false', Bool.true_eq_false, Bool.false_eq_true, Int.toNat_natCast, Int.ofNat_lt, Int.ofNat_le, not_true_eq_false, not_false_eq_true, or_false, false_or, and_true, true_and, or_true, true_or, and_false, false_and] at hb) <;> (try (first | (cases hb; done) | exact absurd hb (by decide) | (exfalso; omega))))
    | ((with_reducible refine And.intro ?_ ?_); (focus ((repeat' (first | (with_reducible rfl) | (with_reducible refine And.intro ?_ ?_) | omega | rfl | exact Or.inl rfl | exact Or.inr rfl | exact of_decide_eq_true rfl | exact Path.imp_of (of_decide_eq_true rfl) | (focus ((try simp only [Int.reduceToNat, Int.reduceTDiv, Int.reduceTMod, List.getD_cons_zero, List.getD_cons_succ, minL, maxL, pickB, getD_int, getD_sl, getD_bool, len_int, len_sl, len_bool, decide_eq_true_eq, decide_eq_false_iff_not, Bool.and_eq_true, Bool.or_eq_true, Bool.and_eq_false_iff, Bool.or_eq_false_iff, Bool.not_eq_true', Bool.not_eq_false', Bool.true_eq_false, Bool.false_eq_true, Int.toNat_natCast, Int.ofNat_lt, Int.ofNat_le, not_true_eq_false, not_false_eq_true, or_false, false_or, and_true, true_and, or_true, true_or, and_false, false_and, InK, Path.imp, List.length_replicate, List.length_set, List.length_append, List.length_cons, List.length_nil] at *); omega)) | (refine app_le rfl ?_; omega))); done)); (conv => whnf))
    | ((with_reducible refine And.intro (Side.out ?_) ?_); rotate_left; (conv => whnf))
    | (refine retF1 ?_ <;> (conv => whnf) <;> repeat' (first
 | exact trivial
 | (with_reducible rfl)
 | ((with_reducible refine And.intro ?_ ?_) <;> conv => whnf)
 | omega
 | rfl
 | (refine congrArg (SV.arr _) ?_)
 | (refine congrArg (Value.int _) ?_)
 | (refine congrArg Value.bool ?_)))
 | (refine retF2 ?_ <;> (conv => whnf) <;> repeat' (first
 | exact trivial
 | (with_reducible rfl)
 | ((with_reducible refine And.intro ?_ ?_) <;> conv => whnf)
 | omega
 | rfl
 | (refine congrArg (SV.arr _) ?_)
 | (refine congrArg (Value.int _) ?_)
 | (refine congrArg Value.bool ?_)))); all_goals (try unfold Side)
      all_goals try (repeat' (first | (with_reducible rfl) | (with_reducible refine And.intro ?_ ?_) | omega | rfl | exact Or.inl rfl | exact Or.inr rfl | exact of_decide_eq_true rfl | exact Path.imp_of (of_decide_eq_true rfl) | (focus ((try simp only [Int.reduceToNat, Int.reduceTDiv, Int.reduceTMod, List.getD_cons_zero, List.getD_cons_succ, minL, maxL, pickB, getD_int, getD_sl, getD_bool, len_int, len_sl, len_bool, decide_eq_true_eq, decide_eq_false_iff_not, Bool.and_eq_true, Bool.or_eq_true, Bool.and_eq_false_iff, Bool.or_eq_false_iff, Bool.not_eq_true', Bool.not_eq_false', Bool.true_eq_false, Bool.false_eq_true, Int.toNat_natCast, Int.ofNat_lt, Int.ofNat_le, not_true_eq_false, not_false_eq_true, or_false, false_or, and_true, true_and, or_true, true_or, and_false, false_and, InK, Path.imp, List.length_replicate, List.length_set, List.length_append, List.length_cons, List.length_nil] at *); omega)) | (refine app_le rfl ?_; omega)))
end Go.Proofs.Ytdfajcfkdfjoeaa
