/- Joined of: S4 S5 S6 Sm6 Se1 Se2 Sd1 Sd2 S27 S28 Sm5 S7 S8. No condition. -/
import Derived.Test.YtdfajcfkdfjoeaaJ4

/- A word is read. No condition. -/
namespace Go.Proofs.Ytdfajcfkdfjoeaa
open Go Go.Vc Go.Scr
set_option linter.unusedVariables false
set_option linter.unusedSimpArgs false

set_option maxHeartbeats 2000000 in
theorem read_ok {w : List Int} {n : Nat} (h : Word w n) (hn : n ≤ 10) : FnAt Try.prog true 44 [.arr (.int .i64) w] (.tup [.st true (curveT n w), .lit (.int .i64 0)]) [] := by
  have hl := h.len
  have hp := h.pos
  have hl' : @List.length (Ty.int .i64).T w = 2 * n := hl
  have hd : Int.tdiv (@List.length (Ty.int .i64).T w) 2 = n := by rw [hl']; rw [Int.tdiv_eq_ediv_of_nonneg (by omega)]; omega
  have hr : Int.tmod (@List.length (Ty.int .i64).T w) 2 = 0 := by rw [hl']; rw [Int.tmod_eq_emod_of_nonneg (by omega)]; omega
  have hP : ∀ k, @List.length (Ty.sl (.int .i64)).T (PKT w n k) = n := fun k => PKT_len
  refine FnAt.of_body tys_ok Try.func44 (by rfl) rfl Try.ntmps44 (by rw [Try.results44]) (by simp) ?_
  
  repeat' (first
 | refine W.seq ?_
 | refine W.block ?_
 | (refine W.region tys_ok [0, 27] ?_; conv => whnf)
 | (refine W.drawAll tys_ok [0, 27] mixed rfl ?_; conv => whnf)
 | (refine W.ret ?_; conv => whnf)
 | (refine W.skip ?_; conv => whnf)
 | (refine W.exit ?_; conv => whnf)

    | (refine W.cond rfl (fun hb => ?_) (fun hb => ?_) <;> (try simp only [Int.reduceToNat, Int.reduceTDiv, Int.reduceTMod, minL, maxL, pickB, zHB] at hb) <;> (try (first | (cases hb; done) | exact absurd hb (by decide) | (exfalso; omega))))
    | ((with_reducible refine And.intro ?_ ?_); (focus ((repeat' (first | (with_reducible rfl) | (with_reducible refine And.intro ?_ ?_) | omega | rfl | exact Or.inl rfl | exact Or.inr rfl | exact of_decide_eq_true rfl | exact Path.imp_of (of_decide_eq_true rfl) | (focus ((try simp only [Int.reduceToNat, Int.reduceTDiv, Int.reduceTMod, minL, maxL, pickB, zHB, InK, Path.imp, List.length_replicate, List.length_set, List.length_append, List.length_cons, List.length_nil] at *); omega)) | (refine app_le rfl ?_; omega))); done)); (conv => whnf))
    | ((with_reducible refine And.intro (Side.out ?_) ?_); rotate_left; (conv => whnf))
    | (refine retF1 ?_ <;> (conv => whnf) <;> repeat' (first
 | exact trivial
 | (with_reducible rfl)
 | ((with_reducible refine And.intro ?_ ?_) <;> conv => whnf)
 | omega
 | rfl
 | (refine congrArg (SV.arr _) ?_)
 | (refine congrArg (Value.int _) ?_)
 | (refine congrArg Value.bool ?_)))
 | (refine retF2 ?_ <;> (conv => whnf) <;> repeat' (first
 | exact trivial
 | (with_reducible rfl)
 | ((with_reducible refine And.intro ?_ ?_) <;> conv => whnf)
 | omega
 | rfl
 | (refine congrArg (SV.arr _) ?_)
 | (refine congrArg (Value.int _) ?_)
 | (refine congrArg Value.bool ?_)))); all_goals (try unfold Side)
  all_goals try (repeat' (first | (with_reducible rfl) | (with_reducible refine And.intro ?_ ?_) | omega | rfl | exact Or.inl rfl | exact Or.inr rfl | exact of_decide_eq_true rfl | exact Path.imp_of (of_decide_eq_true rfl) | (focus ((try simp only [Int.reduceToNat, Int.reduceTDiv, Int.reduceTMod, minL, maxL, pickB, zHB, InK, Path.imp, List.length_replicate, List.length_set, List.length_append, List.length_cons, List.length_nil] at *); omega)) | (refine app_le rfl ?_; omega)))
  refine W.loop (fun i : Nat => ⟨[(0, .st true (.arr (.int .i64) (w : List Int))), (4, .lit (.int .i64 (n))), (5, .padr 30000 0), (30, .st true (.arr (.int .i64) (w : List Int))), (31, .lit (.int .i64 (@List.length (Ty.int .i64).T w))), (32, .lit (.int .i64 (i)))], [(28000, .mat 22 3 (.int .i64) true (PKT w n i : List (List Int)) none), (30000, .box [.lit (.int .i64 n), .st true (.arr (.int .i64) w), .mown 28000])]⟩) (fun i => i ≤ 2 * n) (fun i => 2 * n - i) (0) ?_ ?_
  · refine ⟨Nat.zero_le _, ?_⟩
    refine subF.ok ?_ <;> (conv => whnf) <;> repeat' (first
 | exact trivial
 | (with_reducible rfl)
 | ((with_reducible refine And.intro ?_ ?_) <;> conv => whnf)
 | omega
 | rfl
 | (refine congrArg (SV.arr _) ?_)
 | (refine congrArg (Value.int _) ?_)
 | (refine congrArg Value.bool ?_))
    · rw [hd]; exact PKT_zero.symm
  · intro i hi
    have hPi := hP i
    have hPi2 : @List.length (List (Ty.int .i64).T) (PKT w n i) = n := hPi
    by_cases hil : i < 2 * n
    · have hg := word_good h i hil
      have hx := h.rg i hil
      obtain ⟨x, hx'⟩ : ∃ x : Nat, w.getD i 0 = (x : Int) := ⟨(w.getD i 0).toNat, by omega⟩
      have hxn : x < n := by omega
      have hgx : (PKT w n i).getD x [] = placesK w x i := PKT_get hxn
      have hg2 : ¬ (placesK w x i).length = 2 := by have := hg.2; rwa [hx'] at this
      have hst := PKT_step hxn hx'
      have hle := placesK_len (w := w) (v := x) (k := i)
      have hno : ¬ (((PKT w n i).getD x []).length : Int) = 2 := by
        rw [hgx]; omega
      have hle' : @List.length (Ty.int .i64).T (@List.getD (List (Ty.int .i64).T) (PKT w n i) x []) ≤ i := by
        show ((PKT w n i).getD x []).length ≤ i
        rw [hgx]; exact hle
      have hs0 : ∀ y : List Int, x < ((PKT w n i).set x y).length := fun y => by rw [List.length_set, PKT_len]; exact hxn
      have hsl : ∀ y : List (Ty.int .i64).T, x < (@List.set (List (Ty.int .i64).T) (PKT w n i) x y).length := fun y => hs0 y
      repeat' (first
 | refine W.seq ?_
 | refine W.block ?_
 | (refine W.resub (x := Code.region 10 _ _) (Γ' := ⟨[(0, .st true (.arr (.int .i64) (w : List Int))), (4, .lit (.int .i64 (n))), (5, .padr 30000 0), (30, .st true (.arr (.int .i64) (w : List Int))), (31, .lit (.int .i64 (@List.length (Ty.int .i64).T w))), (32, .lit (.int .i64 (i))), (6, .lit (.int .i64 (i))), (7, .lit (.int .i64 (x)))], [(28000, .mat 22 3 (.int .i64) true (PKT w n i : List (List Int)) none), (30000, .box [.lit (.int .i64 n), .st true (.arr (.int .i64) w), .mown 28000])]⟩) ?_ (W.region tys_ok [] ?_); rotate_left; (conv => whnf))
 | (refine W.drawPhTo (id := 12) tys_ok [] mixed [0, 1, 2, 4, 0, 0, 32, 64, 128, 0, 768, 1024, 0, 4096, 10240, 32767, 65535] [([0, 1, 2, 4, 5, 6, 7, 9, 12], 6, 32767), ([15], 1, 131071)] ⟨[(0, .st true (.arr (.int .i64) (w : List Int))), (4, .lit (.int .i64 (n))), (5, .padr 30000 0), (30, .st true (.arr (.int .i64) (w : List Int))), (31, .lit (.int .i64 (@List.length (Ty.int .i64).T w))), (32, .lit (.int .i64 (i)))], [(28000, .mat 22 3 (.int .i64) true (PKT w n (i + 1) : List (List Int)) none), (30000, .box [.lit (.int .i64 n), .st true (.arr (.int .i64) w), .mown 28000])]⟩ (by decide +kernel) ?_ ?_ <;> (conv => whnf))
 | (refine W.region tys_ok [] ?_; conv => whnf)
 | (refine W.drawAll tys_ok [] mixed rfl ?_; conv => whnf)
 | (refine W.ret ?_; conv => whnf)
 | (refine W.skip ?_; conv => whnf)
 | (refine W.exit ?_; conv => whnf)

    | (refine Both.mk ?_ ?_ <;> (conv => whnf))
    | (refine subF.leaf ?_ <;> (conv => whnf) <;> repeat' (first
 | exact trivial
 | (with_reducible rfl)
 | ((with_reducible refine And.intro ?_ ?_) <;> conv => whnf)
 | omega
 | rfl
 | (refine congrArg (SV.arr _) ?_)
 | (refine congrArg (Value.int _) ?_)
 | (refine congrArg Value.bool ?_)))
 | (refine subF.side ?_ <;> (conv => whnf) <;> repeat' (first
 | exact trivial
 | (with_reducible rfl)
 | ((with_reducible refine And.intro ?_ ?_) <;> conv => whnf)
 | omega
 | rfl
 | (refine congrArg (SV.arr _) ?_)
 | (refine congrArg (Value.int _) ?_)
 | (refine congrArg Value.bool ?_)))
 | (refine W.cond rfl (fun hb => ?_) (fun hb => ?_) <;> (try simp only [Int.reduceToNat, Int.reduceTDiv, Int.reduceTMod, minL, maxL, pickB, zHB] at hb) <;> (try (first | (cases hb; done) | exact absurd hb (by decide) | (exfalso; omega))))
 | ((with_reducible refine And.intro ?_ ?_); (focus ((repeat' (first | (with_reducible rfl) | (with_reducible refine And.intro ?_ ?_) | omega | rfl | exact Or.inl rfl | exact Or.inr rfl | exact of_decide_eq_true rfl | exact Path.imp_of (of_decide_eq_true rfl) | (focus ((try simp only [Int.reduceToNat, Int.reduceTDiv, Int.reduceTMod, minL, maxL, pickB, zHB, InK, Path.imp, List.length_replicate, List.length_set, List.length_append, List.length_cons, List.length_nil] at *); omega)) | (refine app_le rfl ?_; omega))); done)); (conv => whnf))
 | ((with_reducible refine And.intro (Side.out ?_) ?_); rotate_left; (conv => whnf))
 | (refine retF1 ?_ <;> (conv => whnf) <;> repeat' (first
 | exact trivial
 | (with_reducible rfl)
 | ((with_reducible refine And.intro ?_ ?_) <;> conv => whnf)
 | omega
 | rfl
 | (refine congrArg (SV.arr _) ?_)
 | (refine congrArg (Value.int _) ?_)
 | (refine congrArg Value.bool ?_)))
 | (refine retF2 ?_ <;> (conv => whnf) <;> repeat' (first
 | exact trivial
 | (with_reducible rfl)
 | ((with_reducible refine And.intro ?_ ?_) <;> conv => whnf)
 | omega
 | rfl
 | (refine congrArg (SV.arr _) ?_)
 | (refine congrArg (Value.int _) ?_)
 | (refine congrArg Value.bool ?_)))); all_goals (try unfold Side)
      all_goals try (repeat' (first | (with_reducible rfl) | (with_reducible refine And.intro ?_ ?_) | omega | rfl | exact Or.inl rfl | exact Or.inr rfl | exact of_decide_eq_true rfl | exact Path.imp_of (of_decide_eq_true rfl) | (focus ((try simp only [Int.reduceToNat, Int.reduceTDiv, Int.reduceTMod, minL, maxL, pickB, zHB, InK, Path.imp, List.length_replicate, List.length_set, List.length_append, List.length_cons, List.length_nil] at *); omega)) | (refine app_le rfl ?_; omega)))
      all_goals try (exfalso; rcases hb with (h1 | h1) | h1 <;> first | omega | exact hno h1)
      all_goals try exact hst
      all_goals try exact hsl _
      all_goals try exact Path.imp_of ⟨Int.natCast_nonneg _, hsl _⟩
      all_goals try (exact app_le rfl (Nat.le_trans (Nat.succ_le_succ hle') (by omega)))
      refine ⟨i + 1, ⟨by omega, by omega⟩, ?_⟩
      refine subF.ok ?_ <;> (conv => whnf) <;> repeat' (first
 | exact trivial
 | (with_reducible rfl)
 | ((with_reducible refine And.intro ?_ ?_) <;> conv => whnf)
 | omega
 | rfl
 | (refine congrArg (SV.arr _) ?_)
 | (refine congrArg (Value.int _) ?_)
 | (refine congrArg Value.bool ?_))
    · have hie : 2 * n = i := by omega
      subst hie
      have hPa : PKT w n (2 * n) = PT w n := by rw [← hl]; rfl
      rw [hPa]
      repeat' (first
 | refine W.seq ?_
 | refine W.block ?_
 | (refine W.region tys_ok [] ?_; conv => whnf)
 | (refine W.drawAll tys_ok [] mixed rfl ?_; conv => whnf)
 | (refine W.ret ?_; conv => whnf)
 | (refine W.skip ?_; conv => whnf)
 | (refine W.exit ?_; conv => whnf)

    | (refine W.cond rfl (fun hb => ?_) (fun hb => ?_) <;> (try simp only [Int.reduceToNat, Int.reduceTDiv, Int.reduceTMod, minL, maxL, pickB, zHB] at hb) <;> (try (first | (cases hb; done) | exact absurd hb (by decide) | (exfalso; omega))))
    | ((with_reducible refine And.intro ?_ ?_); (focus ((repeat' (first | (with_reducible rfl) | (with_reducible refine And.intro ?_ ?_) | omega | rfl | exact Or.inl rfl | exact Or.inr rfl | exact of_decide_eq_true rfl | exact Path.imp_of (of_decide_eq_true rfl) | (focus ((try simp only [Int.reduceToNat, Int.reduceTDiv, Int.reduceTMod, minL, maxL, pickB, zHB, InK, Path.imp, List.length_replicate, List.length_set, List.length_append, List.length_cons, List.length_nil] at *); omega)) | (refine app_le rfl ?_; omega))); done)); (conv => whnf))
    | ((with_reducible refine And.intro (Side.out ?_) ?_); rotate_left; (conv => whnf))
    | (refine retF1 ?_ <;> (conv => whnf) <;> repeat' (first
 | exact trivial
 | (with_reducible rfl)
 | ((with_reducible refine And.intro ?_ ?_) <;> conv => whnf)
 | omega
 | rfl
 | (refine congrArg (SV.arr _) ?_)
 | (refine congrArg (Value.int _) ?_)
 | (refine congrArg Value.bool ?_)))
 | (refine retF2 ?_ <;> (conv => whnf) <;> repeat' (first
 | exact trivial
 | (with_reducible rfl)
 | ((with_reducible refine And.intro ?_ ?_) <;> conv => whnf)
 | omega
 | rfl
 | (refine congrArg (SV.arr _) ?_)
 | (refine congrArg (Value.int _) ?_)
 | (refine congrArg Value.bool ?_)))); all_goals (try unfold Side)
      all_goals try (repeat' (first | (with_reducible rfl) | (with_reducible refine And.intro ?_ ?_) | omega | rfl | exact Or.inl rfl | exact Or.inr rfl | exact of_decide_eq_true rfl | exact Path.imp_of (of_decide_eq_true rfl) | (focus ((try simp only [Int.reduceToNat, Int.reduceTDiv, Int.reduceTMod, minL, maxL, pickB, zHB, InK, Path.imp, List.length_replicate, List.length_set, List.length_append, List.length_cons, List.length_nil] at *); omega)) | (refine app_le rfl ?_; omega)))
end Go.Proofs.Ytdfajcfkdfjoeaa
/- A list that is no word is read. No condition. -/
namespace Go.Proofs.Ytdfajcfkdfjoeaa
open Go Go.Vc Go.Scr
set_option linter.unusedVariables false
set_option linter.unusedSimpArgs false

set_option maxHeartbeats 2000000 in
theorem read_bad {w : List Int} (hw : ¬ checkT w = 0) (hl : w.length ≤ 1000) : FnAt Try.prog true 44 [.arr (.int .i64) w] (.tup [.lit (.pointer none), .lit (.int .i64 (checkT w))]) [] := by
  obtain ⟨n, hn⟩ : ∃ n : Nat, n = w.length / 2 := ⟨_, rfl⟩
  have hd : Int.tdiv (@List.length (Ty.int .i64).T w) 2 = n := by
    show Int.tdiv (w.length : Int) 2 = n
    rw [Int.tdiv_eq_ediv_of_nonneg (by omega)]; omega
  have hr : Int.tmod (@List.length (Ty.int .i64).T w) 2 = (w.length % 2 : Nat) := by
    show Int.tmod (w.length : Int) 2 = _
    rw [Int.tmod_eq_emod_of_nonneg (by omega)]; omega
  have c3 : 20 < w.length → checkT w = 3 := fun h => by rw [checkT, if_pos h]
  have c2 : ¬ 20 < w.length → checkT w = 2 := fun h1 => by rcases checkT_cases w with h | h | h; exact absurd h hw; exact h; rw [checkT, if_neg h1] at h; split at h <;> cases h
  have hP : ∀ k, @List.length (Ty.sl (.int .i64)).T (PKT w n k) = n := fun k => PKT_len
  refine FnAt.of_body tys_ok Try.func44 (by rfl) rfl Try.ntmps44 (by rw [Try.results44]) (by simp) ?_
  
  repeat' (first
 | refine W.seq ?_
 | refine W.block ?_
 | (refine W.region tys_ok [0, 27] ?_; conv => whnf)
 | (refine W.drawAll tys_ok [0, 27] mixed rfl ?_; conv => whnf)
 | (refine W.ret ?_; conv => whnf)
 | (refine W.skip ?_; conv => whnf)
 | (refine W.exit ?_; conv => whnf)

    | (refine W.cond rfl (fun hb => ?_) (fun hb => ?_) <;> (try simp only [Int.reduceToNat, Int.reduceTDiv, Int.reduceTMod, minL, maxL, pickB, zHB] at hb) <;> (try (first | (cases hb; done) | exact absurd hb (by decide) | (exfalso; omega))))
    | ((with_reducible refine And.intro ?_ ?_); (focus ((repeat' (first | (with_reducible rfl) | (with_reducible refine And.intro ?_ ?_) | omega | rfl | exact Or.inl rfl | exact Or.inr rfl | exact of_decide_eq_true rfl | exact Path.imp_of (of_decide_eq_true rfl) | (focus ((try simp only [Int.reduceToNat, Int.reduceTDiv, Int.reduceTMod, minL, maxL, pickB, zHB, InK, Path.imp, List.length_replicate, List.length_set, List.length_append, List.length_cons, List.length_nil] at *); omega)) | (refine app_le rfl ?_; omega))); done)); (conv => whnf))
    | ((with_reducible refine And.intro (Side.out ?_) ?_); rotate_left; (conv => whnf))
    | (refine retF1 ?_ <;> (conv => whnf) <;> repeat' (first
 | exact trivial
 | (with_reducible rfl)
 | ((with_reducible refine And.intro ?_ ?_) <;> conv => whnf)
 | omega
 | rfl
 | (refine congrArg (SV.arr _) ?_)
 | (refine congrArg (Value.int _) ?_)
 | (refine congrArg Value.bool ?_)))
 | (refine retF2 ?_ <;> (conv => whnf) <;> repeat' (first
 | exact trivial
 | (with_reducible rfl)
 | ((with_reducible refine And.intro ?_ ?_) <;> conv => whnf)
 | omega
 | rfl
 | (refine congrArg (SV.arr _) ?_)
 | (refine congrArg (Value.int _) ?_)
 | (refine congrArg Value.bool ?_)))); all_goals (try unfold Side)
  all_goals try (repeat' (first | (with_reducible rfl) | (with_reducible refine And.intro ?_ ?_) | omega | rfl | exact Or.inl rfl | exact Or.inr rfl | exact of_decide_eq_true rfl | exact Path.imp_of (of_decide_eq_true rfl) | (focus ((try simp only [Int.reduceToNat, Int.reduceTDiv, Int.reduceTMod, minL, maxL, pickB, zHB, InK, Path.imp, List.length_replicate, List.length_set, List.length_append, List.length_cons, List.length_nil] at *); omega)) | (refine app_le rfl ?_; omega)))
  have hev : w.length = 2 * n ∧ 1 ≤ n := by
    obtain ⟨h1, h2⟩ := hb
    have hd' : Int.tdiv (w.length : Int) 2 = n := hd
    have hr' : Int.tmod (w.length : Int) 2 = (w.length % 2 : Nat) := hr
    rw [hd'] at h1; rw [hr'] at h2; omega
  have h20 : w.length ≤ 20 := by omega
  refine W.loop (fun i : Nat => ⟨[(0, .st true (.arr (.int .i64) (w : List Int))), (4, .lit (.int .i64 (n))), (5, .padr 30000 0), (30, .st true (.arr (.int .i64) (w : List Int))), (31, .lit (.int .i64 (@List.length (Ty.int .i64).T w))), (32, .lit (.int .i64 (i)))], [(28000, .mat 22 3 (.int .i64) true (PKT w n i : List (List Int)) none), (30000, .box [.lit (.int .i64 n), .st true (.arr (.int .i64) w), .mown 28000])]⟩) (fun i => i ≤ 2 * n ∧ ∀ k, k < i → goodAt w n k) (fun i => 2 * n - i) (0) ?_ ?_
  · refine ⟨⟨Nat.zero_le _, by omega⟩, ?_⟩
    refine subF.ok ?_ <;> (conv => whnf) <;> repeat' (first
 | exact trivial
 | (with_reducible rfl)
 | ((with_reducible refine And.intro ?_ ?_) <;> conv => whnf)
 | omega
 | rfl
 | (refine congrArg (SV.arr _) ?_)
 | (refine congrArg (Value.int _) ?_)
 | (refine congrArg Value.bool ?_))
    · rw [hd]; exact PKT_zero.symm
  · rintro i ⟨hi, hgood⟩
    have hPi := hP i
    have hPi2 : @List.length (List (Ty.int .i64).T) (PKT w n i) = n := hPi
    by_cases hil : i < 2 * n
    · by_cases hx : 0 ≤ w.getD i 0 ∧ w.getD i 0 < n
      · obtain ⟨x, hx'⟩ : ∃ x : Nat, w.getD i 0 = (x : Int) := ⟨(w.getD i 0).toNat, by omega⟩
        have hxn : x < n := by omega
        have hgx : (PKT w n i).getD x [] = placesK w x i := PKT_get hxn
        have hst := PKT_step hxn hx'
        have hle := placesK_len (w := w) (v := x) (k := i)
        have hle' : @List.length (Ty.int .i64).T (@List.getD (List (Ty.int .i64).T) (PKT w n i) x []) ≤ i := by
          show ((PKT w n i).getD x []).length ≤ i
          rw [hgx]; exact hle
        have hs0 : ∀ y : List Int, x < ((PKT w n i).set x y).length := fun y => by rw [List.length_set, PKT_len]; exact hxn
        have hsl : ∀ y : List (Ty.int .i64).T, x < (@List.set (List (Ty.int .i64).T) (PKT w n i) x y).length := fun y => hs0 y
        repeat' (first
 | refine W.seq ?_
 | refine W.block ?_
 | (refine W.resub (x := Code.region 10 _ _) (Γ' := ⟨[(0, .st true (.arr (.int .i64) (w : List Int))), (4, .lit (.int .i64 (n))), (5, .padr 30000 0), (30, .st true (.arr (.int .i64) (w : List Int))), (31, .lit (.int .i64 (@List.length (Ty.int .i64).T w))), (32, .lit (.int .i64 (i))), (6, .lit (.int .i64 (i))), (7, .lit (.int .i64 (x)))], [(28000, .mat 22 3 (.int .i64) true (PKT w n i : List (List Int)) none), (30000, .box [.lit (.int .i64 n), .st true (.arr (.int .i64) w), .mown 28000])]⟩) ?_ (W.region tys_ok [] ?_); rotate_left; (conv => whnf))
 | (refine W.drawPhTo (id := 12) tys_ok [] mixed [0, 1, 2, 4, 0, 0, 32, 64, 128, 0, 768, 1024, 0, 4096, 10240, 32767, 65535] [([0, 1, 2, 4, 5, 6, 7, 9, 12], 6, 32767), ([15], 1, 131071)] ⟨[(0, .st true (.arr (.int .i64) (w : List Int))), (4, .lit (.int .i64 (n))), (5, .padr 30000 0), (30, .st true (.arr (.int .i64) (w : List Int))), (31, .lit (.int .i64 (@List.length (Ty.int .i64).T w))), (32, .lit (.int .i64 (i)))], [(28000, .mat 22 3 (.int .i64) true (PKT w n (i + 1) : List (List Int)) none), (30000, .box [.lit (.int .i64 n), .st true (.arr (.int .i64) w), .mown 28000])]⟩ (by decide +kernel) ?_ ?_ <;> (conv => whnf))
 | (refine W.region tys_ok [] ?_; conv => whnf)
 | (refine W.drawAll tys_ok [] mixed rfl ?_; conv => whnf)
 | (refine W.ret ?_; conv => whnf)
 | (refine W.skip ?_; conv => whnf)
 | (refine W.exit ?_; conv => whnf)

    | (refine Both.mk ?_ ?_ <;> (conv => whnf))
    | (refine subF.leaf ?_ <;> (conv => whnf) <;> repeat' (first
 | exact trivial
 | (with_reducible rfl)
 | ((with_reducible refine And.intro ?_ ?_) <;> conv => whnf)
 | omega
 | rfl
 | (refine congrArg (SV.arr _) ?_)
 | (refine congrArg (Value.int _) ?_)
 | (refine congrArg Value.bool ?_)))
 | (refine subF.side ?_ <;> (conv => whnf) <;> repeat' (first
 | exact trivial
 | (with_reducible rfl)
 | ((with_reducible refine And.intro ?_ ?_) <;> conv => whnf)
 | omega
 | rfl
 | (refine congrArg (SV.arr _) ?_)
 | (refine congrArg (Value.int _) ?_)
 | (refine congrArg Value.bool ?_)))
 | (refine W.cond rfl (fun hb => ?_) (fun hb => ?_) <;> (try simp only [Int.reduceToNat, Int.reduceTDiv, Int.reduceTMod, minL, maxL, pickB, zHB] at hb) <;> (try (first | (cases hb; done) | exact absurd hb (by decide) | (exfalso; omega))))
 | ((with_reducible refine And.intro ?_ ?_); (focus ((repeat' (first | (with_reducible rfl) | (with_reducible refine And.intro ?_ ?_) | omega | rfl | exact Or.inl rfl | exact Or.inr rfl | exact of_decide_eq_true rfl | exact Path.imp_of (of_decide_eq_true rfl) | (focus ((try simp only [Int.reduceToNat, Int.reduceTDiv, Int.reduceTMod, minL, maxL, pickB, zHB, InK, Path.imp, List.length_replicate, List.length_set, List.length_append, List.length_cons, List.length_nil] at *); omega)) | (refine app_le rfl ?_; omega))); done)); (conv => whnf))
 | ((with_reducible refine And.intro (Side.out ?_) ?_); rotate_left; (conv => whnf))
 | (refine retF1 ?_ <;> (conv => whnf) <;> repeat' (first
 | exact trivial
 | (with_reducible rfl)
 | ((with_reducible refine And.intro ?_ ?_) <;> conv => whnf)
 | omega
 | rfl
 | (refine congrArg (SV.arr _) ?_)
 | (refine congrArg (Value.int _) ?_)
 | (refine congrArg Value.bool ?_)))
 | (refine retF2 ?_ <;> (conv => whnf) <;> repeat' (first
 | exact trivial
 | (with_reducible rfl)
 | ((with_reducible refine And.intro ?_ ?_) <;> conv => whnf)
 | omega
 | rfl
 | (refine congrArg (SV.arr _) ?_)
 | (refine congrArg (Value.int _) ?_)
 | (refine congrArg Value.bool ?_)))); all_goals (try unfold Side)
        all_goals try (repeat' (first | (with_reducible rfl) | (with_reducible refine And.intro ?_ ?_) | omega | rfl | exact Or.inl rfl | exact Or.inr rfl | exact of_decide_eq_true rfl | exact Path.imp_of (of_decide_eq_true rfl) | (focus ((try simp only [Int.reduceToNat, Int.reduceTDiv, Int.reduceTMod, minL, maxL, pickB, zHB, InK, Path.imp, List.length_replicate, List.length_set, List.length_append, List.length_cons, List.length_nil] at *); omega)) | (refine app_le rfl ?_; omega)))
        all_goals try exact hst
        all_goals try exact hsl _
        all_goals try exact Path.imp_of ⟨Int.natCast_nonneg _, hsl _⟩
        all_goals try (exact app_le rfl (Nat.le_trans (Nat.succ_le_succ hle') (by omega)))
        refine ⟨i + 1, ⟨⟨by omega, fun k hk => ?_⟩, by omega⟩, ?_⟩
        · by_cases e : k = i
          · subst e
            refine ⟨by simpa [inR] using hx, ?_⟩
            rw [hx', ← hgx]
            intro e2
            exact hb.2 (by show (((PKT w n k).getD x []).length : Int) = 2; omega)
          · exact hgood k (by omega)
        · refine subF.ok ?_ <;> (conv => whnf) <;> repeat' (first
 | exact trivial
 | (with_reducible rfl)
 | ((with_reducible refine And.intro ?_ ?_) <;> conv => whnf)
 | omega
 | rfl
 | (refine congrArg (SV.arr _) ?_)
 | (refine congrArg (Value.int _) ?_)
 | (refine congrArg Value.bool ?_))
      · repeat' (first
 | refine W.seq ?_
 | refine W.block ?_
 | (refine W.region tys_ok [] ?_; conv => whnf)
 | (refine W.drawAll tys_ok [] mixed rfl ?_; conv => whnf)
 | (refine W.ret ?_; conv => whnf)
 | (refine W.skip ?_; conv => whnf)
 | (refine W.exit ?_; conv => whnf)

    | (refine W.cond rfl (fun hb => ?_) (fun hb => ?_) <;> (try simp only [Int.reduceToNat, Int.reduceTDiv, Int.reduceTMod, minL, maxL, pickB, zHB] at hb) <;> (try (first | (cases hb; done) | exact absurd hb (by decide) | (exfalso; omega))))
    | ((with_reducible refine And.intro ?_ ?_); (focus ((repeat' (first | (with_reducible rfl) | (with_reducible refine And.intro ?_ ?_) | omega | rfl | exact Or.inl rfl | exact Or.inr rfl | exact of_decide_eq_true rfl | exact Path.imp_of (of_decide_eq_true rfl) | (focus ((try simp only [Int.reduceToNat, Int.reduceTDiv, Int.reduceTMod, minL, maxL, pickB, zHB, InK, Path.imp, List.length_replicate, List.length_set, List.length_append, List.length_cons, List.length_nil] at *); omega)) | (refine app_le rfl ?_; omega))); done)); (conv => whnf))
    | ((with_reducible refine And.intro (Side.out ?_) ?_); rotate_left; (conv => whnf))
    | (refine retF1 ?_ <;> (conv => whnf) <;> repeat' (first
 | exact trivial
 | (with_reducible rfl)
 | ((with_reducible refine And.intro ?_ ?_) <;> conv => whnf)
 | omega
 | rfl
 | (refine congrArg (SV.arr _) ?_)
 | (refine congrArg (Value.int _) ?_)
 | (refine congrArg Value.bool ?_)))
 | (refine retF2 ?_ <;> (conv => whnf) <;> repeat' (first
 | exact trivial
 | (with_reducible rfl)
 | ((with_reducible refine And.intro ?_ ?_) <;> conv => whnf)
 | omega
 | rfl
 | (refine congrArg (SV.arr _) ?_)
 | (refine congrArg (Value.int _) ?_)
 | (refine congrArg Value.bool ?_)))); all_goals (try unfold Side)
        all_goals try (repeat' (first | (with_reducible rfl) | (with_reducible refine And.intro ?_ ?_) | omega | rfl | exact Or.inl rfl | exact Or.inr rfl | exact of_decide_eq_true rfl | exact Path.imp_of (of_decide_eq_true rfl) | (focus ((try simp only [Int.reduceToNat, Int.reduceTDiv, Int.reduceTMod, minL, maxL, pickB, zHB, InK, Path.imp, List.length_replicate, List.length_set, List.length_append, List.length_cons, List.length_nil] at *); omega)) | (refine app_le rfl ?_; omega)))
    · have hie : 2 * n = i := by omega
      subst hie
      refine absurd ?_ hw
      exact checkT_of (good_word hev.1 hev.2 hgood) (by omega)
end Go.Proofs.Ytdfajcfkdfjoeaa
/- Signs; a word with signs is read. No condition. -/
namespace Go.Proofs.Ytdfajcfkdfjoeaa
open Go Go.Vc Go.Scr
set_option linter.unusedVariables false
set_option linter.unusedSimpArgs false

/-- Each is 1 or -1. -/
def sgnB (s : List Int) : Bool := s.all fun x => decide (x = 1) || decide (x = -1)
def signsB (s : List Int) (n : Nat) : Bool := sgnB s && decide (s.length = n)
theorem sgnB_take {s : List Int} {i : Nat} (h : i < s.length) : sgnB (s.take (i + 1)) = (sgnB (s.take i) && (decide (s.getD i 0 = 1) || decide (s.getD i 0 = -1))) := by
  rw [take_getD h, sgnB, List.all_append]; simp [sgnB]
theorem sgnB_not {s : List Int} {i : Nat} (h : i < s.length) (h1 : ¬ s.getD i 0 = 1) (h2 : ¬ s.getD i 0 = -1) : sgnB s = false := by
  have hm : s.getD i 0 ∈ s := by rw [List.getD_eq_getElem?_getD, List.getElem?_eq_getElem h]; exact List.getElem_mem h
  refine List.all_eq_false.2 ⟨_, hm, ?_⟩
  simp only [Bool.or_eq_true, decide_eq_true_eq]
  rintro (h | h)
  · exact h1 h
  · exact h2 h
theorem signs_ref (s : List Int) (n : Nat) (hl : s.length ≤ 1000) : FnAt Try.prog false 50 [.arr (.int .i64) s, .lit (.int .i64 n)] (.lit (.bool (signsB s n))) [] := by
  refine FnAt.of_body tys_ok Try.func50 (by rfl) rfl Try.ntmps50 (by rw [Try.results50]) (by simp) ?_
  
  repeat' (first
 | refine W.seq ?_
 | refine W.block ?_
 | (refine W.region tys_ok [] ?_; conv => whnf)
 | (refine W.drawAll tys_ok [] mixed rfl ?_; conv => whnf)
 | (refine W.ret ?_; conv => whnf)
 | (refine W.skip ?_; conv => whnf)
 | (refine W.exit ?_; conv => whnf)

    | (refine W.cond rfl (fun hb => ?_) (fun hb => ?_) <;> (try simp only [Int.reduceToNat, Int.reduceTDiv, Int.reduceTMod, minL, maxL, pickB, zHB] at hb) <;> (try (first | (cases hb; done) | exact absurd hb (by decide) | (exfalso; omega))))
    | ((with_reducible refine And.intro ?_ ?_); (focus ((repeat' (first | (with_reducible rfl) | (with_reducible refine And.intro ?_ ?_) | omega | rfl | exact Or.inl rfl | exact Or.inr rfl | exact of_decide_eq_true rfl | exact Path.imp_of (of_decide_eq_true rfl) | (focus ((try simp only [Int.reduceToNat, Int.reduceTDiv, Int.reduceTMod, minL, maxL, pickB, zHB, InK, Path.imp, List.length_replicate, List.length_set, List.length_append, List.length_cons, List.length_nil] at *); omega)) | (refine app_le rfl ?_; omega))); done)); (conv => whnf))
    | ((with_reducible refine And.intro (Side.out ?_) ?_); rotate_left; (conv => whnf))
    | (refine retF1 ?_ <;> (conv => whnf) <;> repeat' (first
 | exact trivial
 | (with_reducible rfl)
 | ((with_reducible refine And.intro ?_ ?_) <;> conv => whnf)
 | omega
 | rfl
 | (refine congrArg (SV.arr _) ?_)
 | (refine congrArg (Value.int _) ?_)
 | (refine congrArg Value.bool ?_)))
 | (refine retF2 ?_ <;> (conv => whnf) <;> repeat' (first
 | exact trivial
 | (with_reducible rfl)
 | ((with_reducible refine And.intro ?_ ?_) <;> conv => whnf)
 | omega
 | rfl
 | (refine congrArg (SV.arr _) ?_)
 | (refine congrArg (Value.int _) ?_)
 | (refine congrArg Value.bool ?_)))); all_goals (try unfold Side)
  refine W.loop (fun i : Nat => ⟨[(0, .st false (.arr (.int .i64) (s : List Int))), (1, .lit (.int .i64 (n))), (5, .lit (.int .i64 (i)))], []⟩) (fun i => i ≤ s.length ∧ sgnB (s.take i) = true) (fun i => s.length - i) (0) ?_ ?_
  · refine ⟨⟨Nat.zero_le _, rfl⟩, ?_⟩
    refine subF.ok ?_ <;> (conv => whnf) <;> repeat' (first
 | exact trivial
 | (with_reducible rfl)
 | ((with_reducible refine And.intro ?_ ?_) <;> conv => whnf)
 | omega
 | rfl
 | (refine congrArg (SV.arr _) ?_)
 | (refine congrArg (Value.int _) ?_)
 | (refine congrArg Value.bool ?_))
  · rintro i ⟨hi, hv⟩
    by_cases hil : i < s.length
    · repeat' (first
 | refine W.seq ?_
 | refine W.block ?_
 | (refine W.region tys_ok [] ?_; conv => whnf)
 | (refine W.drawAll tys_ok [] mixed rfl ?_; conv => whnf)
 | (refine W.ret ?_; conv => whnf)
 | (refine W.skip ?_; conv => whnf)
 | (refine W.exit ?_; conv => whnf)

    | (refine W.cond rfl (fun hb => ?_) (fun hb => ?_) <;> (try simp only [Int.reduceToNat, Int.reduceTDiv, Int.reduceTMod, minL, maxL, pickB, zHB] at hb) <;> (try (first | (cases hb; done) | exact absurd hb (by decide) | (exfalso; omega))))
    | ((with_reducible refine And.intro ?_ ?_); (focus ((repeat' (first | (with_reducible rfl) | (with_reducible refine And.intro ?_ ?_) | omega | rfl | exact Or.inl rfl | exact Or.inr rfl | exact of_decide_eq_true rfl | exact Path.imp_of (of_decide_eq_true rfl) | (focus ((try simp only [Int.reduceToNat, Int.reduceTDiv, Int.reduceTMod, minL, maxL, pickB, zHB, InK, Path.imp, List.length_replicate, List.length_set, List.length_append, List.length_cons, List.length_nil] at *); omega)) | (refine app_le rfl ?_; omega))); done)); (conv => whnf))
    | ((with_reducible refine And.intro (Side.out ?_) ?_); rotate_left; (conv => whnf))
    | (refine retF1 ?_ <;> (conv => whnf) <;> repeat' (first
 | exact trivial
 | (with_reducible rfl)
 | ((with_reducible refine And.intro ?_ ?_) <;> conv => whnf)
 | omega
 | rfl
 | (refine congrArg (SV.arr _) ?_)
 | (refine congrArg (Value.int _) ?_)
 | (refine congrArg Value.bool ?_)))
 | (refine retF2 ?_ <;> (conv => whnf) <;> repeat' (first
 | exact trivial
 | (with_reducible rfl)
 | ((with_reducible refine And.intro ?_ ?_) <;> conv => whnf)
 | omega
 | rfl
 | (refine congrArg (SV.arr _) ?_)
 | (refine congrArg (Value.int _) ?_)
 | (refine congrArg Value.bool ?_)))); all_goals (try unfold Side)
      all_goals try (repeat' (first | (with_reducible rfl) | (with_reducible refine And.intro ?_ ?_) | omega | rfl | exact Or.inl rfl | exact Or.inr rfl | exact of_decide_eq_true rfl | exact Path.imp_of (of_decide_eq_true rfl) | (focus ((try simp only [Int.reduceToNat, Int.reduceTDiv, Int.reduceTMod, minL, maxL, pickB, zHB, InK, Path.imp, List.length_replicate, List.length_set, List.length_append, List.length_cons, List.length_nil] at *); omega)) | (refine app_le rfl ?_; omega)))
      · rw [signsB, sgnB_not hil hb.1 hb.2]; rfl
      · refine ⟨i + 1, ⟨⟨by omega, ?_⟩, by omega⟩, ?_⟩
        · rw [sgnB_take hil, hv]; rcases hb with hb | hb <;> rw [hb] <;> rfl
        · refine subF.ok ?_ <;> (conv => whnf) <;> repeat' (first
 | exact trivial
 | (with_reducible rfl)
 | ((with_reducible refine And.intro ?_ ?_) <;> conv => whnf)
 | omega
 | rfl
 | (refine congrArg (SV.arr _) ?_)
 | (refine congrArg (Value.int _) ?_)
 | (refine congrArg Value.bool ?_))
    · have hie : s.length = i := by omega
      subst hie
      rw [List.take_length] at hv
      repeat' (first
 | refine W.seq ?_
 | refine W.block ?_
 | (refine W.region tys_ok [] ?_; conv => whnf)
 | (refine W.drawAll tys_ok [] mixed rfl ?_; conv => whnf)
 | (refine W.ret ?_; conv => whnf)
 | (refine W.skip ?_; conv => whnf)
 | (refine W.exit ?_; conv => whnf)

    | (refine W.cond rfl (fun hb => ?_) (fun hb => ?_) <;> (try simp only [Int.reduceToNat, Int.reduceTDiv, Int.reduceTMod, minL, maxL, pickB, zHB] at hb) <;> (try (first | (cases hb; done) | exact absurd hb (by decide) | (exfalso; omega))))
    | ((with_reducible refine And.intro ?_ ?_); (focus ((repeat' (first | (with_reducible rfl) | (with_reducible refine And.intro ?_ ?_) | omega | rfl | exact Or.inl rfl | exact Or.inr rfl | exact of_decide_eq_true rfl | exact Path.imp_of (of_decide_eq_true rfl) | (focus ((try simp only [Int.reduceToNat, Int.reduceTDiv, Int.reduceTMod, minL, maxL, pickB, zHB, InK, Path.imp, List.length_replicate, List.length_set, List.length_append, List.length_cons, List.length_nil] at *); omega)) | (refine app_le rfl ?_; omega))); done)); (conv => whnf))
    | ((with_reducible refine And.intro (Side.out ?_) ?_); rotate_left; (conv => whnf))
    | (refine retF1 ?_ <;> (conv => whnf) <;> repeat' (first
 | exact trivial
 | (with_reducible rfl)
 | ((with_reducible refine And.intro ?_ ?_) <;> conv => whnf)
 | omega
 | rfl
 | (refine congrArg (SV.arr _) ?_)
 | (refine congrArg (Value.int _) ?_)
 | (refine congrArg Value.bool ?_)))
 | (refine retF2 ?_ <;> (conv => whnf) <;> repeat' (first
 | exact trivial
 | (with_reducible rfl)
 | ((with_reducible refine And.intro ?_ ?_) <;> conv => whnf)
 | omega
 | rfl
 | (refine congrArg (SV.arr _) ?_)
 | (refine congrArg (Value.int _) ?_)
 | (refine congrArg Value.bool ?_)))); all_goals (try unfold Side)
      all_goals try (repeat' (first | (with_reducible rfl) | (with_reducible refine And.intro ?_ ?_) | omega | rfl | exact Or.inl rfl | exact Or.inr rfl | exact of_decide_eq_true rfl | exact Path.imp_of (of_decide_eq_true rfl) | (focus ((try simp only [Int.reduceToNat, Int.reduceTDiv, Int.reduceTMod, minL, maxL, pickB, zHB, InK, Path.imp, List.length_replicate, List.length_set, List.length_append, List.length_cons, List.length_nil] at *); omega)) | (refine app_le rfl ?_; omega)))
      rw [signsB, hv, Bool.true_and]
      show decide ((s.length : Int) = n) = _
      rw [decide_eq_decide]; omega
theorem sgn_at (x : Int) : FnAt Try.prog false 65 [.lit (.int .i64 x)] (.lit (.bool (!(decide (x = 1) || decide (x = -1))))) [] := by
  refine FnAt.of_body tys_ok Try.func65 (by rfl) rfl Try.ntmps65 (by rw [Try.results65]) (by simp) ?_
  
  repeat' (first
 | refine W.seq ?_
 | refine W.block ?_
 | (refine W.region tys_ok [] ?_; conv => whnf)
 | (refine W.drawAll tys_ok [] mixed rfl ?_; conv => whnf)
 | (refine W.ret ?_; conv => whnf)
 | (refine W.skip ?_; conv => whnf)
 | (refine W.exit ?_; conv => whnf)

    | (refine W.cond rfl (fun hb => ?_) (fun hb => ?_) <;> (try simp only [Int.reduceToNat, Int.reduceTDiv, Int.reduceTMod, minL, maxL, pickB, zHB] at hb) <;> (try (first | (cases hb; done) | exact absurd hb (by decide) | (exfalso; omega))))
    | ((with_reducible refine And.intro ?_ ?_); (focus ((repeat' (first | (with_reducible rfl) | (with_reducible refine And.intro ?_ ?_) | omega | rfl | exact Or.inl rfl | exact Or.inr rfl | exact of_decide_eq_true rfl | exact Path.imp_of (of_decide_eq_true rfl) | (focus ((try simp only [Int.reduceToNat, Int.reduceTDiv, Int.reduceTMod, minL, maxL, pickB, zHB, InK, Path.imp, List.length_replicate, List.length_set, List.length_append, List.length_cons, List.length_nil] at *); omega)) | (refine app_le rfl ?_; omega))); done)); (conv => whnf))
    | ((with_reducible refine And.intro (Side.out ?_) ?_); rotate_left; (conv => whnf))
    | (refine retF1 ?_ <;> (conv => whnf) <;> repeat' (first
 | exact trivial
 | (with_reducible rfl)
 | ((with_reducible refine And.intro ?_ ?_) <;> conv => whnf)
 | omega
 | rfl
 | (refine congrArg (SV.arr _) ?_)
 | (refine congrArg (Value.int _) ?_)
 | (refine congrArg Value.bool ?_)))
 | (refine retF2 ?_ <;> (conv => whnf) <;> repeat' (first
 | exact trivial
 | (with_reducible rfl)
 | ((with_reducible refine And.intro ?_ ?_) <;> conv => whnf)
 | omega
 | rfl
 | (refine congrArg (SV.arr _) ?_)
 | (refine congrArg (Value.int _) ?_)
 | (refine congrArg Value.bool ?_)))); all_goals (try unfold Side)
  all_goals try (repeat' (first | (with_reducible rfl) | (with_reducible refine And.intro ?_ ?_) | omega | rfl | exact Or.inl rfl | exact Or.inr rfl | exact of_decide_eq_true rfl | exact Path.imp_of (of_decide_eq_true rfl) | (focus ((try simp only [Int.reduceToNat, Int.reduceTDiv, Int.reduceTMod, minL, maxL, pickB, zHB, InK, Path.imp, List.length_replicate, List.length_set, List.length_append, List.length_cons, List.length_nil] at *); omega)) | (refine app_le rfl ?_; omega)))
  by_cases h1 : x = 1 <;> simp [pickB, h1]
/-- The first that is no sign. -/
def fidx (p : Int → Bool) : Nat → List Int → Int
  | _, [] => -1
  | i, x :: r => cond (p x) (i : Int) (fidx p (i + 1) r)
theorem fidx_any {p : Int → Bool} : ∀ {s : List Int} {i : Nat}, decide (0 ≤ fidx p i s) = s.any p
  | [], i => by simp [fidx]
  | x :: r, i => by
    rw [fidx, List.any_cons]
    cases hx : p x with
    | true => simp
    | false => rw [cond_false, fidx_any (s := r)]; simp
def badP (x : Int) : Bool := !(decide (x = 1) || decide (x = -1))
theorem indexfn_at (s : List Int) (hl : s.length ≤ 1000) : FnAt Try.prog false 71 [.arr (.int .i64) s, .fn 65 []] (.lit (.int .i64 (fidx badP 0 s))) [] := by
  refine FnAt.of_body tys_ok Try.func71 (by rfl) rfl Try.ntmps71 (by rw [Try.results71]) (by simp) ?_
  
  repeat' (first
 | refine W.seq ?_
 | refine W.block ?_
 | (refine W.region tys_ok [] ?_; conv => whnf)
 | (refine W.drawAll tys_ok [] mixed rfl ?_; conv => whnf)
 | (refine W.ret ?_; conv => whnf)
 | (refine W.skip ?_; conv => whnf)
 | (refine W.exit ?_; conv => whnf)

    | (refine W.cond rfl (fun hb => ?_) (fun hb => ?_) <;> (try simp only [Int.reduceToNat, Int.reduceTDiv, Int.reduceTMod, minL, maxL, pickB, zHB] at hb) <;> (try (first | (cases hb; done) | exact absurd hb (by decide) | (exfalso; omega))))
    | ((with_reducible refine And.intro ?_ ?_); (focus ((repeat' (first | (with_reducible rfl) | (with_reducible refine And.intro ?_ ?_) | omega | rfl | exact Or.inl rfl | exact Or.inr rfl | exact of_decide_eq_true rfl | exact Path.imp_of (of_decide_eq_true rfl) | (focus ((try simp only [Int.reduceToNat, Int.reduceTDiv, Int.reduceTMod, minL, maxL, pickB, zHB, InK, Path.imp, List.length_replicate, List.length_set, List.length_append, List.length_cons, List.length_nil] at *); omega)) | (refine app_le rfl ?_; omega))); done)); (conv => whnf))
    | ((with_reducible refine And.intro (Side.out ?_) ?_); rotate_left; (conv => whnf))
    | (refine retF1 ?_ <;> (conv => whnf) <;> repeat' (first
 | exact trivial
 | (with_reducible rfl)
 | ((with_reducible refine And.intro ?_ ?_) <;> conv => whnf)
 | omega
 | rfl
 | (refine congrArg (SV.arr _) ?_)
 | (refine congrArg (Value.int _) ?_)
 | (refine congrArg Value.bool ?_)))
 | (refine retF2 ?_ <;> (conv => whnf) <;> repeat' (first
 | exact trivial
 | (with_reducible rfl)
 | ((with_reducible refine And.intro ?_ ?_) <;> conv => whnf)
 | omega
 | rfl
 | (refine congrArg (SV.arr _) ?_)
 | (refine congrArg (Value.int _) ?_)
 | (refine congrArg Value.bool ?_)))); all_goals (try unfold Side)
  refine W.loop (fun i : Nat => ⟨[(0, .st false (.arr (.int .i64) (s : List Int))), (1, .fn 65 []), (6, .st false (.arr (.int .i64) (s : List Int))), (7, .lit (.int .i64 (@List.length (Ty.int .i64).T s))), (8, .lit (.int .i64 (i)))], []⟩) (fun i => i ≤ s.length ∧ fidx badP 0 s = fidx badP i (s.drop i)) (fun i => s.length - i) (0) ?_ ?_
  · refine ⟨⟨Nat.zero_le _, rfl⟩, ?_⟩
    refine subF.ok ?_ <;> (conv => whnf) <;> repeat' (first
 | exact trivial
 | (with_reducible rfl)
 | ((with_reducible refine And.intro ?_ ?_) <;> conv => whnf)
 | omega
 | rfl
 | (refine congrArg (SV.arr _) ?_)
 | (refine congrArg (Value.int _) ?_)
 | (refine congrArg Value.bool ?_))
  · rintro i ⟨hi, hv⟩
    by_cases hil : i < s.length
    · rw [drop_getD 0 hil, fidx] at hv
      repeat' (first
 | refine W.seq ?_
 | refine W.block ?_
 | (refine W.region tys_ok [] ?_; conv => whnf)
 | (refine W.drawAll tys_ok [] mixed rfl ?_; conv => whnf)
 | (refine W.ret ?_; conv => whnf)
 | (refine W.skip ?_; conv => whnf)
 | (refine W.exit ?_; conv => whnf)
 | (refine call_at (al := false) (sgn_at (s.getD i 0)) rfl rfl rfl rfl ?_; conv => whnf)

    | (refine W.cond rfl (fun hb => ?_) (fun hb => ?_) <;> (try simp only [Int.reduceToNat, Int.reduceTDiv, Int.reduceTMod, minL, maxL, pickB, zHB] at hb) <;> (try (first | (cases hb; done) | exact absurd hb (by decide) | (exfalso; omega))))
    | ((with_reducible refine And.intro ?_ ?_); (focus ((repeat' (first | (with_reducible rfl) | (with_reducible refine And.intro ?_ ?_) | omega | rfl | exact Or.inl rfl | exact Or.inr rfl | exact of_decide_eq_true rfl | exact Path.imp_of (of_decide_eq_true rfl) | (focus ((try simp only [Int.reduceToNat, Int.reduceTDiv, Int.reduceTMod, minL, maxL, pickB, zHB, InK, Path.imp, List.length_replicate, List.length_set, List.length_append, List.length_cons, List.length_nil] at *); omega)) | (refine app_le rfl ?_; omega))); done)); (conv => whnf))
    | ((with_reducible refine And.intro (Side.out ?_) ?_); rotate_left; (conv => whnf))
    | (refine retF1 ?_ <;> (conv => whnf) <;> repeat' (first
 | exact trivial
 | (with_reducible rfl)
 | ((with_reducible refine And.intro ?_ ?_) <;> conv => whnf)
 | omega
 | rfl
 | (refine congrArg (SV.arr _) ?_)
 | (refine congrArg (Value.int _) ?_)
 | (refine congrArg Value.bool ?_)))
 | (refine retF2 ?_ <;> (conv => whnf) <;> repeat' (first
 | exact trivial
 | (with_reducible rfl)
 | ((with_reducible refine And.intro ?_ ?_) <;> conv => whnf)
 | omega
 | rfl
 | (refine congrArg (SV.arr _) ?_)
 | (refine congrArg (Value.int _) ?_)
 | (refine congrArg Value.bool ?_)))); all_goals (try unfold Side)
      all_goals try (repeat' (first | (with_reducible rfl) | (with_reducible refine And.intro ?_ ?_) | omega | rfl | exact Or.inl rfl | exact Or.inr rfl | exact of_decide_eq_true rfl | exact Path.imp_of (of_decide_eq_true rfl) | (focus ((try simp only [Int.reduceToNat, Int.reduceTDiv, Int.reduceTMod, minL, maxL, pickB, zHB, InK, Path.imp, List.length_replicate, List.length_set, List.length_append, List.length_cons, List.length_nil] at *); omega)) | (refine app_le rfl ?_; omega)))
      · rw [hv]
        have : badP (s.getD i 0) = true := by rw [badP, decide_eq_false hb.1, decide_eq_false hb.2]; rfl
        rw [this]; rfl
      · refine ⟨i + 1, ⟨⟨by omega, ?_⟩, by omega⟩, ?_⟩
        · rw [hv]
          have : badP (s.getD i 0) = false := by rw [badP]; rcases hb with hb | hb <;> rw [hb] <;> rfl
          rw [this]; rfl
        · refine subF.ok ?_ <;> (conv => whnf) <;> repeat' (first
 | exact trivial
 | (with_reducible rfl)
 | ((with_reducible refine And.intro ?_ ?_) <;> conv => whnf)
 | omega
 | rfl
 | (refine congrArg (SV.arr _) ?_)
 | (refine congrArg (Value.int _) ?_)
 | (refine congrArg Value.bool ?_))
    · have hie : s.length = i := by omega
      subst hie
      rw [List.drop_length, fidx] at hv
      repeat' (first
 | refine W.seq ?_
 | refine W.block ?_
 | (refine W.region tys_ok [] ?_; conv => whnf)
 | (refine W.drawAll tys_ok [] mixed rfl ?_; conv => whnf)
 | (refine W.ret ?_; conv => whnf)
 | (refine W.skip ?_; conv => whnf)
 | (refine W.exit ?_; conv => whnf)

    | (refine W.cond rfl (fun hb => ?_) (fun hb => ?_) <;> (try simp only [Int.reduceToNat, Int.reduceTDiv, Int.reduceTMod, minL, maxL, pickB, zHB] at hb) <;> (try (first | (cases hb; done) | exact absurd hb (by decide) | (exfalso; omega))))
    | ((with_reducible refine And.intro ?_ ?_); (focus ((repeat' (first | (with_reducible rfl) | (with_reducible refine And.intro ?_ ?_) | omega | rfl | exact Or.inl rfl | exact Or.inr rfl | exact of_decide_eq_true rfl | exact Path.imp_of (of_decide_eq_true rfl) | (focus ((try simp only [Int.reduceToNat, Int.reduceTDiv, Int.reduceTMod, minL, maxL, pickB, zHB, InK, Path.imp, List.length_replicate, List.length_set, List.length_append, List.length_cons, List.length_nil] at *); omega)) | (refine app_le rfl ?_; omega))); done)); (conv => whnf))
    | ((with_reducible refine And.intro (Side.out ?_) ?_); rotate_left; (conv => whnf))
    | (refine retF1 ?_ <;> (conv => whnf) <;> repeat' (first
 | exact trivial
 | (with_reducible rfl)
 | ((with_reducible refine And.intro ?_ ?_) <;> conv => whnf)
 | omega
 | rfl
 | (refine congrArg (SV.arr _) ?_)
 | (refine congrArg (Value.int _) ?_)
 | (refine congrArg Value.bool ?_)))
 | (refine retF2 ?_ <;> (conv => whnf) <;> repeat' (first
 | exact trivial
 | (with_reducible rfl)
 | ((with_reducible refine And.intro ?_ ?_) <;> conv => whnf)
 | omega
 | rfl
 | (refine congrArg (SV.arr _) ?_)
 | (refine congrArg (Value.int _) ?_)
 | (refine congrArg Value.bool ?_)))); all_goals (try unfold Side)
      all_goals try (repeat' (first | (with_reducible rfl) | (with_reducible refine And.intro ?_ ?_) | omega | rfl | exact Or.inl rfl | exact Or.inr rfl | exact of_decide_eq_true rfl | exact Path.imp_of (of_decide_eq_true rfl) | (focus ((try simp only [Int.reduceToNat, Int.reduceTDiv, Int.reduceTMod, minL, maxL, pickB, zHB, InK, Path.imp, List.length_replicate, List.length_set, List.length_append, List.length_cons, List.length_nil] at *); omega)) | (refine app_le rfl ?_; omega)))
      all_goals exact hv.symm
theorem contains_at (s : List Int) (hl : s.length ≤ 1000) : FnAt Try.prog false 64 [.arr (.int .i64) s, .fn 65 []] (.lit (.bool (!sgnB s))) [] := by
  have e : decide (0 ≤ fidx badP 0 s) = !sgnB s := by
    rw [fidx_any, sgnB, Bool.eq_iff_iff]
    simp [badP]
  refine FnAt.of_body tys_ok Try.func64 (by rfl) rfl Try.ntmps64 (by rw [Try.results64]) (by simp) ?_
  
  repeat' (first
 | refine W.seq ?_
 | refine W.block ?_
 | (refine W.region tys_ok [] ?_; conv => whnf)
 | (refine W.drawAll tys_ok [] mixed rfl ?_; conv => whnf)
 | (refine W.ret ?_; conv => whnf)
 | (refine W.skip ?_; conv => whnf)
 | (refine W.exit ?_; conv => whnf)
 | (refine call_at (al := false) (indexfn_at s hl) rfl rfl rfl rfl ?_; conv => whnf)

    | (refine W.cond rfl (fun hb => ?_) (fun hb => ?_) <;> (try simp only [Int.reduceToNat, Int.reduceTDiv, Int.reduceTMod, minL, maxL, pickB, zHB] at hb) <;> (try (first | (cases hb; done) | exact absurd hb (by decide) | (exfalso; omega))))
    | ((with_reducible refine And.intro ?_ ?_); (focus ((repeat' (first | (with_reducible rfl) | (with_reducible refine And.intro ?_ ?_) | omega | rfl | exact Or.inl rfl | exact Or.inr rfl | exact of_decide_eq_true rfl | exact Path.imp_of (of_decide_eq_true rfl) | (focus ((try simp only [Int.reduceToNat, Int.reduceTDiv, Int.reduceTMod, minL, maxL, pickB, zHB, InK, Path.imp, List.length_replicate, List.length_set, List.length_append, List.length_cons, List.length_nil] at *); omega)) | (refine app_le rfl ?_; omega))); done)); (conv => whnf))
    | ((with_reducible refine And.intro (Side.out ?_) ?_); rotate_left; (conv => whnf))
    | (refine retF1 ?_ <;> (conv => whnf) <;> repeat' (first
 | exact trivial
 | (with_reducible rfl)
 | ((with_reducible refine And.intro ?_ ?_) <;> conv => whnf)
 | omega
 | rfl
 | (refine congrArg (SV.arr _) ?_)
 | (refine congrArg (Value.int _) ?_)
 | (refine congrArg Value.bool ?_)))
 | (refine retF2 ?_ <;> (conv => whnf) <;> repeat' (first
 | exact trivial
 | (with_reducible rfl)
 | ((with_reducible refine And.intro ?_ ?_) <;> conv => whnf)
 | omega
 | rfl
 | (refine congrArg (SV.arr _) ?_)
 | (refine congrArg (Value.int _) ?_)
 | (refine congrArg Value.bool ?_)))); all_goals (try unfold Side)
  all_goals try (repeat' (first | (with_reducible rfl) | (with_reducible refine And.intro ?_ ?_) | omega | rfl | exact Or.inl rfl | exact Or.inr rfl | exact of_decide_eq_true rfl | exact Path.imp_of (of_decide_eq_true rfl) | (focus ((try simp only [Int.reduceToNat, Int.reduceTDiv, Int.reduceTMod, minL, maxL, pickB, zHB, InK, Path.imp, List.length_replicate, List.length_set, List.length_append, List.length_cons, List.length_nil] at *); omega)) | (refine app_le rfl ?_; omega)))
  all_goals exact e
theorem signed_ok {w s : List Int} {n : Nat} (h : Word w n) (hn : n ≤ 10) (hs : signsB s n = true) : FnAt Try.prog true 47 [.arr (.int .i64) w, .arr (.int .i64) s] (.tup [.st true (curveT n w), .lit (.int .i64 0)]) [] := by
  simp only [signsB, Bool.and_eq_true, decide_eq_true_eq] at hs
  have hl : @List.length (Ty.int .i64).T s = n := hs.2
  have hc := contains_at s (by omega)
  rw [hs.1] at hc
  refine FnAt.of_body tys_ok Try.func47 (by rfl) rfl Try.ntmps47 (by rw [Try.results47]) (by simp) ?_
  
  repeat' (first
 | refine W.seq ?_
 | refine W.block ?_
 | (refine W.region tys_ok [] ?_; conv => whnf)
 | (refine W.drawAll tys_ok [] mixed rfl ?_; conv => whnf)
 | (refine W.ret ?_; conv => whnf)
 | (refine W.skip ?_; conv => whnf)
 | (refine W.exit ?_; conv => whnf)
 | (refine call_at (al := true) (read_ok h hn) rfl rfl rfl rfl ?_; conv => whnf)
 | (refine call_at (al := false) (hc) rfl rfl rfl rfl ?_; conv => whnf)

    | (refine W.cond rfl (fun hb => ?_) (fun hb => ?_) <;> (try simp only [Int.reduceToNat, Int.reduceTDiv, Int.reduceTMod, minL, maxL, pickB, zHB] at hb) <;> (try (first | (cases hb; done) | exact absurd hb (by decide) | (exfalso; omega))))
    | ((with_reducible refine And.intro ?_ ?_); (focus ((repeat' (first | (with_reducible rfl) | (with_reducible refine And.intro ?_ ?_) | omega | rfl | exact Or.inl rfl | exact Or.inr rfl | exact of_decide_eq_true rfl | exact Path.imp_of (of_decide_eq_true rfl) | (focus ((try simp only [Int.reduceToNat, Int.reduceTDiv, Int.reduceTMod, minL, maxL, pickB, zHB, InK, Path.imp, List.length_replicate, List.length_set, List.length_append, List.length_cons, List.length_nil] at *); omega)) | (refine app_le rfl ?_; omega))); done)); (conv => whnf))
    | ((with_reducible refine And.intro (Side.out ?_) ?_); rotate_left; (conv => whnf))
    | (refine retF1 ?_ <;> (conv => whnf) <;> repeat' (first
 | exact trivial
 | (with_reducible rfl)
 | ((with_reducible refine And.intro ?_ ?_) <;> conv => whnf)
 | omega
 | rfl
 | (refine congrArg (SV.arr _) ?_)
 | (refine congrArg (Value.int _) ?_)
 | (refine congrArg Value.bool ?_)))
 | (refine retF2 ?_ <;> (conv => whnf) <;> repeat' (first
 | exact trivial
 | (with_reducible rfl)
 | ((with_reducible refine And.intro ?_ ?_) <;> conv => whnf)
 | omega
 | rfl
 | (refine congrArg (SV.arr _) ?_)
 | (refine congrArg (Value.int _) ?_)
 | (refine congrArg Value.bool ?_)))); all_goals (try unfold Side)
  all_goals try (repeat' (first | (with_reducible rfl) | (with_reducible refine And.intro ?_ ?_) | omega | rfl | exact Or.inl rfl | exact Or.inr rfl | exact of_decide_eq_true rfl | exact Path.imp_of (of_decide_eq_true rfl) | (focus ((try simp only [Int.reduceToNat, Int.reduceTDiv, Int.reduceTMod, minL, maxL, pickB, zHB, InK, Path.imp, List.length_replicate, List.length_set, List.length_append, List.length_cons, List.length_nil] at *); omega)) | (refine app_le rfl ?_; omega)))
theorem signed_bad {w s : List Int} (hw : ¬ checkT w = 0) (hl : w.length ≤ 1000) : FnAt Try.prog true 47 [.arr (.int .i64) w, .arr (.int .i64) s] (.tup [.lit (.pointer none), .lit (.int .i64 (checkT w))]) [] := by
  refine FnAt.of_body tys_ok Try.func47 (by rfl) rfl Try.ntmps47 (by rw [Try.results47]) (by simp) ?_
  
  repeat' (first
 | refine W.seq ?_
 | refine W.block ?_
 | (refine W.region tys_ok [] ?_; conv => whnf)
 | (refine W.drawAll tys_ok [] mixed rfl ?_; conv => whnf)
 | (refine W.ret ?_; conv => whnf)
 | (refine W.skip ?_; conv => whnf)
 | (refine W.exit ?_; conv => whnf)
 | (refine call_at (al := true) (read_bad hw hl) rfl rfl rfl rfl ?_; conv => whnf)

    | (refine W.cond rfl (fun hb => ?_) (fun hb => ?_) <;> (try simp only [Int.reduceToNat, Int.reduceTDiv, Int.reduceTMod, minL, maxL, pickB, zHB] at hb) <;> (try (first | (cases hb; done) | exact absurd hb (by decide) | (exfalso; omega))))
    | ((with_reducible refine And.intro ?_ ?_); (focus ((repeat' (first | (with_reducible rfl) | (with_reducible refine And.intro ?_ ?_) | omega | rfl | exact Or.inl rfl | exact Or.inr rfl | exact of_decide_eq_true rfl | exact Path.imp_of (of_decide_eq_true rfl) | (focus ((try simp only [Int.reduceToNat, Int.reduceTDiv, Int.reduceTMod, minL, maxL, pickB, zHB, InK, Path.imp, List.length_replicate, List.length_set, List.length_append, List.length_cons, List.length_nil] at *); omega)) | (refine app_le rfl ?_; omega))); done)); (conv => whnf))
    | ((with_reducible refine And.intro (Side.out ?_) ?_); rotate_left; (conv => whnf))
    | (refine retF1 ?_ <;> (conv => whnf) <;> repeat' (first
 | exact trivial
 | (with_reducible rfl)
 | ((with_reducible refine And.intro ?_ ?_) <;> conv => whnf)
 | omega
 | rfl
 | (refine congrArg (SV.arr _) ?_)
 | (refine congrArg (Value.int _) ?_)
 | (refine congrArg Value.bool ?_)))
 | (refine retF2 ?_ <;> (conv => whnf) <;> repeat' (first
 | exact trivial
 | (with_reducible rfl)
 | ((with_reducible refine And.intro ?_ ?_) <;> conv => whnf)
 | omega
 | rfl
 | (refine congrArg (SV.arr _) ?_)
 | (refine congrArg (Value.int _) ?_)
 | (refine congrArg Value.bool ?_)))); all_goals (try unfold Side)
  all_goals try (repeat' (first | (with_reducible rfl) | (with_reducible refine And.intro ?_ ?_) | omega | rfl | exact Or.inl rfl | exact Or.inr rfl | exact of_decide_eq_true rfl | exact Path.imp_of (of_decide_eq_true rfl) | (focus ((try simp only [Int.reduceToNat, Int.reduceTDiv, Int.reduceTMod, minL, maxL, pickB, zHB, InK, Path.imp, List.length_replicate, List.length_set, List.length_append, List.length_cons, List.length_nil] at *); omega)) | (refine app_le rfl ?_; omega)))
theorem signed_form {w s : List Int} {n : Nat} (h : Word w n) (hn : n ≤ 10) (hs : signsB s n = false) (hl : s.length ≤ 1000) : FnAt Try.prog true 47 [.arr (.int .i64) w, .arr (.int .i64) s] (.tup [.lit (.pointer none), .lit (.int .i64 2)]) [] := by
  have hc := contains_at s (by omega)
  refine FnAt.of_body tys_ok Try.func47 (by rfl) rfl Try.ntmps47 (by rw [Try.results47]) (by simp) ?_
  
  repeat' (first
 | refine W.seq ?_
 | refine W.block ?_
 | (refine W.region tys_ok [] ?_; conv => whnf)
 | (refine W.drawAll tys_ok [] mixed rfl ?_; conv => whnf)
 | (refine W.ret ?_; conv => whnf)
 | (refine W.skip ?_; conv => whnf)
 | (refine W.exit ?_; conv => whnf)
 | (refine call_at (al := true) (read_ok h hn) rfl rfl rfl rfl ?_; conv => whnf)
 | (refine call_at (al := false) (hc) rfl rfl rfl rfl ?_; conv => whnf)

    | (refine W.cond rfl (fun hb => ?_) (fun hb => ?_) <;> (try simp only [Int.reduceToNat, Int.reduceTDiv, Int.reduceTMod, minL, maxL, pickB, zHB] at hb) <;> (try (first | (cases hb; done) | exact absurd hb (by decide) | (exfalso; omega))))
    | ((with_reducible refine And.intro ?_ ?_); (focus ((repeat' (first | (with_reducible rfl) | (with_reducible refine And.intro ?_ ?_) | omega | rfl | exact Or.inl rfl | exact Or.inr rfl | exact of_decide_eq_true rfl | exact Path.imp_of (of_decide_eq_true rfl) | (focus ((try simp only [Int.reduceToNat, Int.reduceTDiv, Int.reduceTMod, minL, maxL, pickB, zHB, InK, Path.imp, List.length_replicate, List.length_set, List.length_append, List.length_cons, List.length_nil] at *); omega)) | (refine app_le rfl ?_; omega))); done)); (conv => whnf))
    | ((with_reducible refine And.intro (Side.out ?_) ?_); rotate_left; (conv => whnf))
    | (refine retF1 ?_ <;> (conv => whnf) <;> repeat' (first
 | exact trivial
 | (with_reducible rfl)
 | ((with_reducible refine And.intro ?_ ?_) <;> conv => whnf)
 | omega
 | rfl
 | (refine congrArg (SV.arr _) ?_)
 | (refine congrArg (Value.int _) ?_)
 | (refine congrArg Value.bool ?_)))
 | (refine retF2 ?_ <;> (conv => whnf) <;> repeat' (first
 | exact trivial
 | (with_reducible rfl)
 | ((with_reducible refine And.intro ?_ ?_) <;> conv => whnf)
 | omega
 | rfl
 | (refine congrArg (SV.arr _) ?_)
 | (refine congrArg (Value.int _) ?_)
 | (refine congrArg Value.bool ?_)))); all_goals (try unfold Side)
  all_goals try (repeat' (first | (with_reducible rfl) | (with_reducible refine And.intro ?_ ?_) | omega | rfl | exact Or.inl rfl | exact Or.inr rfl | exact of_decide_eq_true rfl | exact Path.imp_of (of_decide_eq_true rfl) | (focus ((try simp only [Int.reduceToNat, Int.reduceTDiv, Int.reduceTMod, minL, maxL, pickB, zHB, InK, Path.imp, List.length_replicate, List.length_set, List.length_append, List.length_cons, List.length_nil] at *); omega)) | (refine app_le rfl ?_; omega)))
  rw [signsB, hb.2, Bool.true_and, decide_eq_false_iff_not] at hs
  exact hs (by have := hb.1; have h' : (s.length : Int) = n := this; omega)
end Go.Proofs.Ytdfajcfkdfjoeaa
/- Faces as lists: what the loops know. No condition. -/
namespace Go.Scr
set_option linter.unusedVariables false
set_option linter.unusedSimpArgs false

theorem Wk.init {nx : Int → Int} {m : Nat} {seen : List Int} {b : Int} (h1 : seen.Nodup) (h2 : ∀ x ∈ seen, -(m : Int) ≤ x ∧ x < m) (h3 : -(m : Int) ≤ b) (h4 : b < m) : Wk nx m seen b b [] :=
  ⟨by simpa using h1, by simpa using h2, ⟨h3, h4⟩, rfl, fun i hi => by simp at hi, fun h => absurd rfl h⟩
theorem facesK_ok {nx : Int → Int} {m : Nat} (hr : ∀ s, -(m : Int) ≤ s → s < m → -(m : Int) ≤ nx s ∧ nx s < m) : ∀ k, k ≤ 2 * m → (facesK nx m k).flatten.Nodup ∧ ∀ x ∈ (facesK nx m k).flatten, -(m : Int) ≤ x ∧ x < m
  | 0, _ => by simp [facesK]
  | k + 1, hk => by
    obtain ⟨h1, h2⟩ := facesK_ok hr k (by omega)
    rw [facesK, faceAdd]
    split
    · exact ⟨h1, h2⟩
    · obtain ⟨st, h3, _⟩ := walk_ok hr (2 * m + 1) ((k : Int) - m) [] (Wk.init (b := (k : Int) - m) h1 h2 (by omega) (by omega)) (by simp)
      rw [List.flatten_append, List.flatten_singleton]
      exact ⟨h3.nd, h3.rg⟩
theorem walk_more {nx : Int → Int} {seen : List Int} {m : Nat} {step : Int} {face : List Int} (hl : face.length ≤ 2 * m) (h : ¬ (step ∈ seen ∨ step ∈ face)) : walk nx seen (2 * m + 1 - face.length) step face = walk nx seen (2 * m + 1 - (face ++ [step]).length) (nx step) (face ++ [step]) := by
  rw [List.length_append, List.length_singleton, show 2 * m + 1 - face.length = (2 * m + 1 - (face.length + 1)) + 1 by omega, walk, if_neg h]
theorem walk_end {nx : Int → Int} {seen : List Int} {m : Nat} {step : Int} {face : List Int} (hl : face.length ≤ 2 * m) (h : step ∈ seen ∨ step ∈ face) : walk nx seen (2 * m + 1 - face.length) step face = face := by
  rw [show 2 * m + 1 - face.length = (2 * m - face.length) + 1 by omega, walk, if_pos h]
theorem facesK_skip {nx : Int → Int} {m k : Nat} (h : (k : Int) - m ∈ (facesK nx m k).flatten) : facesK nx m (k + 1) = facesK nx m k := by rw [facesK, faceAdd, if_pos h]
theorem facesK_push {nx : Int → Int} {m k : Nat} (h : ¬ (k : Int) - m ∈ (facesK nx m k).flatten) : facesK nx m (k + 1) = facesK nx m k ++ [walk nx (facesK nx m k).flatten (2 * m + 1) ((k : Int) - m) []] := by rw [facesK, faceAdd, if_neg h]
theorem facesK_len {nx : Int → Int} {m : Nat} : ∀ k, (facesK nx m k).length ≤ k
  | 0 => by simp [facesK]
  | k + 1 => by
    have := facesK_len (nx := nx) (m := m) k
    rw [facesK, faceAdd]; split
    · omega
    · simp; omega
theorem facesK_lens {nx : Int → Int} {m : Nat} (hr : ∀ s, -(m : Int) ≤ s → s < m → -(m : Int) ≤ nx s ∧ nx s < m) (k : Nat) (hk : k ≤ 2 * m) : ∀ i, i < (facesK nx m k).length → ((facesK nx m k).getD i []).length ≤ 2 * m := fun i hi => by
  obtain ⟨h1, h2⟩ := facesK_ok hr k hk
  have hf : (facesK nx m k).getD i [] ∈ facesK nx m k := by
    rw [List.getD_eq_getElem?_getD, List.getElem?_eq_getElem hi]; exact List.getElem_mem hi
  have hs : ((facesK nx m k).getD i []).Sublist (facesK nx m k).flatten := List.sublist_flatten_of_mem hf
  exact nodup_range (hs.nodup h1) fun x hx => h2 x (hs.subset hx)
theorem facesT_lens {nx : Int → Int} {m : Nat} (hr : ∀ s, -(m : Int) ≤ s → s < m → -(m : Int) ≤ nx s ∧ nx s < m) : ∀ i, i < (facesT nx m).length → ((facesT nx m).getD i []).length ≤ 2 * m := facesK_lens hr _ (Nat.le_refl _)
/-- The steps that were seen, as a map. -/
def mpT (L : List Int) : Int → Option Bool := fun j => if j ∈ L then some true else none
theorem mpT_in {L : List Int} {x : Int} (h : x ∈ L) : (mpT L x).getD false = true := by rw [mpT, if_pos h]; rfl
theorem mpT_out {L : List Int} {x : Int} (h : ¬ x ∈ L) : (mpT L x).getD false = false := by rw [mpT, if_neg h]; rfl
/-- The steps that were seen, as a row. -/
def rowT (m : Nat) (L : List Int) : List Bool := (List.range (2 * m)).map fun i : Nat => decide ((i : Int) - m ∈ L)
theorem rowT_len {m : Nat} {L : List Int} : (rowT m L).length = 2 * m := by simp [rowT]
theorem rowT_get {m : Nat} {L : List Int} {i : Nat} (h : i < 2 * m) : (rowT m L).getD i false = decide ((i : Int) - m ∈ L) := by
  rw [rowT, List.getD_eq_getElem?_getD, List.getElem?_map, List.getElem?_range h]; rfl
theorem rowT_set {m : Nat} {L : List Int} {x : Int} (h0 : -(m : Int) ≤ x) (h1 : x < m) : (rowT m L).set (x + m).toNat true = rowT m (L ++ [x]) := by
  refine List.ext_getElem (by simp [rowT]) fun i h2 h3 => ?_
  rw [List.length_set, rowT_len] at h2
  rw [List.getElem_set]
  simp only [rowT, List.getElem_map, List.getElem_range, List.mem_append, List.mem_singleton]
  split
  · rename_i e
    rw [Bool.eq_iff_iff]; simp only [decide_eq_true_eq, true_iff]; right; omega
  · rename_i e
    rw [decide_eq_decide]
    constructor
    · exact .inl
    · rintro (h | h)
      · exact h
      · omega
theorem rowT_nil {m : Nat} : rowT m [] = List.replicate (2 * m) false := by
  refine List.ext_getElem (by simp [rowT]) fun i h2 h3 => ?_
  simp [rowT]
end Go.Scr
/- Permutations of the numbers below N, and the parity of the number of their cycles. No condition. -/
namespace Go.Scr
set_option linter.unusedVariables false
set_option linter.unusedSimpArgs false

structure Pm (f : Nat → Nat) (N : Nat) : Prop where
  lt : ∀ x, x < N → f x < N
  inj : ∀ x y, x < N → y < N → f x = f y → x = y
/-- The map with the number N taken out of its cycle. -/
def del (f : Nat → Nat) (N : Nat) : Nat → Nat := fun x => if f x = N then f N else f x
/-- The number of cycles. -/
def cyc (f : Nat → Nat) : Nat → Nat
  | 0 => 0
  | N + 1 => cyc (del f N) N + if f N = N then 1 else 0
termination_by N => N
/-- The map with two values exchanged. -/
def sw (a b : Nat) (f : Nat → Nat) : Nat → Nat := fun x => if x = a then f b else if x = b then f a else f x

theorem del_congr {f g : Nat → Nat} {N : Nat} (h : ∀ x, x < N + 1 → f x = g x) : ∀ x, x < N → del f N x = del g N x := fun x hx => by
  unfold del; rw [h x (by omega), h N (by omega)]
theorem cyc_congr : ∀ {N : Nat} {f g : Nat → Nat}, (∀ x, x < N → f x = g x) → cyc f N = cyc g N
  | 0, f, g, h => by rw [cyc, cyc]
  | N + 1, f, g, h => by rw [cyc, cyc, cyc_congr (del_congr h), h N (by omega)]
theorem Pm.del {f : Nat → Nat} {N : Nat} (h : Pm f (N + 1)) : Pm (del f N) N := by
  refine ⟨fun x hx => ?_, fun x y hx hy e => ?_⟩
  · have h1 := h.lt x (by omega)
    have h2 := h.lt N (by omega)
    unfold Scr.del; split
    · rename_i h3
      have : f N ≠ N := fun e => by have := h.inj x N (by omega) (by omega) (by rw [h3, e]); omega
      omega
    · omega
  · unfold Scr.del at e
    split at e <;> rename_i h1 <;> split at e <;> rename_i h2
    · exact h.inj x y (by omega) (by omega) (by rw [h1, h2])
    · have := h.inj N y (by omega) (by omega) e; omega
    · have := h.inj x N (by omega) (by omega) e; omega
    · exact h.inj x y (by omega) (by omega) e
theorem Pm.onto : ∀ {N : Nat} {f : Nat → Nat}, Pm f N → ∀ y, y < N → ∃ x, x < N ∧ f x = y
  | 0, f, h, y, hy => by omega
  | N + 1, f, h, y, hy => by
    by_cases hN : f N = y
    · exact ⟨N, by omega, hN⟩
    · by_cases hy2 : y = N
      · subst hy2
        -- f y ≠ y, below y: the value f y is taken by no other; del f has f y in its range
        have h3 := h.lt y (by omega)
        obtain ⟨x, hx, h4⟩ := Pm.onto h.del (f y) (by omega)
        unfold Scr.del at h4
        split at h4
        · rename_i h5; exact ⟨x, by omega, h5⟩
        · have := h.inj x y (by omega) (by omega) h4; omega
      · obtain ⟨x, hx, h4⟩ := Pm.onto h.del y (by omega)
        unfold Scr.del at h4
        split at h4
        · exact absurd h4 hN
        · exact ⟨x, by omega, h4⟩
theorem Pm.sw {f : Nat → Nat} {N a b : Nat} (h : Pm f N) (ha : a < N) (hb : b < N) : Pm (sw a b f) N := by
  refine ⟨fun x hx => ?_, fun x y hx hy e => ?_⟩
  · unfold Scr.sw; split
    · exact h.lt b hb
    · split
      · exact h.lt a ha
      · exact h.lt x hx
  · unfold Scr.sw at e
    have k := fun u v hu hv => h.inj u v hu hv
    split at e <;> rename_i h1
    · split at e <;> rename_i h2
      · omega
      · split at e <;> rename_i h3
        · have := k b a hb ha e; omega
        · have := k b y hb hy e; omega
    · split at e <;> rename_i h2
      · split at e <;> rename_i h3
        · have := k a b ha hb e; omega
        · split at e <;> rename_i h4
          · omega
          · have := k a y ha hy e; omega
      · split at e <;> rename_i h3
        · have := k x b hx hb e; omega
        · split at e <;> rename_i h4
          · have := k x a hx ha e; omega
          · exact k x y hx hy e
/-- Exchanging two values changes the parity of the number of cycles. -/
theorem flip : ∀ {N : Nat} {f : Nat → Nat} {a b : Nat}, Pm f N → a < b → b < N → (cyc (sw a b f) N + cyc f N) % 2 = 1
  | 0, f, a, b, h, hab, hb => by omega
  | N + 1, f, a, b, h, hab, hb => by
    rw [cyc, cyc]
    by_cases hbN : b = N
    · subst hbN
      have e1 : sw a b f b = f a := by unfold sw; rw [if_neg (by omega), if_pos rfl]
      have ia := fun x (hx : x < b + 1) (e : f x = f a) => h.inj x a hx (by omega) e
      by_cases h1 : f b = b
      · have h2 : f a ≠ b := fun e => by have := h.inj a b (by omega) (by omega) (by rw [e, h1]); omega
        rw [if_pos h1, e1, if_neg h2]
        have : cyc (del (sw a b f) b) b = cyc (del f b) b := by
          refine cyc_congr fun x hx => ?_
          have hxb : f x ≠ b := fun e => by have := h.inj x b (by omega) (by omega) (by rw [e, h1]); omega
          unfold del; rw [e1, if_neg hxb]
          by_cases hxa : x = a
          · subst hxa; rw [show sw x b f x = f b from if_pos rfl, if_pos h1]
          · rw [show sw a b f x = f x by unfold sw; rw [if_neg hxa, if_neg (by omega)], if_neg hxb]
        omega
      · by_cases h2 : f a = b
        · rw [if_neg h1, e1, if_pos h2]
          have : cyc (del (sw a b f) b) b = cyc (del f b) b := by
            refine cyc_congr fun x hx => ?_
            unfold del; rw [e1]
            by_cases hxa : x = a
            · subst hxa; rw [show sw x b f x = f b from if_pos rfl, if_neg h1, if_pos h2]
            · have hxb : f x ≠ b := fun e => by have := ia x (by omega) (by rw [e, h2]); omega
              rw [show sw a b f x = f x by unfold sw; rw [if_neg hxa, if_neg (by omega)], if_neg hxb, if_neg hxb]
          omega
        · rw [if_neg h1, e1, if_neg h2]
          obtain ⟨r, hr, hrb⟩ := h.onto b (by omega)
          have hr2 : r < b := by
            by_cases e : r = b
            · subst e; exact absurd hrb h1
            · omega
          have hra : r ≠ a := fun e => by subst e; exact h2 hrb
          have : cyc (del (sw a b f) b) b = cyc (sw (min a r) (max a r) (del f b)) b := by
            refine cyc_congr fun x hx => ?_
            have s : sw (min a r) (max a r) (del f b) x = if x = a then del f b r else if x = r then del f b a else del f b x := by
              unfold sw
              by_cases har : a < r
              · rw [Nat.min_eq_left (by omega), Nat.max_eq_right (by omega)]
              · rw [Nat.min_eq_right (by omega), Nat.max_eq_left (by omega)]
                split
                · rw [if_neg (by omega)]
                · rfl
            rw [s]
            unfold del; rw [e1]
            by_cases hxa : x = a
            · subst hxa; rw [show sw x b f x = f b from if_pos rfl, if_neg h1, if_pos rfl, if_pos hrb]
            · have e2 : sw a b f x = f x := by unfold sw; rw [if_neg hxa, if_neg (by omega)]
              rw [e2, if_neg hxa]
              by_cases hxr : x = r
              · subst hxr; rw [if_pos hrb, if_pos rfl, if_neg h2]
              · have hxb : f x ≠ b := fun e => by have := h.inj x r (by omega) (by omega) (by rw [e, hrb]); omega
                rw [if_neg hxb, if_neg hxr, if_neg hxb]
          have := flip h.del (a := min a r) (b := max a r) (by omega) (by omega)
          omega
    · have e1 : sw a b f N = f N := by unfold sw; rw [if_neg (by omega), if_neg (by omega)]
      have : cyc (del (sw a b f) N) N = cyc (sw a b (del f N)) N := by
        refine cyc_congr fun x hx => ?_
        unfold del; rw [e1]; unfold sw
        split
        · rfl
        · split <;> rfl
      have := flip h.del hab (show b < N by omega)
      rw [e1]
      omega
theorem cyc_id : ∀ {N : Nat}, cyc (fun x => x) N = N
  | 0 => by rw [cyc]
  | N + 1 => by
    rw [cyc, if_pos rfl, cyc_congr (g := fun x => x) (fun x hx => by unfold del; exact if_neg (show ¬ x = N by omega)), cyc_id]
/-- The number of numbers below k of a kind. -/
noncomputable def cnt (P : Nat → Prop) : Nat → Nat
  | 0 => 0
  | k + 1 => cnt P k + (open Classical in if P k then 1 else 0)
theorem cnt_congr {P Q : Nat → Prop} : ∀ {k : Nat}, (∀ j, j < k → (P j ↔ Q j)) → cnt P k = cnt Q k
  | 0, _ => rfl
  | k + 1, h => by
    rw [cnt, cnt, cnt_congr fun j hj => h j (by omega)]
    by_cases hp : P k
    · rw [if_pos hp, if_pos ((h k (by omega)).1 hp)]
    · rw [if_neg hp, if_neg (mt (h k (by omega)).2 hp)]
theorem cnt_yes {P : Nat → Prop} {k : Nat} (h : P k) : cnt P (k + 1) = cnt P k + 1 := by rw [cnt, if_pos h]
theorem cnt_no {P : Nat → Prop} {k : Nat} (h : ¬ P k) : cnt P (k + 1) = cnt P k := by rw [cnt, if_neg h]; rfl
/-- A number that is the least one of its cycle. -/
def Lead (f : Nat → Nat) (N k : Nat) : Prop := ∃ C : Nat → Bool, (∀ x, x < N → C x = C (f x)) ∧ C k = true ∧ ∀ j, j < k → C j = false
theorem lead_del {f : Nat → Nat} {N k : Nat} (h : Pm f (N + 1)) (hk : k < N) : Lead f (N + 1) k ↔ Lead (del f N) N k := by
  constructor
  · rintro ⟨C, h1, h2, h3⟩
    refine ⟨C, fun x hx => ?_, h2, h3⟩
    unfold del; split
    · rename_i e
      rw [h1 x (by omega), e, h1 N (by omega)]
    · exact h1 x (by omega)
  · rintro ⟨C, h1, h2, h3⟩
    refine ⟨fun x => if x = N then (if f N = N then false else C (f N)) else C x, fun x hx => ?_, ?_, fun j hj => ?_⟩
    · dsimp only
      by_cases hx2 : x = N
      · subst hx2
        rw [if_pos rfl]
        by_cases e : f x = x
        · rw [if_pos e, if_pos e]
        · rw [if_neg e, if_neg e]
      · rw [if_neg hx2]
        have h4 := h1 x (by omega)
        unfold del at h4
        by_cases e : f x = N
        · have : f N ≠ N := fun e2 => hx2 (h.inj x N (by omega) (by omega) (by rw [e, e2]))
          rw [if_pos e] at h4
          rw [if_pos e, if_neg this, h4]
        · rw [if_neg e] at h4
          rw [if_neg e, h4]
    · dsimp only; rw [if_neg (by omega), h2]
    · dsimp only; rw [if_neg (by omega), h3 j hj]
theorem lead_top {f : Nat → Nat} {N : Nat} (h : Pm f (N + 1)) : Lead f (N + 1) N ↔ f N = N := by
  constructor
  · rintro ⟨C, h1, h2, h3⟩
    by_cases e : f N = N
    · exact e
    · have := h.lt N (by omega)
      have h4 := h3 (f N) (by omega)
      rw [← h1 N (by omega), h2] at h4
      cases h4
  · intro e
    refine ⟨fun x => decide (x = N), fun x hx => ?_, by simp, fun j hj => by simp; omega⟩
    have : x = N ↔ f x = N := ⟨fun e2 => by rw [e2, e], fun e2 => h.inj x N hx (by omega) (by rw [e2, e])⟩
    simp [this]
/-- There are as many cycles as numbers that are the least ones of theirs. -/
theorem cyc_lead : ∀ {N : Nat} {f : Nat → Nat}, Pm f N → cyc f N = cnt (Lead f N) N
  | 0, f, h => by rw [cyc, cnt]
  | N + 1, f, h => by
    rw [cyc, cyc_lead h.del, cnt_congr fun j hj => (lead_del h hj).symm]
    by_cases e : f N = N
    · rw [if_pos e, cnt_yes ((lead_top h).2 e)]
    · rw [if_neg e, cnt_no (mt (lead_top h).1 e), Nat.add_zero]
end Go.Scr
/- The faces of a map of steps that is a permutation. No condition. -/
namespace Go.Scr
set_option linter.unusedVariables false
set_option linter.unusedSimpArgs false

/-- A permutation of the steps. -/
structure Pn (nx : Int → Int) (m : Nat) : Prop where
  rg : ∀ s, -(m : Int) ≤ s → s < m → -(m : Int) ≤ nx s ∧ nx s < m
  inj : ∀ x y, -(m : Int) ≤ x → x < m → -(m : Int) ≤ y → y < m → nx x = nx y → x = y
/-- A set of steps that is closed. -/
def Cl (nx : Int → Int) (m : Nat) (C : Int → Bool) : Prop := ∀ x, -(m : Int) ≤ x → x < m → C x = C (nx x)

theorem mem_getD {l : List Int} {i : Nat} (h : i < l.length) : l.getD i 0 ∈ l := by
  rw [List.getD_eq_getElem?_getD, List.getElem?_eq_getElem h]; exact List.getElem_mem h
theorem getD_mem {l : List Int} {x : Int} (h : x ∈ l) : ∃ i, i < l.length ∧ l.getD i 0 = x := by
  obtain ⟨i, hi, e⟩ := List.getElem_of_mem h
  exact ⟨i, hi, by rw [List.getD_eq_getElem?_getD, List.getElem?_eq_getElem hi]; exact e⟩
theorem nodup_get {l : List Int} (h : l.Nodup) {i j : Nat} (hi : i < l.length) (hj : j < l.length) (e : l.getD i 0 = l.getD j 0) : i = j := by
  rw [List.getD_eq_getElem?_getD, List.getElem?_eq_getElem hi, List.getD_eq_getElem?_getD, List.getElem?_eq_getElem hj] at e
  exact (List.getElem_inj h).1 e

structure Fac (nx : Int → Int) (m : Nat) (f : List Int) : Prop where
  ne : f ≠ []
  cl : ∀ x, -(m : Int) ≤ x → x < m → (x ∈ f ↔ nx x ∈ f)
  ch : ∀ C, Cl nx m C → C (f.getD 0 0) = true → ∀ x ∈ f, C x = true
  st : ∀ i, i + 1 < f.length → f.getD (i + 1) 0 = nx (f.getD i 0)
  en : nx (f.getD (f.length - 1) 0) = f.getD 0 0

theorem walk_face {nx : Int → Int} {m : Nat} (h : Pn nx m) {seen : List Int} {b : Int} (h1 : seen.Nodup) (h2 : ∀ x ∈ seen, -(m : Int) ≤ x ∧ x < m)
    (h3 : ∀ x, -(m : Int) ≤ x → x < m → (x ∈ seen ↔ nx x ∈ seen)) (hb0 : -(m : Int) ≤ b) (hb1 : b < m) (hb : ¬ b ∈ seen) :
    Fac nx m (walk nx seen (2 * m + 1) b []) ∧ (walk nx seen (2 * m + 1) b []).getD 0 0 = b ∧ (seen ++ walk nx seen (2 * m + 1) b []).Nodup ∧ ∀ x ∈ seen ++ walk nx seen (2 * m + 1) b [], -(m : Int) ≤ x ∧ x < m := by
  obtain ⟨st, hW, hs, hne, _⟩ := walk_ok h.rg (2 * m + 1) b [] (Wk.init (b := b) h1 h2 hb0 hb1) (by simp)
  generalize walk nx seen (2 * m + 1) b [] = f at *
  have hne : f ≠ [] := fun e => by rcases hne e with h | h; exact hb h; cases h
  have hl : 0 < f.length := List.length_pos_iff.2 hne
  have hrg : ∀ x ∈ f, -(m : Int) ≤ x ∧ x < m := fun x hx => hW.rg x (by simp [hx])
  have hhd : f.getD 0 0 = b := by
    have := hW.hd
    cases f with
    | nil => exact absurd rfl hne
    | cons a l => simpa using this
  have hnd : f.Nodup := (List.nodup_append.1 hW.nd).2.1
  have hdis : ∀ x ∈ f, ¬ x ∈ seen := fun x hx hs => (List.nodup_append.1 hW.nd).2.2 x hs x hx rfl
  have hla := hW.la hne
  have hlast := mem_getD (l := f) (i := f.length - 1) (by omega)
  have hst : st = b := by
    rcases hs with hs | hs
    · rw [hla] at hs
      exact absurd ((h3 _ (hrg _ hlast).1 (hrg _ hlast).2).2 hs) (hdis _ hlast)
    · obtain ⟨i, hi, hie⟩ := getD_mem hs
      cases i with
      | zero => rw [← hie, hhd]
      | succ i =>
        have h5 := hW.ch i hi
        have h6 := mem_getD (l := f) (i := i) (by omega)
        have h7 := h.inj _ _ (hrg _ h6).1 (hrg _ h6).2 (hrg _ hlast).1 (hrg _ hlast).2 (by rw [← h5, hie, hla])
        have := nodup_get hnd (by omega) (by omega) h7
        omega
  refine ⟨⟨hne, fun x hx0 hx1 => ⟨fun hx => ?_, fun hx => ?_⟩, fun C hC hCb => ?_, hW.ch, by rw [← hla, hst, hhd]⟩, hhd, hW.nd, hW.rg⟩
  · obtain ⟨i, hi, hie⟩ := getD_mem hx
    by_cases hi2 : i + 1 < f.length
    · rw [← hie, ← hW.ch i hi2]; exact mem_getD hi2
    · rw [← hie, show i = f.length - 1 by omega, ← hla, hst, ← hhd]; exact mem_getD hl
  · obtain ⟨i, hi, hie⟩ := getD_mem hx
    cases i with
    | zero =>
      have := h.inj x _ hx0 hx1 (hrg _ hlast).1 (hrg _ hlast).2 (by rw [← hie, hhd, ← hst, hla])
      rw [this]; exact hlast
    | succ i =>
      have h6 := mem_getD (l := f) (i := i) (by omega)
      have := h.inj x _ hx0 hx1 (hrg _ h6).1 (hrg _ h6).2 (by rw [← hie, hW.ch i hi])
      rw [this]; exact h6
  · have : ∀ i, i < f.length → C (f.getD i 0) = true := by
      intro i
      induction i with
      | zero => intro _; exact hCb
      | succ i ih =>
        intro hi
        have h6 := mem_getD (l := f) (i := i) (by omega)
        rw [hW.ch i hi, ← hC _ (hrg _ h6).1 (hrg _ h6).2]
        exact ih (by omega)
    intro x hx
    obtain ⟨i, hi, hie⟩ := getD_mem hx
    rw [← hie]; exact this i hi

/-- The same map for numbers from 0. -/
def up (nx : Int → Int) (m : Nat) : Nat → Nat := fun k => (nx ((k : Int) - m) + m).toNat
theorem Pn.up {nx : Int → Int} {m : Nat} (h : Pn nx m) : Pm (up nx m) (2 * m) := by
  refine ⟨fun x hx => ?_, fun x y hx hy e => ?_⟩
  · have := h.rg ((x : Int) - m) (by omega) (by omega)
    unfold Scr.up; omega
  · have h1 := h.rg ((x : Int) - m) (by omega) (by omega)
    have h2 := h.rg ((y : Int) - m) (by omega) (by omega)
    unfold Scr.up at e
    have := h.inj ((x : Int) - m) ((y : Int) - m) (by omega) (by omega) (by omega) (by omega) (by omega)
    omega
/-- What is known of the faces that begin below -m + k. -/
structure FK (nx : Int → Int) (m k : Nat) (F : List (List Int)) : Prop where
  fac : ∀ f ∈ F, Fac nx m f
  nd : F.flatten.Nodup
  rg : ∀ x ∈ F.flatten, -(m : Int) ≤ x ∧ x < m
  all : ∀ j : Nat, j < k → (j : Int) - m ∈ F.flatten
  hd : ∀ f ∈ F, ∀ x ∈ f, f.getD 0 0 ≤ x
  lt : ∀ f ∈ F, f.getD 0 0 < (k : Int) - m
  inc : (F.map fun f => f.getD 0 0).Pairwise (· < ·)
  cnt : F.length = cnt (Lead (up nx m) (2 * m)) k
theorem FK.cl {nx : Int → Int} {m k : Nat} {F : List (List Int)} (h : FK nx m k F) : ∀ x, -(m : Int) ≤ x → x < m → (x ∈ F.flatten ↔ nx x ∈ F.flatten) := fun x h0 h1 => by
  simp only [List.mem_flatten]
  exact ⟨fun ⟨f, hf, hx⟩ => ⟨f, hf, ((h.fac f hf).cl x h0 h1).1 hx⟩, fun ⟨f, hf, hx⟩ => ⟨f, hf, ((h.fac f hf).cl x h0 h1).2 hx⟩⟩
theorem facesK_FK {nx : Int → Int} {m : Nat} (h : Pn nx m) : ∀ k, k ≤ 2 * m → FK nx m k (facesK nx m k)
  | 0, _ => by
    refine ⟨by simp [facesK], by simp [facesK], by simp [facesK], fun j hj => by omega, by simp [facesK], by simp [facesK], by simp [facesK], rfl⟩
  | k + 1, hk => by
    have H := facesK_FK h k (by omega)
    by_cases hb : (k : Int) - m ∈ (facesK nx m k).flatten
    · rw [facesK_skip hb]
      refine ⟨H.fac, H.nd, H.rg, fun j hj => ?_, H.hd, fun f hf => by have := H.lt f hf; omega, H.inc, ?_⟩
      · by_cases e : j = k
        · subst e; exact hb
        · exact H.all j (by omega)
      · rw [cnt_no, H.cnt]
        rintro ⟨C, h1, h2, h3⟩
        obtain ⟨f, hf, hbf⟩ := List.mem_flatten.1 hb
        have hF := H.fac f hf
        have hl : 0 < f.length := List.length_pos_iff.2 hF.ne
        have h0 := H.rg _ (List.mem_flatten.2 ⟨f, hf, mem_getD hl⟩)
        have hlt := H.lt f hf
        have h4 := hF.ch (fun x => ! C (x + m).toNat) (fun x hx0 hx1 => by
          have h5 := h1 (x + m).toNat (by omega)
          have h6 := h.rg x hx0 hx1
          unfold up at h5
          rw [show (((x + m).toNat : Nat) : Int) - m = x by omega] at h5
          show (! C _) = (! C _)
          rw [h5]) (by show (! C _) = true; rw [h3 _ (by omega)]; rfl) _ hbf
        rw [show ((k : Int) - m + m).toNat = k by omega, h2] at h4
        cases h4
    · rw [facesK_push hb]
      obtain ⟨hF, hd, hnd, hrg⟩ := walk_face h H.nd H.rg H.cl (by omega) (by omega) hb
      generalize walk nx (facesK nx m k).flatten (2 * m + 1) ((k : Int) - m) [] = f at *
      have hfl : (facesK nx m k ++ [f]).flatten = (facesK nx m k).flatten ++ f := by simp
      refine ⟨fun g hg => ?_, by rw [hfl]; exact hnd, by rw [hfl]; exact hrg, fun j hj => ?_, fun g hg x hx => ?_, fun g hg => ?_, ?_, ?_⟩
      · rcases List.mem_append.1 hg with hg | hg
        · exact H.fac g hg
        · simp at hg; subst hg; exact hF
      · rw [hfl, List.mem_append]
        by_cases e : j = k
        · subst e; right
          rw [← hd]; exact mem_getD (List.length_pos_iff.2 hF.ne)
        · exact .inl (H.all j (by omega))
      · rcases List.mem_append.1 hg with hg | hg
        · exact H.hd g hg x hx
        · simp at hg; subst hg
          rw [hd]
          by_cases e : (k : Int) - m ≤ x
          · exact e
          · have h0 := hrg x (by simp [hx])
            have := H.all (x + m).toNat (by omega)
            rw [show (((x + m).toNat : Nat) : Int) - m = x by omega] at this
            exact absurd rfl ((List.nodup_append.1 hnd).2.2 x this x hx)
      · rcases List.mem_append.1 hg with hg | hg
        · have := H.lt g hg; omega
        · simp at hg; subst hg; omega
      · rw [List.map_append, List.pairwise_append]
        refine ⟨H.inc, by simp, fun a ha b hb' => ?_⟩
        obtain ⟨g, hg, rfl⟩ := List.mem_map.1 ha
        simp at hb'; subst hb'
        have := H.lt g hg
        have e : f.getD 0 0 = f[0]?.getD 0 := by rw [List.getD_eq_getElem?_getD]
        omega
      · rw [List.length_append, List.length_singleton, cnt_yes, H.cnt]
        refine ⟨fun j => ! decide ((j : Int) - m ∈ (facesK nx m k).flatten), fun x hx => ?_, by simp only [hb, decide_false, Bool.not_false], fun j hj => by simp only [H.all j hj, decide_true, Bool.not_true]⟩
        have h5 := H.cl ((x : Int) - m) (by omega) (by omega)
        have h6 := h.rg ((x : Int) - m) (by omega) (by omega)
        have : ((up nx m x : Nat) : Int) - m = nx ((x : Int) - m) := by unfold up; omega
        dsimp only
        rw [this]
        simp only [h5]
theorem facesT_FK {nx : Int → Int} {m : Nat} (h : Pn nx m) : FK nx m (2 * m) (facesT nx m) := facesK_FK h _ (Nat.le_refl _)
theorem facesT_cyc {nx : Int → Int} {m : Nat} (h : Pn nx m) : (facesT nx m).length = cyc (up nx m) (2 * m) := by
  rw [(facesT_FK h).cnt, cyc_lead h.up]
end Go.Scr
/- A search that gives nodes two colours. No condition. -/
namespace Go.Scr
set_option linter.unusedVariables false
set_option linter.unusedSimpArgs false

/-- The colour that a neighbour has. -/
def wt (e : Nat → Nat → Bool) (s : List Int) (x z : Nat) : Int := if e x z = true then 1 - s.getD x 0 else s.getD x 0
/-- Colours in order. -/
def Valid (n : Nat) (g e : Nat → Nat → Bool) (d : Nat → Bool) : Prop := ∀ x y, x < n → y < n → g x y = true → (d x ^^ d y) = e x y
/-- What has a colour, with all its neighbours, in order. -/
def Clo (n : Nat) (g e : Nat → Nat → Bool) (s : List Int) : Prop := ∀ x z, x < n → z < n → 0 ≤ s.getD x 0 → g x z = true → 0 ≤ s.getD z 0 ∧ s.getD z 0 = wt e s x z
structure Vals (n : Nat) (s : List Int) : Prop where
  len : s.length = n
  val : ∀ x, x < n → s.getD x 0 = -1 ∨ s.getD x 0 = 0 ∨ s.getD x 0 = 1
structure Rd (n : Nat) (g e : Nat → Nat → Bool) (s0 s : List Int) (H : List Int) (k y : Nat) : Prop where
  va : Vals n s
  old : ∀ x, x < n → 0 ≤ s0.getD x 0 → s.getD x 0 = s0.getD x 0
  new : ∀ x, x < n → 0 ≤ s.getD x 0 → 0 ≤ s0.getD x 0 ∨ (x : Int) ∈ H
  mem : ∀ x ∈ H, 0 ≤ x ∧ x < n ∧ s0.getD x.toNat 0 < 0 ∧ 0 ≤ s.getD x.toNat 0
  nd : H.Nodup
  kl : k ≤ H.length
  don : ∀ i x z, i < k → H.getD i 0 = ((x : Nat) : Int) → z < n → g x z = true → 0 ≤ s.getD z 0 ∧ s.getD z 0 = wt e s x z
  par : ∀ x z, k < H.length → H.getD k 0 = ((x : Nat) : Int) → z < y → z < n → g x z = true → 0 ≤ s.getD z 0 ∧ s.getD z 0 = wt e s x z
  con : ∀ d, Valid n g e d → ∃ c : Bool, ∀ x : Nat, (x : Int) ∈ H → d x = (decide (s.getD x 0 = 1) ^^ c)

theorem set_get {s : List Int} {i j : Nat} {v : Int} (h : i < s.length) : (s.set i v).getD j 0 = if j = i then v else s.getD j 0 := by
  simp only [List.getD_eq_getElem?_getD]
  by_cases e : j = i
  · subst e; rw [if_pos rfl, List.getElem?_set_self h]; rfl
  · rw [if_neg e, List.getElem?_set_ne (Ne.symm e)]
theorem Vals.set {n : Nat} {s : List Int} (h : Vals n s) {f : Nat} (hf : f < n) {v : Int} (hv : v = 0 ∨ v = 1) : Vals n (s.set f v) := by
  refine ⟨by rw [List.length_set]; exact h.len, fun x hx => ?_⟩
  rw [set_get (by rw [h.len]; exact hf)]
  split
  · rcases hv with h | h <;> simp [h]
  · exact h.val x hx
theorem Rd.init {n : Nat} {g e : Nat → Nat → Bool} {s0 : List Int} (h : Vals n s0) {f : Nat} (hf : f < n) (hs : s0.getD f 0 < 0) : Rd n g e s0 (s0.set f 0) [(f : Int)] 0 0 := by
  have hfl : f < s0.length := by rw [h.len]; exact hf
  refine ⟨h.set hf (.inl rfl), fun x hx h0 => ?_, fun x hx h0 => ?_, fun x hx => ?_, by simp, by simp, fun i x z hi => by omega, fun x z hk hx hz => by omega, fun d hd => ⟨d f, fun x hx => ?_⟩⟩
  · rw [set_get hfl, if_neg (by rintro rfl; omega)]
  · rw [set_get hfl] at h0
    split at h0
    · rename_i e; subst e; exact .inr (by simp)
    · exact .inl h0
  · simp at hx; subst hx
    refine ⟨by omega, by omega, by simpa using hs, ?_⟩
    rw [Int.toNat_natCast, set_get hfl, if_pos rfl]; omega
  · simp at hx
    have : x = f := by omega
    subst this
    rw [set_get hfl, if_pos rfl]; simp
theorem Rd.len {n : Nat} {g e : Nat → Nat → Bool} {s0 s H : List Int} {k y : Nat} (h : Rd n g e s0 s H k y) : H.length ≤ n := by
  have := nodup_lt (n := n) (l := H.map Int.toNat) ?_ fun x hx => ?_
  · simpa using this
  · rw [List.nodup_iff_pairwise_ne, List.pairwise_map]
    refine List.Pairwise.imp_of_mem (fun {a b} ha hb hab => ?_) (List.nodup_iff_pairwise_ne.1 h.nd)
    have := h.mem a ha; have := h.mem b hb; omega
  · obtain ⟨a, ha, rfl⟩ := List.mem_map.1 hx
    have := h.mem a ha; omega
theorem Rd.at {n : Nat} {g e : Nat → Nat → Bool} {s0 s H : List Int} {k y : Nat} (h : Rd n g e s0 s H k y) (hk : k < H.length) : ∃ x : Nat, H.getD k 0 = (x : Int) ∧ x < n ∧ (s.getD x 0 = 0 ∨ s.getD x 0 = 1) ∧ s0.getD x 0 < 0 ∧ (x : Int) ∈ H := by
  have hm := mem_getD hk
  have := h.mem _ hm
  refine ⟨(H.getD k 0).toNat, by omega, by omega, ?_, this.2.2.1, ?_⟩
  · have hv := h.va.val (H.getD k 0).toNat (by omega); omega
  · rw [Int.toNat_of_nonneg this.1]; exact hm
/-- Nothing is to be done with y. -/
theorem Rd.skip {n : Nat} {g e : Nat → Nat → Bool} {s0 s H : List Int} {k y x : Nat} (h : Rd n g e s0 s H k y) (hx : H.getD k 0 = (x : Int)) (hg : g x y = true → 0 ≤ s.getD y 0 ∧ s.getD y 0 = wt e s x y) : Rd n g e s0 s H k (y + 1) := by
  refine ⟨h.va, h.old, h.new, h.mem, h.nd, h.kl, h.don, fun x' z hk hx' hz hn hgz => ?_, h.con⟩
  have : x' = x := by omega
  subst this
  by_cases e : z = y
  · subst e; exact hg hgz
  · exact h.par x' z hk hx' (by omega) hn hgz
/-- y gets its colour. -/
theorem Rd.put {n : Nat} {g e : Nat → Nat → Bool} {s0 s H : List Int} {k y x : Nat} (h : Rd n g e s0 s H k y) (hk : k < H.length) (hx : H.getD k 0 = (x : Int)) (hy : y < n) (hg : g x y = true) (hs : s.getD y 0 < 0) :
    Rd n g e s0 (s.set y (wt e s x y)) (H ++ [(y : Int)]) k (y + 1) := by
  obtain ⟨x', hx', hxn, hxv, hx0, hxm⟩ := h.at hk
  have : x' = x := by omega
  subst this
  have hyl : y < s.length := by rw [h.va.len]; exact hy
  have hw : wt e s x' y = 0 ∨ wt e s x' y = 1 := by unfold wt; split <;> rcases hxv with h | h <;> omega
  have ho : s0.getD y 0 < 0 := by
    refine Int.not_le.1 fun h0 => ?_
    have := h.old y hy h0; omega
  have hyH : ¬ (y : Int) ∈ H := fun hm => by have := h.mem _ hm; rw [Int.toNat_natCast] at this; omega
  have hne : ∀ z : Nat, 0 ≤ s.getD z 0 → z ≠ y := fun z hz e => by subst e; omega
  have hst : ∀ z, 0 ≤ s.getD z 0 → (s.set y (wt e s x' y)).getD z 0 = s.getD z 0 := fun z hz => by rw [set_get hyl, if_neg (hne z hz)]
  have hwt : ∀ a z, 0 ≤ s.getD a 0 → wt e (s.set y (wt e s x' y)) a z = wt e s a z := fun a z ha => by
    have h1 := hst a ha
    unfold wt at h1 ⊢; rw [h1]
  have hgd : ∀ i, i < H.length → (H ++ [(y : Int)]).getD i 0 = H.getD i 0 := fun i hi => by rw [getD_app, if_pos hi]
  have hgx : ∀ i (a : Nat), i < H.length → H.getD i 0 = (a : Int) → 0 ≤ s.getD a 0 := fun i a hi ha => by
    have := h.mem _ (mem_getD hi); rw [ha, Int.toNat_natCast] at this; exact this.2.2.2
  refine ⟨h.va.set hy hw, fun a ha h0 => ?_, fun a ha h0 => ?_, fun a ha => ?_, ?_, by simp; have := h.kl; omega, fun i a z hi ha hz hgz => ?_, fun a z _ ha hz hzn hgz => ?_, fun d hd => ?_⟩
  · have h1 := h.old a ha h0
    rw [hst a (by omega), h1]
  · rw [set_get hyl] at h0
    split at h0
    · rename_i e1; subst e1; exact .inr (by simp)
    · rcases h.new a ha h0 with h | h
      · exact .inl h
      · exact .inr (by simp [h])
  · rcases List.mem_append.1 ha with ha | ha
    · have := h.mem a ha
      refine ⟨this.1, this.2.1, this.2.2.1, ?_⟩
      rw [hst _ this.2.2.2]; exact this.2.2.2
    · simp at ha; subst ha
      refine ⟨by omega, by omega, by simpa using ho, ?_⟩
      rw [Int.toNat_natCast, set_get hyl, if_pos rfl]; omega
  · rw [List.nodup_append]
    refine ⟨h.nd, by simp, fun a ha b hb => ?_⟩
    simp at hb; subst hb
    rintro rfl; exact hyH ha
  · have hil : i < H.length := by have := h.kl; omega
    rw [hgd i hil] at ha
    have hz1 := h.don i a z hi ha hz hgz
    rw [hst z hz1.1, hwt a z (hgx i a hil ha)]; exact hz1
  · rw [hgd k hk] at ha
    have : a = x' := by omega
    subst this
    rw [hwt a z (by omega)]
    by_cases e1 : z = y
    · subst e1; rw [set_get hyl, if_pos rfl]; exact ⟨by omega, rfl⟩
    · have hz1 := h.par a z hk ha (by omega) hzn hgz
      rw [hst z hz1.1]; exact hz1
  · obtain ⟨c, hc⟩ := h.con d hd
    refine ⟨c, fun a ha => ?_⟩
    rcases List.mem_append.1 ha with ha | ha
    · have := h.mem _ ha; rw [Int.toNat_natCast] at this
      rw [hst a this.2.2.2]; exact hc a ha
    · simp at ha
      have : a = y := by omega
      subst this
      rw [set_get hyl, if_pos rfl]
      have h1 := hc x' hxm
      have h2 := hd x' a hxn hy hg
      have h3 : decide (wt e s x' a = 1) = (decide (s.getD x' 0 = 1) ^^ e x' a) := by
        unfold wt
        cases e x' a <;> rcases hxv with h | h <;> rw [h] <;> decide
      rw [h3]
      revert h1 h2
      generalize d x' = p; generalize d a = q; generalize e x' a = r; generalize decide (s.getD x' 0 = 1) = t
      cases p <;> cases q <;> cases r <;> cases t <;> cases c <;> simp
/-- All neighbours of the k-th are done. -/
theorem Rd.next {n : Nat} {g e : Nat → Nat → Bool} {s0 s H : List Int} {k : Nat} (h : Rd n g e s0 s H k n) (hk : k < H.length) : Rd n g e s0 s H (k + 1) 0 := by
  refine ⟨h.va, h.old, h.new, h.mem, h.nd, hk, fun i x z hi hx hz hg => ?_, fun x z _ _ hz => by omega, h.con⟩
  by_cases e : i = k
  · subst e; exact h.par x z hk hx hz hz hg
  · exact h.don i x z (by omega) hx hz hg
/-- The search has ended. -/
theorem Rd.done {n : Nat} {g e : Nat → Nat → Bool} {s0 s H : List Int} {y : Nat} (h : Rd n g e s0 s H H.length y) (h0 : Clo n g e s0) : Clo n g e s := fun x z hx hz hs hg => by
  rcases h.new x hx hs with h1 | h1
  · have h2 := h0 x z hx hz h1 hg
    have h3 := h.old z hz h2.1
    have h4 := h.old x hx h1
    rw [h3, h2.2]
    unfold wt at *
    rw [h4]; exact ⟨h2.2 ▸ h2.1, rfl⟩
  · obtain ⟨i, hi, hgi⟩ := getD_mem h1
    exact h.don i x z hi hgi hz hg
/-- A neighbour has the other colour: there is no division. -/
theorem Rd.bad {n : Nat} {g e : Nat → Nat → Bool} (hsy : ∀ x y, x < n → y < n → g x y = true → g y x = true) {s0 s H : List Int} {k y x : Nat} (h : Rd n g e s0 s H k y) (h0 : Clo n g e s0) (hk : k < H.length) (hx : H.getD k 0 = (x : Int)) (hy : y < n) (hg : g x y = true) (hs : 0 ≤ s.getD y 0) (hw : ¬ s.getD y 0 = wt e s x y)
    (d : Nat → Bool) (hd : Valid n g e d) : False := by
  obtain ⟨x', hx', hxn, hxv, hx0, hxm⟩ := h.at hk
  have : x' = x := by omega
  subst this
  rcases h.new y hy hs with h1 | h1
  · have := h0 y x' hy hxn h1 (hsy x' y hxn hy hg); omega
  · obtain ⟨c, hc⟩ := h.con d hd
    have h1 := hc x' hxm
    have h2 := hc y ‹_›
    have h3 := hd x' y hxn hy hg
    have hyv := h.va.val y hy
    apply hw
    have hyv' : s.getD y 0 = 0 ∨ s.getD y 0 = 1 := by omega
    unfold wt
    rw [h1, h2] at h3
    rw [← h3]
    rcases hxv with h | h <;> rcases hyv' with h' | h' <;> rw [h, h'] <;> cases c <;> simp
/-- Colours for all: a division. -/
theorem Clo.valid {n : Nat} {g e : Nat → Nat → Bool} {s : List Int} (h : Clo n g e s) (hv : Vals n s) (ha : ∀ x, x < n → 0 ≤ s.getD x 0) : Valid n g e fun x => decide (s.getD x 0 = 1) := fun x y hx hy hg => by
  have h1 := (h x y hx hy (ha x hx) hg).2
  have h2 := hv.val x hx; have h3 := hv.val y hy
  have h4 := ha x hx; have h5 := ha y hy
  have hx' : s.getD x 0 = 0 ∨ s.getD x 0 = 1 := by omega
  have hy' : s.getD y 0 = 0 ∨ s.getD y 0 = 1 := by omega
  dsimp only
  unfold wt at h1
  generalize e x y = r at h1 ⊢
  cases r <;> rcases hx' with h | h <;> rcases hy' with h' | h' <;> rw [h, h'] at h1 ⊢ <;> simp at h1 ⊢
end Go.Scr
/- Letters interlaced with both of two; the three conditions. No condition. -/
namespace Go.Scr
set_option linter.unusedVariables false
set_option linter.unusedSimpArgs false
set_option linter.unusedSectionVars false

theorem inter_self {w : List Int} {a : Int} : interT w a a = false := by simp [interT]
theorem inter_symm {w : List Int} {n : Nat} (h : Word w n) {a b : Nat} (ha : a < n) (hb : b < n) : interT w a b = interT w b a := by
  by_cases e : a = b
  · subst e; rfl
  · obtain ⟨p, q, hpq, hq, hA, hp1, hq1, hallA⟩ := h.places ha
    obtain ⟨r, s, hrs, hs, hB, hr1, hs1, hallB⟩ := h.places hb
    rw [inter_places h ha hb hA hB hpq hq hrs hs hp1 hq1 hr1 hs1 hallB, inter_places h hb ha hB hA hrs hs hpq hq hr1 hs1 hp1 hq1 hallA]
    have e1 : (a : Int) ≠ b := by omega
    have e2 : (b : Int) ≠ a := by omega
    rw [decide_eq_true e1, decide_eq_true e2, Bool.true_and, Bool.true_and]
    have k1 : p ≠ r := by rintro rfl; omega
    have k2 : p ≠ s := by rintro rfl; omega
    have k3 : q ≠ r := by rintro rfl; omega
    have k4 : q ≠ s := by rintro rfl; omega
    by_cases c1 : p < r <;> by_cases c2 : r < q <;> by_cases c3 : p < s <;> by_cases c4 : s < q <;>
      by_cases d1 : r < p <;> by_cases d2 : p < s <;> by_cases d3 : r < q <;> by_cases d4 : q < s <;>
      first | (exfalso; omega) | simp [c1, c2, c3, c4, d1, d2, d3, d4]
def cmnK (w : List Int) (x y : Nat) : Nat → Nat
  | 0 => 0
  | k + 1 => cmnK w x y k + if (interT w x k && interT w y k) = true then 1 else 0
theorem cmnK_le {w : List Int} {x y : Nat} : ∀ {k : Nat}, cmnK w x y k ≤ k
  | 0 => Nat.le_refl _
  | k + 1 => by rw [cmnK]; have := cmnK_le (w := w) (x := x) (y := y) (k := k); split <;> omega
theorem cmnK_symm {w : List Int} {x y : Nat} : ∀ {k : Nat}, cmnK w x y k = cmnK w y x k
  | 0 => rfl
  | k + 1 => by rw [cmnK, cmnK, cmnK_symm, Bool.and_comm]
theorem cmnK_yes {w : List Int} {x y k : Nat} (h : (interT w x k && interT w y k) = true) : cmnK w x y (k + 1) = cmnK w x y k + 1 := by rw [cmnK, if_pos h]
theorem cmnK_no {w : List Int} {x y k : Nat} (h : (interT w x k && interT w y k) = false) : cmnK w x y (k + 1) = cmnK w x y k := by rw [cmnK, h]; rfl
/-- Interlaced; and in different sets. -/
def gD (w : List Int) (x y : Nat) : Bool := interT w x y
def eD (w : List Int) (n x y : Nat) : Bool := decide (cmnK w x y n % 2 = 0)
def C1 (w : List Int) (n a : Nat) : Prop := cmnK w a a n % 2 = 0
def C2 (w : List Int) (n a b : Nat) : Prop := interT w a b = false → cmnK w a b n % 2 = 0
def DrawnP (w : List Int) (n : Nat) : Prop := (∀ a, a < n → C1 w n a) ∧ (∀ a b, b < a → a < n → C2 w n a b) ∧ ∃ d, Valid n (gD w) (eD w n) d
noncomputable def drawnB (w : List Int) (n : Nat) : Bool := @decide (DrawnP w n) (Classical.propDecidable _)
theorem drawnB_yes {w : List Int} {n : Nat} (h : DrawnP w n) : drawnB w n = true := @decide_eq_true _ (Classical.propDecidable _) h
theorem drawnB_no {w : List Int} {n : Nat} (h : ¬ DrawnP w n) : drawnB w n = false := @decide_eq_false _ (Classical.propDecidable _) h
theorem wt_eD {w : List Int} {n x y : Nat} {s : List Int} (h : s.getD x 0 = 0 ∨ s.getD x 0 = 1) : (s.getD x 0 + 1 + (cmnK w x y n : Int)).tmod 2 = wt (eD w n) s x y := by
  unfold wt eD
  rw [Int.tmod_eq_emod_of_nonneg (by omega)]
  by_cases e : cmnK w x y n % 2 = 0
  · rw [if_pos (by simpa using e)]; omega
  · rw [if_neg (by simpa using e)]; omega
theorem gD_symm {w : List Int} {n : Nat} (h : Word w n) : ∀ x y, x < n → y < n → gD w x y = true → gD w y x = true := fun x y hx hy hg => by
  unfold gD at *; rw [inter_symm h hy hx]; exact hg
theorem gD_self {w : List Int} {x : Nat} : gD w x x = false := inter_self
end Go.Scr
/- The three conditions: the program's. No condition. -/
namespace Go.Proofs.Ytdfajcfkdfjoeaa
open Go Go.Vc Go.Scr
set_option linter.unusedVariables false
set_option linter.unusedSimpArgs false

set_option maxHeartbeats 4000000 in
theorem both_at {w : List Int} {n : Nat} (h : Word w n) (hn : n ≤ 10) {x y : Nat} (hx : x < n) (hy : y < n) : FnAt Try.prog false 55 [.lit (.int .i64 x), .lit (.int .i64 y), .sadr (curveT n w)] (.lit (.int .i64 (cmnK w x y n))) [] := by
  refine FnAt.of_body tys_ok Try.func55 (by rfl) rfl Try.ntmps55 (by rw [Try.results55]) (by simp) ?_
  
  repeat' (first
 | refine W.seq ?_
 | refine W.block ?_
 | (refine W.region tys_ok [] ?_; conv => whnf)
 | (refine W.drawAll tys_ok [] mixed rfl ?_; conv => whnf)
 | (refine W.ret ?_; conv => whnf)
 | (refine W.skip ?_; conv => whnf)
 | (refine W.exit ?_; conv => whnf)

    | (refine W.cond rfl (fun hb => ?_) (fun hb => ?_) <;> (try simp only [Int.reduceToNat, Int.reduceTDiv, Int.reduceTMod, minL, maxL, pickB, zHB] at hb) <;> (try (first | (cases hb; done) | exact absurd hb (by decide) | (exfalso; omega))))
    | ((with_reducible refine And.intro ?_ ?_); (focus ((repeat' (first | (with_reducible rfl) | (with_reducible refine And.intro ?_ ?_) | omega | rfl | exact Or.inl rfl | exact Or.inr rfl | exact of_decide_eq_true rfl | exact Path.imp_of (of_decide_eq_true rfl) | (focus ((try simp only [Int.reduceToNat, Int.reduceTDiv, Int.reduceTMod, minL, maxL, pickB, zHB, InK, Path.imp, List.length_replicate, List.length_set, List.length_append, List.length_cons, List.length_nil] at *); omega)) | (refine app_le rfl ?_; omega))); done)); (conv => whnf))
    | ((with_reducible refine And.intro (Side.out ?_) ?_); rotate_left; (conv => whnf))
    | (refine retF1 ?_ <;> (conv => whnf) <;> repeat' (first
 | exact trivial
 | (with_reducible rfl)
 | ((with_reducible refine And.intro ?_ ?_) <;> conv => whnf)
 | omega
 | rfl
 | (refine congrArg (SV.arr _) ?_)
 | (refine congrArg (Value.int _) ?_)
 | (refine congrArg Value.bool ?_)))
 | (refine retF2 ?_ <;> (conv => whnf) <;> repeat' (first
 | exact trivial
 | (with_reducible rfl)
 | ((with_reducible refine And.intro ?_ ?_) <;> conv => whnf)
 | omega
 | rfl
 | (refine congrArg (SV.arr _) ?_)
 | (refine congrArg (Value.int _) ?_)
 | (refine congrArg Value.bool ?_)))); all_goals (try unfold Side)
  all_goals try (repeat' (first | (with_reducible rfl) | (with_reducible refine And.intro ?_ ?_) | omega | rfl | exact Or.inl rfl | exact Or.inr rfl | exact of_decide_eq_true rfl | exact Path.imp_of (of_decide_eq_true rfl) | (focus ((try simp only [Int.reduceToNat, Int.reduceTDiv, Int.reduceTMod, minL, maxL, pickB, zHB, InK, Path.imp, List.length_replicate, List.length_set, List.length_append, List.length_cons, List.length_nil] at *); omega)) | (refine app_le rfl ?_; omega)))
  refine W.loop (fun z : Nat => ⟨[(0, .lit (.int .i64 (x))), (1, .lit (.int .i64 (y))), (2, .st false (.sadr (curveT n w))), (6, .lit (.int .i64 ((cmnK w x y z : Nat)))), (11, .lit (.int .i64 (n))), (12, .lit (.int .i64 (z)))], []⟩) (fun z => z ≤ n) (fun z => n - z) (0) ?_ ?_
  · refine ⟨Nat.zero_le _, ?_⟩
    refine subF.ok ?_ <;> (conv => whnf) <;> repeat' (first
 | exact trivial
 | (with_reducible rfl)
 | ((with_reducible refine And.intro ?_ ?_) <;> conv => whnf)
 | omega
 | rfl
 | (refine congrArg (SV.arr _) ?_)
 | (refine congrArg (Value.int _) ?_)
 | (refine congrArg Value.bool ?_))
  · intro z hz
    have hle := cmnK_le (w := w) (x := x) (y := y) (k := z)
    by_cases hzl : z < n
    · have i1 := inter_at h (by omega) hx hzl
      have i2 := inter_at h (by omega) hy hzl
      cases e1 : interT w x z with
      | true =>
        cases e2 : interT w y z with
        | true =>
          have hs := cmnK_yes (w := w) (x := x) (y := y) (k := z) (by rw [e1, e2]; rfl)
          rw [e1] at i1
          rw [e2] at i2
          repeat' (first
 | refine W.seq ?_
 | refine W.block ?_
 | (refine W.region tys_ok [] ?_; conv => whnf)
 | (refine W.drawAll tys_ok [] mixed rfl ?_; conv => whnf)
 | (refine W.ret ?_; conv => whnf)
 | (refine W.skip ?_; conv => whnf)
 | (refine W.exit ?_; conv => whnf)
 | (refine call_at (al := false) (i1) rfl rfl rfl rfl ?_; conv => whnf)
 | (refine call_at (al := false) (i2) rfl rfl rfl rfl ?_; conv => whnf)

    | (refine W.cond rfl (fun hb => ?_) (fun hb => ?_) <;> (try simp only [Int.reduceToNat, Int.reduceTDiv, Int.reduceTMod, minL, maxL, pickB, zHB] at hb) <;> (try (first | (cases hb; done) | exact absurd hb (by decide) | (exfalso; omega))))
    | ((with_reducible refine And.intro ?_ ?_); (focus ((repeat' (first | (with_reducible rfl) | (with_reducible refine And.intro ?_ ?_) | omega | rfl | exact Or.inl rfl | exact Or.inr rfl | exact of_decide_eq_true rfl | exact Path.imp_of (of_decide_eq_true rfl) | (focus ((try simp only [Int.reduceToNat, Int.reduceTDiv, Int.reduceTMod, minL, maxL, pickB, zHB, InK, Path.imp, List.length_replicate, List.length_set, List.length_append, List.length_cons, List.length_nil] at *); omega)) | (refine app_le rfl ?_; omega))); done)); (conv => whnf))
    | ((with_reducible refine And.intro (Side.out ?_) ?_); rotate_left; (conv => whnf))
    | (refine retF1 ?_ <;> (conv => whnf) <;> repeat' (first
 | exact trivial
 | (with_reducible rfl)
 | ((with_reducible refine And.intro ?_ ?_) <;> conv => whnf)
 | omega
 | rfl
 | (refine congrArg (SV.arr _) ?_)
 | (refine congrArg (Value.int _) ?_)
 | (refine congrArg Value.bool ?_)))
 | (refine retF2 ?_ <;> (conv => whnf) <;> repeat' (first
 | exact trivial
 | (with_reducible rfl)
 | ((with_reducible refine And.intro ?_ ?_) <;> conv => whnf)
 | omega
 | rfl
 | (refine congrArg (SV.arr _) ?_)
 | (refine congrArg (Value.int _) ?_)
 | (refine congrArg Value.bool ?_)))); all_goals (try unfold Side)
          all_goals try (repeat' (first | (with_reducible rfl) | (with_reducible refine And.intro ?_ ?_) | omega | rfl | exact Or.inl rfl | exact Or.inr rfl | exact of_decide_eq_true rfl | exact Path.imp_of (of_decide_eq_true rfl) | (focus ((try simp only [Int.reduceToNat, Int.reduceTDiv, Int.reduceTMod, minL, maxL, pickB, zHB, InK, Path.imp, List.length_replicate, List.length_set, List.length_append, List.length_cons, List.length_nil] at *); omega)) | (refine app_le rfl ?_; omega)))
          refine ⟨z + 1, ⟨by omega, by omega⟩, ?_⟩
          rw [hs]
          refine subF.ok ?_ <;> (conv => whnf) <;> repeat' (first
 | exact trivial
 | (with_reducible rfl)
 | ((with_reducible refine And.intro ?_ ?_) <;> conv => whnf)
 | omega
 | rfl
 | (refine congrArg (SV.arr _) ?_)
 | (refine congrArg (Value.int _) ?_)
 | (refine congrArg Value.bool ?_))
        | false =>
          have hs := cmnK_no (w := w) (x := x) (y := y) (k := z) (by rw [e1, e2]; rfl)
          rw [e1] at i1
          rw [e2] at i2
          repeat' (first
 | refine W.seq ?_
 | refine W.block ?_
 | (refine W.region tys_ok [] ?_; conv => whnf)
 | (refine W.drawAll tys_ok [] mixed rfl ?_; conv => whnf)
 | (refine W.ret ?_; conv => whnf)
 | (refine W.skip ?_; conv => whnf)
 | (refine W.exit ?_; conv => whnf)
 | (refine call_at (al := false) (i1) rfl rfl rfl rfl ?_; conv => whnf)
 | (refine call_at (al := false) (i2) rfl rfl rfl rfl ?_; conv => whnf)

    | (refine W.cond rfl (fun hb => ?_) (fun hb => ?_) <;> (try simp only [Int.reduceToNat, Int.reduceTDiv, Int.reduceTMod, minL, maxL, pickB, zHB] at hb) <;> (try (first | (cases hb; done) | exact absurd hb (by decide) | (exfalso; omega))))
    | ((with_reducible refine And.intro ?_ ?_); (focus ((repeat' (first | (with_reducible rfl) | (with_reducible refine And.intro ?_ ?_) | omega | rfl | exact Or.inl rfl | exact Or.inr rfl | exact of_decide_eq_true rfl | exact Path.imp_of (of_decide_eq_true rfl) | (focus ((try simp only [Int.reduceToNat, Int.reduceTDiv, Int.reduceTMod, minL, maxL, pickB, zHB, InK, Path.imp, List.length_replicate, List.length_set, List.length_append, List.length_cons, List.length_nil] at *); omega)) | (refine app_le rfl ?_; omega))); done)); (conv => whnf))
    | ((with_reducible refine And.intro (Side.out ?_) ?_); rotate_left; (conv => whnf))
    | (refine retF1 ?_ <;> (conv => whnf) <;> repeat' (first
 | exact trivial
 | (with_reducible rfl)
 | ((with_reducible refine And.intro ?_ ?_) <;> conv => whnf)
 | omega
 | rfl
 | (refine congrArg (SV.arr _) ?_)
 | (refine congrArg (Value.int _) ?_)
 | (refine congrArg Value.bool ?_)))
 | (refine retF2 ?_ <;> (conv => whnf) <;> repeat' (first
 | exact trivial
 | (with_reducible rfl)
 | ((with_reducible refine And.intro ?_ ?_) <;> conv => whnf)
 | omega
 | rfl
 | (refine congrArg (SV.arr _) ?_)
 | (refine congrArg (Value.int _) ?_)
 | (refine congrArg Value.bool ?_)))); all_goals (try unfold Side)
          all_goals try (repeat' (first | (with_reducible rfl) | (with_reducible refine And.intro ?_ ?_) | omega | rfl | exact Or.inl rfl | exact Or.inr rfl | exact of_decide_eq_true rfl | exact Path.imp_of (of_decide_eq_true rfl) | (focus ((try simp only [Int.reduceToNat, Int.reduceTDiv, Int.reduceTMod, minL, maxL, pickB, zHB, InK, Path.imp, List.length_replicate, List.length_set, List.length_append, List.length_cons, List.length_nil] at *); omega)) | (refine app_le rfl ?_; omega)))
          refine ⟨z + 1, ⟨by omega, by omega⟩, ?_⟩
          rw [hs]
          refine subF.ok ?_ <;> (conv => whnf) <;> repeat' (first
 | exact trivial
 | (with_reducible rfl)
 | ((with_reducible refine And.intro ?_ ?_) <;> conv => whnf)
 | omega
 | rfl
 | (refine congrArg (SV.arr _) ?_)
 | (refine congrArg (Value.int _) ?_)
 | (refine congrArg Value.bool ?_))
      | false =>
        have hs := cmnK_no (w := w) (x := x) (y := y) (k := z) (by rw [e1]; rfl)
        rw [e1] at i1
        repeat' (first
 | refine W.seq ?_
 | refine W.block ?_
 | (refine W.region tys_ok [] ?_; conv => whnf)
 | (refine W.drawAll tys_ok [] mixed rfl ?_; conv => whnf)
 | (refine W.ret ?_; conv => whnf)
 | (refine W.skip ?_; conv => whnf)
 | (refine W.exit ?_; conv => whnf)
 | (refine call_at (al := false) (i1) rfl rfl rfl rfl ?_; conv => whnf)
 | (refine call_at (al := false) (i2) rfl rfl rfl rfl ?_; conv => whnf)

    | (refine W.cond rfl (fun hb => ?_) (fun hb => ?_) <;> (try simp only [Int.reduceToNat, Int.reduceTDiv, Int.reduceTMod, minL, maxL, pickB, zHB] at hb) <;> (try (first | (cases hb; done) | exact absurd hb (by decide) | (exfalso; omega))))
    | ((with_reducible refine And.intro ?_ ?_); (focus ((repeat' (first | (with_reducible rfl) | (with_reducible refine And.intro ?_ ?_) | omega | rfl | exact Or.inl rfl | exact Or.inr rfl | exact of_decide_eq_true rfl | exact Path.imp_of (of_decide_eq_true rfl) | (focus ((try simp only [Int.reduceToNat, Int.reduceTDiv, Int.reduceTMod, minL, maxL, pickB, zHB, InK, Path.imp, List.length_replicate, List.length_set, List.length_append, List.length_cons, List.length_nil] at *); omega)) | (refine app_le rfl ?_; omega))); done)); (conv => whnf))
    | ((with_reducible refine And.intro (Side.out ?_) ?_); rotate_left; (conv => whnf))
    | (refine retF1 ?_ <;> (conv => whnf) <;> repeat' (first
 | exact trivial
 | (with_reducible rfl)
 | ((with_reducible refine And.intro ?_ ?_) <;> conv => whnf)
 | omega
 | rfl
 | (refine congrArg (SV.arr _) ?_)
 | (refine congrArg (Value.int _) ?_)
 | (refine congrArg Value.bool ?_)))
 | (refine retF2 ?_ <;> (conv => whnf) <;> repeat' (first
 | exact trivial
 | (with_reducible rfl)
 | ((with_reducible refine And.intro ?_ ?_) <;> conv => whnf)
 | omega
 | rfl
 | (refine congrArg (SV.arr _) ?_)
 | (refine congrArg (Value.int _) ?_)
 | (refine congrArg Value.bool ?_)))); all_goals (try unfold Side)
        all_goals try (repeat' (first | (with_reducible rfl) | (with_reducible refine And.intro ?_ ?_) | omega | rfl | exact Or.inl rfl | exact Or.inr rfl | exact of_decide_eq_true rfl | exact Path.imp_of (of_decide_eq_true rfl) | (focus ((try simp only [Int.reduceToNat, Int.reduceTDiv, Int.reduceTMod, minL, maxL, pickB, zHB, InK, Path.imp, List.length_replicate, List.length_set, List.length_append, List.length_cons, List.length_nil] at *); omega)) | (refine app_le rfl ?_; omega)))
        refine ⟨z + 1, ⟨by omega, by omega⟩, ?_⟩
        rw [hs]
        refine subF.ok ?_ <;> (conv => whnf) <;> repeat' (first
 | exact trivial
 | (with_reducible rfl)
 | ((with_reducible refine And.intro ?_ ?_) <;> conv => whnf)
 | omega
 | rfl
 | (refine congrArg (SV.arr _) ?_)
 | (refine congrArg (Value.int _) ?_)
 | (refine congrArg Value.bool ?_))
    · have hze : n = z := by omega
      subst hze
      repeat' (first
 | refine W.seq ?_
 | refine W.block ?_
 | (refine W.region tys_ok [] ?_; conv => whnf)
 | (refine W.drawAll tys_ok [] mixed rfl ?_; conv => whnf)
 | (refine W.ret ?_; conv => whnf)
 | (refine W.skip ?_; conv => whnf)
 | (refine W.exit ?_; conv => whnf)

    | (refine W.cond rfl (fun hb => ?_) (fun hb => ?_) <;> (try simp only [Int.reduceToNat, Int.reduceTDiv, Int.reduceTMod, minL, maxL, pickB, zHB] at hb) <;> (try (first | (cases hb; done) | exact absurd hb (by decide) | (exfalso; omega))))
    | ((with_reducible refine And.intro ?_ ?_); (focus ((repeat' (first | (with_reducible rfl) | (with_reducible refine And.intro ?_ ?_) | omega | rfl | exact Or.inl rfl | exact Or.inr rfl | exact of_decide_eq_true rfl | exact Path.imp_of (of_decide_eq_true rfl) | (focus ((try simp only [Int.reduceToNat, Int.reduceTDiv, Int.reduceTMod, minL, maxL, pickB, zHB, InK, Path.imp, List.length_replicate, List.length_set, List.length_append, List.length_cons, List.length_nil] at *); omega)) | (refine app_le rfl ?_; omega))); done)); (conv => whnf))
    | ((with_reducible refine And.intro (Side.out ?_) ?_); rotate_left; (conv => whnf))
    | (refine retF1 ?_ <;> (conv => whnf) <;> repeat' (first
 | exact trivial
 | (with_reducible rfl)
 | ((with_reducible refine And.intro ?_ ?_) <;> conv => whnf)
 | omega
 | rfl
 | (refine congrArg (SV.arr _) ?_)
 | (refine congrArg (Value.int _) ?_)
 | (refine congrArg Value.bool ?_)))
 | (refine retF2 ?_ <;> (conv => whnf) <;> repeat' (first
 | exact trivial
 | (with_reducible rfl)
 | ((with_reducible refine And.intro ?_ ?_) <;> conv => whnf)
 | omega
 | rfl
 | (refine congrArg (SV.arr _) ?_)
 | (refine congrArg (Value.int _) ?_)
 | (refine congrArg Value.bool ?_)))); all_goals (try unfold Side)
      all_goals try (repeat' (first | (with_reducible rfl) | (with_reducible refine And.intro ?_ ?_) | omega | rfl | exact Or.inl rfl | exact Or.inr rfl | exact of_decide_eq_true rfl | exact Path.imp_of (of_decide_eq_true rfl) | (focus ((try simp only [Int.reduceToNat, Int.reduceTDiv, Int.reduceTMod, minL, maxL, pickB, zHB, InK, Path.imp, List.length_replicate, List.length_set, List.length_append, List.length_cons, List.length_nil] at *); omega)) | (refine app_le rfl ?_; omega)))
theorem Drawn_no {w : List Int} (h : ¬ checkT w = 0) (hl : w.length ≤ 1000) : FnAt Try.prog false 36 [.arr (.int .i64) w] (.tup [.lit (.bool false), .lit (.int .i64 (checkT w))]) [] := by
  refine FnAt.of_body tys_ok Try.func36 (by rfl) rfl Try.ntmps36 (by rw [Try.results36]) (by simp) ?_
  
  repeat' (first
 | refine W.seq ?_
 | refine W.block ?_
 | (refine W.region tys_ok [] ?_; conv => whnf)
 | (refine W.drawAll tys_ok [] mixed rfl ?_; conv => whnf)
 | (refine W.ret ?_; conv => whnf)
 | (refine W.skip ?_; conv => whnf)
 | (refine W.exit ?_; conv => whnf)
 | (refine call_at (al := true) (read_bad h hl) rfl rfl rfl rfl ?_; conv => whnf)

    | (refine W.cond rfl (fun hb => ?_) (fun hb => ?_) <;> (try simp only [Int.reduceToNat, Int.reduceTDiv, Int.reduceTMod, minL, maxL, pickB, zHB] at hb) <;> (try (first | (cases hb; done) | exact absurd hb (by decide) | (exfalso; omega))))
    | ((with_reducible refine And.intro ?_ ?_); (focus ((repeat' (first | (with_reducible rfl) | (with_reducible refine And.intro ?_ ?_) | omega | rfl | exact Or.inl rfl | exact Or.inr rfl | exact of_decide_eq_true rfl | exact Path.imp_of (of_decide_eq_true rfl) | (focus ((try simp only [Int.reduceToNat, Int.reduceTDiv, Int.reduceTMod, minL, maxL, pickB, zHB, InK, Path.imp, List.length_replicate, List.length_set, List.length_append, List.length_cons, List.length_nil] at *); omega)) | (refine app_le rfl ?_; omega))); done)); (conv => whnf))
    | ((with_reducible refine And.intro (Side.out ?_) ?_); rotate_left; (conv => whnf))
    | (refine retF1 ?_ <;> (conv => whnf) <;> repeat' (first
 | exact trivial
 | (with_reducible rfl)
 | ((with_reducible refine And.intro ?_ ?_) <;> conv => whnf)
 | omega
 | rfl
 | (refine congrArg (SV.arr _) ?_)
 | (refine congrArg (Value.int _) ?_)
 | (refine congrArg Value.bool ?_)))
 | (refine retF2 ?_ <;> (conv => whnf) <;> repeat' (first
 | exact trivial
 | (with_reducible rfl)
 | ((with_reducible refine And.intro ?_ ?_) <;> conv => whnf)
 | omega
 | rfl
 | (refine congrArg (SV.arr _) ?_)
 | (refine congrArg (Value.int _) ?_)
 | (refine congrArg Value.bool ?_)))); all_goals (try unfold Side)
  all_goals try (repeat' (first | (with_reducible rfl) | (with_reducible refine And.intro ?_ ?_) | omega | rfl | exact Or.inl rfl | exact Or.inr rfl | exact of_decide_eq_true rfl | exact Path.imp_of (of_decide_eq_true rfl) | (focus ((try simp only [Int.reduceToNat, Int.reduceTDiv, Int.reduceTMod, minL, maxL, pickB, zHB, InK, Path.imp, List.length_replicate, List.length_set, List.length_append, List.length_cons, List.length_nil] at *); omega)) | (refine app_le rfl ?_; omega)))
end Go.Proofs.Ytdfajcfkdfjoeaa
/- The three conditions: the program's. No condition. -/
namespace Go.Proofs.Ytdfajcfkdfjoeaa
open Go Go.Vc Go.Scr
set_option linter.unusedVariables false
set_option linter.unusedSimpArgs false

structure ClV (w : List Int) (n f : Nat) (s : List Int) : Prop where
  clo : Clo n (gD w) (eD w n) s
  va : Vals n s
  all : ∀ a, a < f → 0 ≤ s.getD a 0
set_option maxHeartbeats 16000000 in
theorem Drawn_ok {w : List Int} {n : Nat} (h : Word w n) (hn : n ≤ 10) : FnAt Try.prog false 36 [.arr (.int .i64) w] (.tup [.lit (.bool (drawnB w n)), .lit (.int .i64 0)]) [] := by
  have hp := h.pos
  have no1 : ∀ x, x < n → ¬ C1 w n x → drawnB w n = false := fun x hx hc => drawnB_no fun hd => hc (hd.1 x hx)
  have no2 : ∀ x y, y < x → x < n → ¬ C2 w n x y → drawnB w n = false := fun x y hy hx hc => drawnB_no fun hd => hc (hd.2.1 x y hy hx)
  have no3 : (¬ ∃ d, Valid n (gD w) (eD w n) d) → drawnB w n = false := fun hc => drawnB_no fun hd => hc hd.2.2
  have yes : (∀ a, a < n → C1 w n a) → (∀ a b, b < a → a < n → C2 w n a b) → (∃ d, Valid n (gD w) (eD w n) d) → drawnB w n = true := fun h1 h2 h3 => drawnB_yes ⟨h1, h2, h3⟩
  have bmod : ∀ x y, ((cmnK w x y n : Int).tmod 2 = 1 ↔ ¬ cmnK w x y n % 2 = 0) := fun x y => by rw [Int.tmod_eq_emod_of_nonneg (by omega)]; omega
  have hcb := fun x y (hx : x < n) (hy : y < n) => both_at h hn hx hy
  have hci := fun x y (hx : x < n) (hy : y < n) => inter_at h (by omega) hx hy
  have hrep := repeat_at (n := n) hp (by omega)
  obtain ⟨D, hD⟩ : ∃ D, D = drawnB w n := ⟨_, rfl⟩
  rw [← hD] at no1 no2 no3 yes ⊢
  clear hD
  refine FnAt.of_body tys_ok Try.func36 (by rfl) rfl Try.ntmps36 (by rw [Try.results36]) (by simp) ?_
  
  repeat' (first
 | refine W.seq ?_
 | refine W.block ?_
 | (refine W.region tys_ok [] ?_; conv => whnf)
 | (refine W.drawAll tys_ok [] mixed rfl ?_; conv => whnf)
 | (refine W.ret ?_; conv => whnf)
 | (refine W.skip ?_; conv => whnf)
 | (refine W.exit ?_; conv => whnf)
 | (refine call_at (al := true) (read_ok h hn) rfl rfl rfl rfl ?_; conv => whnf)

    | (refine W.cond rfl (fun hb => ?_) (fun hb => ?_) <;> (try simp only [Int.reduceToNat, Int.reduceTDiv, Int.reduceTMod, minL, maxL, pickB, zHB] at hb) <;> (try (first | (cases hb; done) | exact absurd hb (by decide) | (exfalso; omega))))
    | ((with_reducible refine And.intro ?_ ?_); (focus ((repeat' (first | (with_reducible rfl) | (with_reducible refine And.intro ?_ ?_) | omega | rfl | exact Or.inl rfl | exact Or.inr rfl | exact of_decide_eq_true rfl | exact Path.imp_of (of_decide_eq_true rfl) | (focus ((try simp only [Int.reduceToNat, Int.reduceTDiv, Int.reduceTMod, minL, maxL, pickB, zHB, InK, Path.imp, List.length_replicate, List.length_set, List.length_append, List.length_cons, List.length_nil] at *); omega)) | (refine app_le rfl ?_; omega))); done)); (conv => whnf))
    | ((with_reducible refine And.intro (Side.out ?_) ?_); rotate_left; (conv => whnf))
    | (refine retF1 ?_ <;> (conv => whnf) <;> repeat' (first
 | exact trivial
 | (with_reducible rfl)
 | ((with_reducible refine And.intro ?_ ?_) <;> conv => whnf)
 | omega
 | rfl
 | (refine congrArg (SV.arr _) ?_)
 | (refine congrArg (Value.int _) ?_)
 | (refine congrArg Value.bool ?_)))
 | (refine retF2 ?_ <;> (conv => whnf) <;> repeat' (first
 | exact trivial
 | (with_reducible rfl)
 | ((with_reducible refine And.intro ?_ ?_) <;> conv => whnf)
 | omega
 | rfl
 | (refine congrArg (SV.arr _) ?_)
 | (refine congrArg (Value.int _) ?_)
 | (refine congrArg Value.bool ?_)))); all_goals (try unfold Side)
  all_goals try (repeat' (first | (with_reducible rfl) | (with_reducible refine And.intro ?_ ?_) | omega | rfl | exact Or.inl rfl | exact Or.inr rfl | exact of_decide_eq_true rfl | exact Path.imp_of (of_decide_eq_true rfl) | (focus ((try simp only [Int.reduceToNat, Int.reduceTDiv, Int.reduceTMod, minL, maxL, pickB, zHB, InK, Path.imp, List.length_replicate, List.length_set, List.length_append, List.length_cons, List.length_nil] at *); omega)) | (refine app_le rfl ?_; omega)))
  refine W.loop (fun x : Nat => ⟨[(4, .padr 900004 0), (6, .fn 55 [.padr 900004 0]), (27, .lit (.int .i64 (n))), (28, .lit (.int .i64 (x)))], [(900004, .box1 (.st false (curveT n w)))]⟩) (fun x => x ≤ n ∧ (∀ a, a < x → C1 w n a) ∧ (∀ a b, b < a → a < x → C2 w n a b)) (fun x => n - x) (0) ?_ ?_
  · refine ⟨⟨Nat.zero_le _, by omega, by omega⟩, ?_⟩
    refine subF.ok ?_ <;> (conv => whnf) <;> repeat' (first
 | exact trivial
 | (with_reducible rfl)
 | ((with_reducible refine And.intro ?_ ?_) <;> conv => whnf)
 | omega
 | rfl
 | (refine congrArg (SV.arr _) ?_)
 | (refine congrArg (Value.int _) ?_)
 | (refine congrArg Value.bool ?_))
  · rintro x ⟨hx, hc1, hc2⟩
    by_cases hxn : x < n
    · have hb1 := hcb x x hxn hxn
      have hbl := cmnK_le (w := w) (x := x) (y := x) (k := n)
      by_cases hcx : C1 w n x
      · have hcm : ¬ (cmnK w x x n : Int).tmod 2 = 1 := fun hh => (bmod x x).1 hh hcx
        repeat' (first
 | refine W.seq ?_
 | refine W.block ?_
 | (refine W.region tys_ok [] ?_; conv => whnf)
 | (refine W.drawAll tys_ok [] mixed rfl ?_; conv => whnf)
 | (refine W.ret ?_; conv => whnf)
 | (refine W.skip ?_; conv => whnf)
 | (refine W.exit ?_; conv => whnf)
 | (refine call_at (al := false) (hb1) rfl rfl rfl rfl ?_; conv => whnf)

    | (refine W.cond rfl (fun hb => ?_) (fun hb => ?_) <;> (try simp only [Int.reduceToNat, Int.reduceTDiv, Int.reduceTMod, minL, maxL, pickB, zHB] at hb) <;> (try (first | (cases hb; done) | exact absurd hb (by decide) | (exfalso; omega) | (exact absurd hb hcm))))
    | ((with_reducible refine And.intro ?_ ?_); (focus ((repeat' (first | (with_reducible rfl) | (with_reducible refine And.intro ?_ ?_) | omega | rfl | exact Or.inl rfl | exact Or.inr rfl | exact of_decide_eq_true rfl | exact Path.imp_of (of_decide_eq_true rfl) | (focus ((try simp only [Int.reduceToNat, Int.reduceTDiv, Int.reduceTMod, minL, maxL, pickB, zHB, InK, Path.imp, List.length_replicate, List.length_set, List.length_append, List.length_cons, List.length_nil] at *); omega)) | (refine app_le rfl ?_; omega))); done)); (conv => whnf))
    | ((with_reducible refine And.intro (Side.out ?_) ?_); rotate_left; (conv => whnf))
    | (refine retF1 ?_ <;> (conv => whnf) <;> repeat' (first
 | exact trivial
 | (with_reducible rfl)
 | ((with_reducible refine And.intro ?_ ?_) <;> conv => whnf)
 | omega
 | rfl
 | (refine congrArg (SV.arr _) ?_)
 | (refine congrArg (Value.int _) ?_)
 | (refine congrArg Value.bool ?_)))
 | (refine retF2 ?_ <;> (conv => whnf) <;> repeat' (first
 | exact trivial
 | (with_reducible rfl)
 | ((with_reducible refine And.intro ?_ ?_) <;> conv => whnf)
 | omega
 | rfl
 | (refine congrArg (SV.arr _) ?_)
 | (refine congrArg (Value.int _) ?_)
 | (refine congrArg Value.bool ?_)))); all_goals (try unfold Side)
        all_goals try (repeat' (first | (with_reducible rfl) | (with_reducible refine And.intro ?_ ?_) | omega | rfl | exact Or.inl rfl | exact Or.inr rfl | exact of_decide_eq_true rfl | exact Path.imp_of (of_decide_eq_true rfl) | (focus ((try simp only [Int.reduceToNat, Int.reduceTDiv, Int.reduceTMod, minL, maxL, pickB, zHB, InK, Path.imp, List.length_replicate, List.length_set, List.length_append, List.length_cons, List.length_nil] at *); omega)) | (refine app_le rfl ?_; omega)))
        refine W.loop (fun y : Nat => ⟨[(4, .padr 900004 0), (6, .fn 55 [.padr 900004 0]), (27, .lit (.int .i64 (n))), (28, .lit (.int .i64 (x))), (7, .lit (.int .i64 (x))), (37, .lit (.int .i64 (x))), (38, .lit (.int .i64 (y)))], [(900004, .box1 (.st false (curveT n w)))]⟩) (fun y => y ≤ x ∧ (∀ b, b < y → C2 w n x b)) (fun y => x - y) (0) ?_ ?_
        · refine ⟨⟨Nat.zero_le _, by omega⟩, ?_⟩
          refine subF.ok ?_ <;> (conv => whnf) <;> repeat' (first
 | exact trivial
 | (with_reducible rfl)
 | ((with_reducible refine And.intro ?_ ?_) <;> conv => whnf)
 | omega
 | rfl
 | (refine congrArg (SV.arr _) ?_)
 | (refine congrArg (Value.int _) ?_)
 | (refine congrArg Value.bool ?_))
        · rintro y ⟨hy, hcy⟩
          by_cases hyx : y < x
          · have hb2 := hcb x y hxn (by omega)
            have hi2 := hci x y hxn (by omega)
            by_cases hc : C2 w n x y
            · have hkl : ¬ (interT w x y = false ∧ (cmnK w x y n : Int).tmod 2 = 1) := fun hh => (bmod x y).1 hh.2 (hc hh.1)
              repeat' (first
 | refine W.seq ?_
 | refine W.block ?_
 | (refine W.region tys_ok [] ?_; conv => whnf)
 | (refine W.drawAll tys_ok [] mixed rfl ?_; conv => whnf)
 | (refine W.ret ?_; conv => whnf)
 | (refine W.skip ?_; conv => whnf)
 | (refine W.exit ?_; conv => whnf)
 | (refine call_at (al := false) (hi2) rfl rfl rfl rfl ?_; conv => whnf)
 | (refine call_at (al := false) (hb2) rfl rfl rfl rfl ?_; conv => whnf)

    | (refine W.cond rfl (fun hb => ?_) (fun hb => ?_) <;> (try simp only [Int.reduceToNat, Int.reduceTDiv, Int.reduceTMod, minL, maxL, pickB, zHB] at hb) <;> (try (first | (cases hb; done) | exact absurd hb (by decide) | (exfalso; omega) | (exact absurd hb hkl))))
    | ((with_reducible refine And.intro ?_ ?_); (focus ((repeat' (first | (with_reducible rfl) | (with_reducible refine And.intro ?_ ?_) | omega | rfl | exact Or.inl rfl | exact Or.inr rfl | exact of_decide_eq_true rfl | exact Path.imp_of (of_decide_eq_true rfl) | (focus ((try simp only [Int.reduceToNat, Int.reduceTDiv, Int.reduceTMod, minL, maxL, pickB, zHB, InK, Path.imp, List.length_replicate, List.length_set, List.length_append, List.length_cons, List.length_nil] at *); omega)) | (refine app_le rfl ?_; omega))); done)); (conv => whnf))
    | ((with_reducible refine And.intro (Side.out ?_) ?_); rotate_left; (conv => whnf))
    | (refine retF1 ?_ <;> (conv => whnf) <;> repeat' (first
 | exact trivial
 | (with_reducible rfl)
 | ((with_reducible refine And.intro ?_ ?_) <;> conv => whnf)
 | omega
 | rfl
 | (refine congrArg (SV.arr _) ?_)
 | (refine congrArg (Value.int _) ?_)
 | (refine congrArg Value.bool ?_)))
 | (refine retF2 ?_ <;> (conv => whnf) <;> repeat' (first
 | exact trivial
 | (with_reducible rfl)
 | ((with_reducible refine And.intro ?_ ?_) <;> conv => whnf)
 | omega
 | rfl
 | (refine congrArg (SV.arr _) ?_)
 | (refine congrArg (Value.int _) ?_)
 | (refine congrArg Value.bool ?_)))); all_goals (try unfold Side)
              all_goals try (repeat' (first | (with_reducible rfl) | (with_reducible refine And.intro ?_ ?_) | omega | rfl | exact Or.inl rfl | exact Or.inr rfl | exact of_decide_eq_true rfl | exact Path.imp_of (of_decide_eq_true rfl) | (focus ((try simp only [Int.reduceToNat, Int.reduceTDiv, Int.reduceTMod, minL, maxL, pickB, zHB, InK, Path.imp, List.length_replicate, List.length_set, List.length_append, List.length_cons, List.length_nil] at *); omega)) | (refine app_le rfl ?_; omega)))
              refine ⟨y + 1, ⟨⟨by omega, fun b hb => ?_⟩, by omega⟩, ?_⟩
              · by_cases e : b = y
                · subst e; exact hc
                · exact hcy b (by omega)
              · refine subF.ok ?_ <;> (conv => whnf) <;> repeat' (first
 | exact trivial
 | (with_reducible rfl)
 | ((with_reducible refine And.intro ?_ ?_) <;> conv => whnf)
 | omega
 | rfl
 | (refine congrArg (SV.arr _) ?_)
 | (refine congrArg (Value.int _) ?_)
 | (refine congrArg Value.bool ?_))
            · have hno := no2 x y hyx hxn hc
              have hkl : interT w x y = false ∧ (cmnK w x y n : Int).tmod 2 = 1 := by
                refine ⟨?_, (bmod x y).2 fun he => hc fun _ => he⟩
                cases hi : interT w x y with
                | false => rfl
                | true => exact absurd (fun (h : interT w x y = false) => by rw [hi] at h; cases h) hc
              repeat' (first
 | refine W.seq ?_
 | refine W.block ?_
 | (refine W.region tys_ok [] ?_; conv => whnf)
 | (refine W.drawAll tys_ok [] mixed rfl ?_; conv => whnf)
 | (refine W.ret ?_; conv => whnf)
 | (refine W.skip ?_; conv => whnf)
 | (refine W.exit ?_; conv => whnf)
 | (refine call_at (al := false) (hi2) rfl rfl rfl rfl ?_; conv => whnf)
 | (refine call_at (al := false) (hb2) rfl rfl rfl rfl ?_; conv => whnf)

    | (refine W.cond rfl (fun hb => ?_) (fun hb => ?_) <;> (try simp only [Int.reduceToNat, Int.reduceTDiv, Int.reduceTMod, minL, maxL, pickB, zHB] at hb) <;> (try (first | (cases hb; done) | exact absurd hb (by decide) | (exfalso; omega) | (rcases hb with hb | hb; exact absurd (hb.symm.trans hkl.1) (by decide); exact absurd hkl.2 hb))))
    | ((with_reducible refine And.intro ?_ ?_); (focus ((repeat' (first | (with_reducible rfl) | (with_reducible refine And.intro ?_ ?_) | omega | rfl | exact Or.inl rfl | exact Or.inr rfl | exact of_decide_eq_true rfl | exact Path.imp_of (of_decide_eq_true rfl) | (focus ((try simp only [Int.reduceToNat, Int.reduceTDiv, Int.reduceTMod, minL, maxL, pickB, zHB, InK, Path.imp, List.length_replicate, List.length_set, List.length_append, List.length_cons, List.length_nil] at *); omega)) | (refine app_le rfl ?_; omega))); done)); (conv => whnf))
    | ((with_reducible refine And.intro (Side.out ?_) ?_); rotate_left; (conv => whnf))
    | (refine retF1 ?_ <;> (conv => whnf) <;> repeat' (first
 | exact trivial
 | (with_reducible rfl)
 | ((with_reducible refine And.intro ?_ ?_) <;> conv => whnf)
 | omega
 | rfl
 | (refine congrArg (SV.arr _) ?_)
 | (refine congrArg (Value.int _) ?_)
 | (refine congrArg Value.bool ?_)))
 | (refine retF2 ?_ <;> (conv => whnf) <;> repeat' (first
 | exact trivial
 | (with_reducible rfl)
 | ((with_reducible refine And.intro ?_ ?_) <;> conv => whnf)
 | omega
 | rfl
 | (refine congrArg (SV.arr _) ?_)
 | (refine congrArg (Value.int _) ?_)
 | (refine congrArg Value.bool ?_)))); all_goals (try unfold Side)
              all_goals try (repeat' (first | (with_reducible rfl) | (with_reducible refine And.intro ?_ ?_) | omega | rfl | exact Or.inl rfl | exact Or.inr rfl | exact of_decide_eq_true rfl | exact Path.imp_of (of_decide_eq_true rfl) | (focus ((try simp only [Int.reduceToNat, Int.reduceTDiv, Int.reduceTMod, minL, maxL, pickB, zHB, InK, Path.imp, List.length_replicate, List.length_set, List.length_append, List.length_cons, List.length_nil] at *); omega)) | (refine app_le rfl ?_; omega)))
              all_goals exact hno.symm
          · have hye : x = y := by omega
            subst hye
            repeat' (first
 | refine W.seq ?_
 | refine W.block ?_
 | (refine W.region tys_ok [] ?_; conv => whnf)
 | (refine W.drawAll tys_ok [] mixed rfl ?_; conv => whnf)
 | (refine W.ret ?_; conv => whnf)
 | (refine W.skip ?_; conv => whnf)
 | (refine W.exit ?_; conv => whnf)

    | (refine W.cond rfl (fun hb => ?_) (fun hb => ?_) <;> (try simp only [Int.reduceToNat, Int.reduceTDiv, Int.reduceTMod, minL, maxL, pickB, zHB] at hb) <;> (try (first | (cases hb; done) | exact absurd hb (by decide) | (exfalso; omega))))
    | ((with_reducible refine And.intro ?_ ?_); (focus ((repeat' (first | (with_reducible rfl) | (with_reducible refine And.intro ?_ ?_) | omega | rfl | exact Or.inl rfl | exact Or.inr rfl | exact of_decide_eq_true rfl | exact Path.imp_of (of_decide_eq_true rfl) | (focus ((try simp only [Int.reduceToNat, Int.reduceTDiv, Int.reduceTMod, minL, maxL, pickB, zHB, InK, Path.imp, List.length_replicate, List.length_set, List.length_append, List.length_cons, List.length_nil] at *); omega)) | (refine app_le rfl ?_; omega))); done)); (conv => whnf))
    | ((with_reducible refine And.intro (Side.out ?_) ?_); rotate_left; (conv => whnf))
    | (refine retF1 ?_ <;> (conv => whnf) <;> repeat' (first
 | exact trivial
 | (with_reducible rfl)
 | ((with_reducible refine And.intro ?_ ?_) <;> conv => whnf)
 | omega
 | rfl
 | (refine congrArg (SV.arr _) ?_)
 | (refine congrArg (Value.int _) ?_)
 | (refine congrArg Value.bool ?_)))
 | (refine retF2 ?_ <;> (conv => whnf) <;> repeat' (first
 | exact trivial
 | (with_reducible rfl)
 | ((with_reducible refine And.intro ?_ ?_) <;> conv => whnf)
 | omega
 | rfl
 | (refine congrArg (SV.arr _) ?_)
 | (refine congrArg (Value.int _) ?_)
 | (refine congrArg Value.bool ?_)))); all_goals (try unfold Side)
            all_goals try (repeat' (first | (with_reducible rfl) | (with_reducible refine And.intro ?_ ?_) | omega | rfl | exact Or.inl rfl | exact Or.inr rfl | exact of_decide_eq_true rfl | exact Path.imp_of (of_decide_eq_true rfl) | (focus ((try simp only [Int.reduceToNat, Int.reduceTDiv, Int.reduceTMod, minL, maxL, pickB, zHB, InK, Path.imp, List.length_replicate, List.length_set, List.length_append, List.length_cons, List.length_nil] at *); omega)) | (refine app_le rfl ?_; omega)))
            refine ⟨x + 1, ⟨⟨by omega, fun a ha => ?_, fun a b hba ha => ?_⟩, by omega⟩, ?_⟩
            · by_cases e : a = x
              · subst e; exact hcx
              · exact hc1 a (by omega)
            · by_cases e : a = x
              · subst e; exact hcy b hba
              · exact hc2 a b hba (by omega)
            · refine subF.ok ?_ <;> (conv => whnf) <;> repeat' (first
 | exact trivial
 | (with_reducible rfl)
 | ((with_reducible refine And.intro ?_ ?_) <;> conv => whnf)
 | omega
 | rfl
 | (refine congrArg (SV.arr _) ?_)
 | (refine congrArg (Value.int _) ?_)
 | (refine congrArg Value.bool ?_))
      · have hcm : (cmnK w x x n : Int).tmod 2 = 1 := (bmod x x).2 hcx
        have hno := no1 x hxn hcx
        repeat' (first
 | refine W.seq ?_
 | refine W.block ?_
 | (refine W.region tys_ok [] ?_; conv => whnf)
 | (refine W.drawAll tys_ok [] mixed rfl ?_; conv => whnf)
 | (refine W.ret ?_; conv => whnf)
 | (refine W.skip ?_; conv => whnf)
 | (refine W.exit ?_; conv => whnf)
 | (refine call_at (al := false) (hb1) rfl rfl rfl rfl ?_; conv => whnf)

    | (refine W.cond rfl (fun hb => ?_) (fun hb => ?_) <;> (try simp only [Int.reduceToNat, Int.reduceTDiv, Int.reduceTMod, minL, maxL, pickB, zHB] at hb) <;> (try (first | (cases hb; done) | exact absurd hb (by decide) | (exfalso; omega) | (exact absurd hcm hb))))
    | ((with_reducible refine And.intro ?_ ?_); (focus ((repeat' (first | (with_reducible rfl) | (with_reducible refine And.intro ?_ ?_) | omega | rfl | exact Or.inl rfl | exact Or.inr rfl | exact of_decide_eq_true rfl | exact Path.imp_of (of_decide_eq_true rfl) | (focus ((try simp only [Int.reduceToNat, Int.reduceTDiv, Int.reduceTMod, minL, maxL, pickB, zHB, InK, Path.imp, List.length_replicate, List.length_set, List.length_append, List.length_cons, List.length_nil] at *); omega)) | (refine app_le rfl ?_; omega))); done)); (conv => whnf))
    | ((with_reducible refine And.intro (Side.out ?_) ?_); rotate_left; (conv => whnf))
    | (refine retF1 ?_ <;> (conv => whnf) <;> repeat' (first
 | exact trivial
 | (with_reducible rfl)
 | ((with_reducible refine And.intro ?_ ?_) <;> conv => whnf)
 | omega
 | rfl
 | (refine congrArg (SV.arr _) ?_)
 | (refine congrArg (Value.int _) ?_)
 | (refine congrArg Value.bool ?_)))
 | (refine retF2 ?_ <;> (conv => whnf) <;> repeat' (first
 | exact trivial
 | (with_reducible rfl)
 | ((with_reducible refine And.intro ?_ ?_) <;> conv => whnf)
 | omega
 | rfl
 | (refine congrArg (SV.arr _) ?_)
 | (refine congrArg (Value.int _) ?_)
 | (refine congrArg Value.bool ?_)))); all_goals (try unfold Side)
        all_goals try (repeat' (first | (with_reducible rfl) | (with_reducible refine And.intro ?_ ?_) | omega | rfl | exact Or.inl rfl | exact Or.inr rfl | exact of_decide_eq_true rfl | exact Path.imp_of (of_decide_eq_true rfl) | (focus ((try simp only [Int.reduceToNat, Int.reduceTDiv, Int.reduceTMod, minL, maxL, pickB, zHB, InK, Path.imp, List.length_replicate, List.length_set, List.length_append, List.length_cons, List.length_nil] at *); omega)) | (refine app_le rfl ?_; omega)))
        all_goals exact hno.symm
    · have hxe : n = x := by omega
      subst hxe
      have clv0 : ClV w n 0 (List.replicate n (-1)) := ⟨fun x z hx hz h0 => by
          have : (List.replicate n (-1 : Int)).getD x 0 = -1 := by simp [List.getD, hx]
          omega, ⟨by simp, fun x hx => .inl (by simp [List.getD, hx])⟩, by omega⟩
      repeat' (first
 | refine W.seq ?_
 | refine W.block ?_
 | (refine W.region tys_ok [] ?_; conv => whnf)
 | (refine W.drawAll tys_ok [] mixed rfl ?_; conv => whnf)
 | (refine W.ret ?_; conv => whnf)
 | (refine W.skip ?_; conv => whnf)
 | (refine W.exit ?_; conv => whnf)
 | (refine call_at (al := false) (hrep) rfl rfl rfl rfl ?_; conv => whnf)

    | (refine W.cond rfl (fun hb => ?_) (fun hb => ?_) <;> (try simp only [Int.reduceToNat, Int.reduceTDiv, Int.reduceTMod, minL, maxL, pickB, zHB] at hb) <;> (try (first | (cases hb; done) | exact absurd hb (by decide) | (exfalso; omega))))
    | ((with_reducible refine And.intro ?_ ?_); (focus ((repeat' (first | (with_reducible rfl) | (with_reducible refine And.intro ?_ ?_) | omega | rfl | exact Or.inl rfl | exact Or.inr rfl | exact of_decide_eq_true rfl | exact Path.imp_of (of_decide_eq_true rfl) | (focus ((try simp only [Int.reduceToNat, Int.reduceTDiv, Int.reduceTMod, minL, maxL, pickB, zHB, InK, Path.imp, List.length_replicate, List.length_set, List.length_append, List.length_cons, List.length_nil] at *); omega)) | (refine app_le rfl ?_; omega))); done)); (conv => whnf))
    | ((with_reducible refine And.intro (Side.out ?_) ?_); rotate_left; (conv => whnf))
    | (refine retF1 ?_ <;> (conv => whnf) <;> repeat' (first
 | exact trivial
 | (with_reducible rfl)
 | ((with_reducible refine And.intro ?_ ?_) <;> conv => whnf)
 | omega
 | rfl
 | (refine congrArg (SV.arr _) ?_)
 | (refine congrArg (Value.int _) ?_)
 | (refine congrArg Value.bool ?_)))
 | (refine retF2 ?_ <;> (conv => whnf) <;> repeat' (first
 | exact trivial
 | (with_reducible rfl)
 | ((with_reducible refine And.intro ?_ ?_) <;> conv => whnf)
 | omega
 | rfl
 | (refine congrArg (SV.arr _) ?_)
 | (refine congrArg (Value.int _) ?_)
 | (refine congrArg Value.bool ?_)))); all_goals (try unfold Side)
      all_goals try (repeat' (first | (with_reducible rfl) | (with_reducible refine And.intro ?_ ?_) | omega | rfl | exact Or.inl rfl | exact Or.inr rfl | exact of_decide_eq_true rfl | exact Path.imp_of (of_decide_eq_true rfl) | (focus ((try simp only [Int.reduceToNat, Int.reduceTDiv, Int.reduceTMod, minL, maxL, pickB, zHB, InK, Path.imp, List.length_replicate, List.length_set, List.length_append, List.length_cons, List.length_nil] at *); omega)) | (refine app_le rfl ?_; omega)))
      refine W.loop (fun z : List Int × Nat => ⟨[(4, .padr 900004 0), (6, .fn 55 [.padr 900004 0]), (9, .own 900009), (65, .lit (.int .i64 (n))), (66, .lit (.int .i64 (z.2)))], [(900004, .box1 (.st false (curveT n w))), (900009, .row 3 (.int .i64) true (z.1 : List Int))]⟩) (fun z => z.2 ≤ n ∧ ClV w n z.2 z.1) (fun z => n - z.2) ((List.replicate n (-1), 0)) ?_ ?_
      · refine ⟨⟨Nat.zero_le _, clv0⟩, ?_⟩
        refine subF.ok ?_ <;> (conv => whnf) <;> repeat' (first
 | exact trivial
 | (with_reducible rfl)
 | ((with_reducible refine And.intro ?_ ?_) <;> conv => whnf)
 | omega
 | rfl
 | (refine congrArg (SV.arr _) ?_)
 | (refine congrArg (Value.int _) ?_)
 | (refine congrArg Value.bool ?_))
      · rintro ⟨s, f⟩ ⟨hf, hcv⟩
        dsimp only at hf hcv ⊢
        have hsl : @List.length (Ty.int .i64).T s = n := hcv.va.len
        by_cases hfn : f < n
        · by_cases hsf : 0 ≤ s.getD f 0
          · repeat' (first
 | refine W.seq ?_
 | refine W.block ?_
 | (refine W.region tys_ok [] ?_; conv => whnf)
 | (refine W.drawAll tys_ok [] mixed rfl ?_; conv => whnf)
 | (refine W.ret ?_; conv => whnf)
 | (refine W.skip ?_; conv => whnf)
 | (refine W.exit ?_; conv => whnf)

    | (refine W.cond rfl (fun hb => ?_) (fun hb => ?_) <;> (try simp only [Int.reduceToNat, Int.reduceTDiv, Int.reduceTMod, minL, maxL, pickB, zHB] at hb) <;> (try (first | (cases hb; done) | exact absurd hb (by decide) | (exfalso; omega))))
    | ((with_reducible refine And.intro ?_ ?_); (focus ((repeat' (first | (with_reducible rfl) | (with_reducible refine And.intro ?_ ?_) | omega | rfl | exact Or.inl rfl | exact Or.inr rfl | exact of_decide_eq_true rfl | exact Path.imp_of (of_decide_eq_true rfl) | (focus ((try simp only [Int.reduceToNat, Int.reduceTDiv, Int.reduceTMod, minL, maxL, pickB, zHB, InK, Path.imp, List.length_replicate, List.length_set, List.length_append, List.length_cons, List.length_nil] at *); omega)) | (refine app_le rfl ?_; omega))); done)); (conv => whnf))
    | ((with_reducible refine And.intro (Side.out ?_) ?_); rotate_left; (conv => whnf))
    | (refine retF1 ?_ <;> (conv => whnf) <;> repeat' (first
 | exact trivial
 | (with_reducible rfl)
 | ((with_reducible refine And.intro ?_ ?_) <;> conv => whnf)
 | omega
 | rfl
 | (refine congrArg (SV.arr _) ?_)
 | (refine congrArg (Value.int _) ?_)
 | (refine congrArg Value.bool ?_)))
 | (refine retF2 ?_ <;> (conv => whnf) <;> repeat' (first
 | exact trivial
 | (with_reducible rfl)
 | ((with_reducible refine And.intro ?_ ?_) <;> conv => whnf)
 | omega
 | rfl
 | (refine congrArg (SV.arr _) ?_)
 | (refine congrArg (Value.int _) ?_)
 | (refine congrArg Value.bool ?_)))); all_goals (try unfold Side)
            all_goals try (repeat' (first | (with_reducible rfl) | (with_reducible refine And.intro ?_ ?_) | omega | rfl | exact Or.inl rfl | exact Or.inr rfl | exact of_decide_eq_true rfl | exact Path.imp_of (of_decide_eq_true rfl) | (focus ((try simp only [Int.reduceToNat, Int.reduceTDiv, Int.reduceTMod, minL, maxL, pickB, zHB, InK, Path.imp, List.length_replicate, List.length_set, List.length_append, List.length_cons, List.length_nil] at *); omega)) | (refine app_le rfl ?_; omega)))
            refine ⟨(s, f + 1), ⟨⟨by omega, hcv.clo, hcv.va, fun a ha => ?_⟩, by omega⟩, ?_⟩
            · by_cases e : a = f
              · subst e; exact hsf
              · exact hcv.all a (by omega)
            · refine subF.ok ?_ <;> (conv => whnf) <;> repeat' (first
 | exact trivial
 | (with_reducible rfl)
 | ((with_reducible refine And.intro ?_ ?_) <;> conv => whnf)
 | omega
 | rfl
 | (refine congrArg (SV.arr _) ?_)
 | (refine congrArg (Value.int _) ?_)
 | (refine congrArg Value.bool ?_))
          · have hini := Rd.init (n := n) (g := gD w) (e := eD w n) (s0 := s) hcv.va hfn (by omega)
            repeat' (first
 | refine W.seq ?_
 | refine W.block ?_
 | (refine W.region tys_ok [] ?_; conv => whnf)
 | (refine W.drawAll tys_ok [] mixed rfl ?_; conv => whnf)
 | (refine W.ret ?_; conv => whnf)
 | (refine W.skip ?_; conv => whnf)
 | (refine W.exit ?_; conv => whnf)

    | (refine W.cond rfl (fun hb => ?_) (fun hb => ?_) <;> (try simp only [Int.reduceToNat, Int.reduceTDiv, Int.reduceTMod, minL, maxL, pickB, zHB] at hb) <;> (try (first | (cases hb; done) | exact absurd hb (by decide) | (exfalso; omega))))
    | ((with_reducible refine And.intro ?_ ?_); (focus ((repeat' (first | (with_reducible rfl) | (with_reducible refine And.intro ?_ ?_) | omega | rfl | exact Or.inl rfl | exact Or.inr rfl | exact of_decide_eq_true rfl | exact Path.imp_of (of_decide_eq_true rfl) | (focus ((try simp only [Int.reduceToNat, Int.reduceTDiv, Int.reduceTMod, minL, maxL, pickB, zHB, InK, Path.imp, List.length_replicate, List.length_set, List.length_append, List.length_cons, List.length_nil] at *); omega)) | (refine app_le rfl ?_; omega))); done)); (conv => whnf))
    | ((with_reducible refine And.intro (Side.out ?_) ?_); rotate_left; (conv => whnf))
    | (refine retF1 ?_ <;> (conv => whnf) <;> repeat' (first
 | exact trivial
 | (with_reducible rfl)
 | ((with_reducible refine And.intro ?_ ?_) <;> conv => whnf)
 | omega
 | rfl
 | (refine congrArg (SV.arr _) ?_)
 | (refine congrArg (Value.int _) ?_)
 | (refine congrArg Value.bool ?_)))
 | (refine retF2 ?_ <;> (conv => whnf) <;> repeat' (first
 | exact trivial
 | (with_reducible rfl)
 | ((with_reducible refine And.intro ?_ ?_) <;> conv => whnf)
 | omega
 | rfl
 | (refine congrArg (SV.arr _) ?_)
 | (refine congrArg (Value.int _) ?_)
 | (refine congrArg Value.bool ?_)))); all_goals (try unfold Side)
            all_goals try (repeat' (first | (with_reducible rfl) | (with_reducible refine And.intro ?_ ?_) | omega | rfl | exact Or.inl rfl | exact Or.inr rfl | exact of_decide_eq_true rfl | exact Path.imp_of (of_decide_eq_true rfl) | (focus ((try simp only [Int.reduceToNat, Int.reduceTDiv, Int.reduceTMod, minL, maxL, pickB, zHB, InK, Path.imp, List.length_replicate, List.length_set, List.length_append, List.length_cons, List.length_nil] at *); omega)) | (refine app_le rfl ?_; omega)))
            refine W.loop (fun z : List Int × List Int × Nat => ⟨[(4, .padr 900004 0), (6, .fn 55 [.padr 900004 0]), (9, .own 900009), (65, .lit (.int .i64 (n))), (66, .lit (.int .i64 (f))), (11, .own 900011)], [(900004, .box1 (.st false (curveT n w))), (900009, .row 3 (.int .i64) true (z.1 : List Int)), (900011, .que 3 .i64 (z.2.1.drop z.2.2))]⟩) (fun z => Rd n (gD w) (eD w n) s z.1 z.2.1 z.2.2 0 ∧ 0 ≤ z.1.getD f 0) (fun z => n - z.2.2) ((s.set f 0, [(f : Int)], 0)) ?_ ?_
            · refine ⟨⟨hini, by rw [set_get (by rw [hcv.va.len]; exact hfn), if_pos rfl]; exact Int.le_refl _⟩, ?_⟩
              refine subF.ok ?_ <;> (conv => whnf) <;> repeat' (first
 | exact trivial
 | (with_reducible rfl)
 | ((with_reducible refine And.intro ?_ ?_) <;> conv => whnf)
 | omega
 | rfl
 | (refine congrArg (SV.arr _) ?_)
 | (refine congrArg (Value.int _) ?_)
 | (refine congrArg Value.bool ?_))
              all_goals exact fun e => by cases e
            · rintro ⟨s1, H, k⟩ ⟨hrd, hsf1⟩
              dsimp only at hrd hsf1 ⊢
              have hkl := hrd.kl
              have hHl := hrd.len
              have hdl : @List.length Int (H.drop k) = H.length - k := List.length_drop
              have hs1l : @List.length (Ty.int .i64).T s1 = n := hrd.va.len
              by_cases hk : k < H.length
              · obtain ⟨x, hx, hxn, hxv, hx0, hxm⟩ := hrd.at hk
                have hgx : (H.drop k).getD 0 0 = (x : Int) := by rw [← hx]; simp [List.getD]
                repeat' (first
 | refine W.seq ?_
 | refine W.block ?_
 | (refine W.region tys_ok [0, 83] ?_; conv => whnf)
 | (refine W.drawAll tys_ok [0, 83] mixed rfl ?_; conv => whnf)
 | (refine W.ret ?_; conv => whnf)
 | (refine W.skip ?_; conv => whnf)
 | (refine W.exit ?_; conv => whnf)

    | (refine W.cond rfl (fun hb => ?_) (fun hb => ?_) <;> (try simp only [Int.reduceToNat, Int.reduceTDiv, Int.reduceTMod, minL, maxL, pickB, zHB] at hb) <;> (try (first | (cases hb; done) | exact absurd hb (by decide) | (exfalso; omega))))
    | ((with_reducible refine And.intro ?_ ?_); (focus ((repeat' (first | (with_reducible rfl) | (with_reducible refine And.intro ?_ ?_) | omega | rfl | exact Or.inl rfl | exact Or.inr rfl | exact of_decide_eq_true rfl | exact Path.imp_of (of_decide_eq_true rfl) | (focus ((try simp only [Int.reduceToNat, Int.reduceTDiv, Int.reduceTMod, minL, maxL, pickB, zHB, InK, Path.imp, List.length_replicate, List.length_set, List.length_append, List.length_cons, List.length_nil] at *); omega)) | (refine app_le rfl ?_; omega))); done)); (conv => whnf))
    | ((with_reducible refine And.intro (Side.out ?_) ?_); rotate_left; (conv => whnf))
    | (refine retF1 ?_ <;> (conv => whnf) <;> repeat' (first
 | exact trivial
 | (with_reducible rfl)
 | ((with_reducible refine And.intro ?_ ?_) <;> conv => whnf)
 | omega
 | rfl
 | (refine congrArg (SV.arr _) ?_)
 | (refine congrArg (Value.int _) ?_)
 | (refine congrArg Value.bool ?_)))
 | (refine retF2 ?_ <;> (conv => whnf) <;> repeat' (first
 | exact trivial
 | (with_reducible rfl)
 | ((with_reducible refine And.intro ?_ ?_) <;> conv => whnf)
 | omega
 | rfl
 | (refine congrArg (SV.arr _) ?_)
 | (refine congrArg (Value.int _) ?_)
 | (refine congrArg Value.bool ?_)))); all_goals (try unfold Side)
                all_goals try (repeat' (first | (with_reducible rfl) | (with_reducible refine And.intro ?_ ?_) | omega | rfl | exact Or.inl rfl | exact Or.inr rfl | exact of_decide_eq_true rfl | exact Path.imp_of (of_decide_eq_true rfl) | (focus ((try simp only [Int.reduceToNat, Int.reduceTDiv, Int.reduceTMod, minL, maxL, pickB, zHB, InK, Path.imp, List.length_replicate, List.length_set, List.length_append, List.length_cons, List.length_nil] at *); omega)) | (refine app_le rfl ?_; omega)))
                refine W.loop (fun v : List Int × List Int × Nat => ⟨[(4, .padr 900004 0), (6, .fn 55 [.padr 900004 0]), (9, .own 900009), (65, .lit (.int .i64 (n))), (66, .lit (.int .i64 (f))), (11, .own 900011), (12, .lit (.int .i64 (x))), (90, .lit (.int .i64 (n))), (91, .lit (.int .i64 (v.2.2)))], [(900004, .box1 (.st false (curveT n w))), (900009, .row 3 (.int .i64) true (v.1 : List Int)), (900011, .que 3 .i64 (v.2.1.drop k))]⟩) (fun v => v.2.2 ≤ n ∧ Rd n (gD w) (eD w n) s v.1 v.2.1 k v.2.2 ∧ k < v.2.1.length ∧ v.2.1.getD k 0 = (x : Int) ∧ 0 ≤ v.1.getD f 0) (fun v => n - v.2.2) ((s1, H, 0)) ?_ ?_
                · refine ⟨⟨Nat.zero_le _, hrd, hk, hx, hsf1⟩, ?_⟩
                  refine subF.ok ?_ <;> (conv => whnf) <;> repeat' (first
 | exact trivial
 | (with_reducible rfl)
 | ((with_reducible refine And.intro ?_ ?_) <;> conv => whnf)
 | omega
 | rfl
 | (refine congrArg (SV.arr _) ?_)
 | (refine congrArg (Value.int _) ?_)
 | (refine congrArg Value.bool ?_))
                  all_goals exact hgx
                · rintro ⟨s2, H2, y⟩ ⟨hy, hr2, hk2, hx2, hsf2⟩
                  dsimp only at hy hr2 hk2 hx2 hsf2 ⊢
                  obtain ⟨x', hx', _, hxv2, _, _⟩ := hr2.at hk2
                  have hxx : x' = x := by omega
                  subst hxx
                  have hs2l : @List.length (Ty.int .i64).T s2 = n := hr2.va.len
                  have hdl2 : @List.length Int (H2.drop k) = H2.length - k := List.length_drop
                  have hH2l := hr2.len
                  by_cases hyn : y < n
                  · have hb2 := hcb x' y hxn hyn
                    have hi2 := hci x' y hxn hyn
                    have hbl := cmnK_le (w := w) (x := x') (y := y) (k := n)
                    have hw := wt_eD (w := w) (n := n) (y := y) hxv2
                    have hwv : wt (eD w n) s2 x' y = 0 ∨ wt (eD w n) s2 x' y = 1 := by
                      unfold wt; split <;> rcases hxv2 with h | h <;> omega
                    cases hi : interT w x' y with
                    | false =>
                      rw [hi] at hi2
                      repeat' (first
 | refine W.seq ?_
 | refine W.block ?_
 | (refine W.region tys_ok [] ?_; conv => whnf)
 | (refine W.drawAll tys_ok [] mixed rfl ?_; conv => whnf)
 | (refine W.ret ?_; conv => whnf)
 | (refine W.skip ?_; conv => whnf)
 | (refine W.exit ?_; conv => whnf)
 | (refine call_at (al := false) (hi2) rfl rfl rfl rfl ?_; conv => whnf)
 | (refine call_at (al := false) (hb2) rfl rfl rfl rfl ?_; conv => whnf)

    | (refine W.cond rfl (fun hb => ?_) (fun hb => ?_) <;> (try simp only [Int.reduceToNat, Int.reduceTDiv, Int.reduceTMod, minL, maxL, pickB, zHB] at hb) <;> (try (first | (cases hb; done) | exact absurd hb (by decide) | (exfalso; omega))))
    | ((with_reducible refine And.intro ?_ ?_); (focus ((repeat' (first | (with_reducible rfl) | (with_reducible refine And.intro ?_ ?_) | omega | rfl | exact Or.inl rfl | exact Or.inr rfl | exact of_decide_eq_true rfl | exact Path.imp_of (of_decide_eq_true rfl) | (focus ((try simp only [Int.reduceToNat, Int.reduceTDiv, Int.reduceTMod, minL, maxL, pickB, zHB, InK, Path.imp, List.length_replicate, List.length_set, List.length_append, List.length_cons, List.length_nil] at *); omega)) | (refine app_le rfl ?_; omega))); done)); (conv => whnf))
    | ((with_reducible refine And.intro (Side.out ?_) ?_); rotate_left; (conv => whnf))
    | (refine retF1 ?_ <;> (conv => whnf) <;> repeat' (first
 | exact trivial
 | (with_reducible rfl)
 | ((with_reducible refine And.intro ?_ ?_) <;> conv => whnf)
 | omega
 | rfl
 | (refine congrArg (SV.arr _) ?_)
 | (refine congrArg (Value.int _) ?_)
 | (refine congrArg Value.bool ?_)))
 | (refine retF2 ?_ <;> (conv => whnf) <;> repeat' (first
 | exact trivial
 | (with_reducible rfl)
 | ((with_reducible refine And.intro ?_ ?_) <;> conv => whnf)
 | omega
 | rfl
 | (refine congrArg (SV.arr _) ?_)
 | (refine congrArg (Value.int _) ?_)
 | (refine congrArg Value.bool ?_)))); all_goals (try unfold Side)
                      all_goals try (repeat' (first | (with_reducible rfl) | (with_reducible refine And.intro ?_ ?_) | omega | rfl | exact Or.inl rfl | exact Or.inr rfl | exact of_decide_eq_true rfl | exact Path.imp_of (of_decide_eq_true rfl) | (focus ((try simp only [Int.reduceToNat, Int.reduceTDiv, Int.reduceTMod, minL, maxL, pickB, zHB, InK, Path.imp, List.length_replicate, List.length_set, List.length_append, List.length_cons, List.length_nil] at *); omega)) | (refine app_le rfl ?_; omega)))
                      refine ⟨(s2, H2, y + 1), ⟨⟨hyn, hr2.skip hx2 fun h => ?_, hk2, hx2, hsf2⟩, by dsimp only; omega⟩, ?_⟩
                      · unfold gD at h; rw [hi] at h; cases h
                      · refine subF.ok ?_ <;> (conv => whnf) <;> repeat' (first
 | exact trivial
 | (with_reducible rfl)
 | ((with_reducible refine And.intro ?_ ?_) <;> conv => whnf)
 | omega
 | rfl
 | (refine congrArg (SV.arr _) ?_)
 | (refine congrArg (Value.int _) ?_)
 | (refine congrArg Value.bool ?_))
                    | true =>
                      rw [hi] at hi2
                      have hgt : gD w x' y = true := hi
                      have hyv := hr2.va.val y hyn
                      by_cases hneg : s2.getD y 0 = -1
                      · have hput := hr2.put hk2 hx2 hyn hgt (by omega)
                        have happ : H2.drop k ++ [(y : Int)] = (H2 ++ [(y : Int)]).drop k := by rw [List.drop_append_of_le_length (by omega)]
                        have hset : (s2.set y ((s2.getD x' 0 + 1 + (cmnK w x' y n : Int)).tmod 2)) = s2.set y (wt (eD w n) s2 x' y) := by rw [hw]
                        have hkh : k < (H2 ++ [(y : Int)]).length := by rw [List.length_append]; omega
                        have hxh : (H2 ++ [(y : Int)]).getD k 0 = (x' : Int) := by rw [getD_app, if_pos hk2]; exact hx2
                        have hsf3 : 0 ≤ (s2.set y (wt (eD w n) s2 x' y)).getD f 0 := by
                          rw [set_get (by rw [hr2.va.len]; exact hyn)]
                          split
                          · omega
                          · exact hsf2
                        repeat' (first
 | refine W.seq ?_
 | refine W.block ?_
 | (refine W.drawPh (id := 31) tys_ok [] mixed [0, 0, 3, 4, 8, 0, 0, 0, 224, 272, 512, 2047] [([0, 1, 2, 5, 6, 7], 3, 511), ([9, 10, 11], 0, 4095)] (by decide +kernel) ?_; conv => whnf)
 | (refine W.region tys_ok [] ?_; conv => whnf)
 | (refine W.drawAll tys_ok [] mixed rfl ?_; conv => whnf)
 | (refine W.ret ?_; conv => whnf)
 | (refine W.skip ?_; conv => whnf)
 | (refine W.exit ?_; conv => whnf)
 | (refine call_at (al := false) (hi2) rfl rfl rfl rfl ?_; conv => whnf)
 | (refine call_at (al := false) (hb2) rfl rfl rfl rfl ?_; conv => whnf)

    | (refine Both.mk ?_ ?_ <;> (conv => whnf))
    | (refine subF.leaf ?_ <;> (conv => whnf) <;> repeat' (first
 | exact trivial
 | (with_reducible rfl)
 | ((with_reducible refine And.intro ?_ ?_) <;> conv => whnf)
 | omega
 | rfl
 | (refine congrArg (SV.arr _) ?_)
 | (refine congrArg (Value.int _) ?_)
 | (refine congrArg Value.bool ?_)))
 | (refine subF.side ?_ <;> (conv => whnf) <;> repeat' (first
 | exact trivial
 | (with_reducible rfl)
 | ((with_reducible refine And.intro ?_ ?_) <;> conv => whnf)
 | omega
 | rfl
 | (refine congrArg (SV.arr _) ?_)
 | (refine congrArg (Value.int _) ?_)
 | (refine congrArg Value.bool ?_)))
 | (refine W.cond rfl (fun hb => ?_) (fun hb => ?_) <;> (try simp only [Int.reduceToNat, Int.reduceTDiv, Int.reduceTMod, minL, maxL, pickB, zHB] at hb) <;> (try (first | (cases hb; done) | exact absurd hb (by decide) | (exfalso; omega) | (exact absurd hneg hb))))
 | ((with_reducible refine And.intro ?_ ?_); (focus ((repeat' (first | (with_reducible rfl) | (with_reducible refine And.intro ?_ ?_) | omega | rfl | exact Or.inl rfl | exact Or.inr rfl | exact of_decide_eq_true rfl | exact Path.imp_of (of_decide_eq_true rfl) | (focus ((try simp only [Int.reduceToNat, Int.reduceTDiv, Int.reduceTMod, minL, maxL, pickB, zHB, InK, Path.imp, List.length_replicate, List.length_set, List.length_append, List.length_cons, List.length_nil] at *); omega)) | (refine app_le rfl ?_; omega))); done)); (conv => whnf))
 | ((with_reducible refine And.intro (Side.out ?_) ?_); rotate_left; (conv => whnf))
 | (refine retF1 ?_ <;> (conv => whnf) <;> repeat' (first
 | exact trivial
 | (with_reducible rfl)
 | ((with_reducible refine And.intro ?_ ?_) <;> conv => whnf)
 | omega
 | rfl
 | (refine congrArg (SV.arr _) ?_)
 | (refine congrArg (Value.int _) ?_)
 | (refine congrArg Value.bool ?_)))
 | (refine retF2 ?_ <;> (conv => whnf) <;> repeat' (first
 | exact trivial
 | (with_reducible rfl)
 | ((with_reducible refine And.intro ?_ ?_) <;> conv => whnf)
 | omega
 | rfl
 | (refine congrArg (SV.arr _) ?_)
 | (refine congrArg (Value.int _) ?_)
 | (refine congrArg Value.bool ?_)))); all_goals (try unfold Side)
                        all_goals try (repeat' (first | (with_reducible rfl) | (with_reducible refine And.intro ?_ ?_) | omega | rfl | exact Or.inl rfl | exact Or.inr rfl | exact of_decide_eq_true rfl | exact Path.imp_of (of_decide_eq_true rfl) | (focus ((try simp only [Int.reduceToNat, Int.reduceTDiv, Int.reduceTMod, minL, maxL, pickB, zHB, InK, Path.imp, List.length_replicate, List.length_set, List.length_append, List.length_cons, List.length_nil] at *); omega)) | (refine app_le rfl ?_; omega)))
                        all_goals (refine ⟨(s2.set y (wt (eD w n) s2 x' y), H2 ++ [(y : Int)], y + 1), ⟨⟨hyn, hput, hkh, hxh, hsf3⟩, by dsimp only; omega⟩, ?_⟩)
                        all_goals refine subF.ok ?_ <;> (conv => whnf) <;> repeat' (first
 | exact trivial
 | (with_reducible rfl)
 | ((with_reducible refine And.intro ?_ ?_) <;> conv => whnf)
 | omega
 | rfl
 | (refine congrArg (SV.arr _) ?_)
 | (refine congrArg (Value.int _) ?_)
 | (refine congrArg Value.bool ?_))
                        all_goals first | exact happ | exact hset | trace_state
                      · by_cases hwe : s2.getD y 0 = wt (eD w n) s2 x' y
                        · have hwe2 : s2.getD y 0 = (s2.getD x' 0 + 1 + (cmnK w x' y n : Int)).tmod 2 := by rw [hw]; exact hwe
                          repeat' (first
 | refine W.seq ?_
 | refine W.block ?_
 | (refine W.drawPh (id := 31) tys_ok [] mixed [0, 0, 3, 4, 8, 0, 0, 0, 224, 272, 512, 2047] [([0, 1, 2, 5, 6, 7], 3, 511), ([9, 10, 11], 0, 4095)] (by decide +kernel) ?_; conv => whnf)
 | (refine W.region tys_ok [] ?_; conv => whnf)
 | (refine W.drawAll tys_ok [] mixed rfl ?_; conv => whnf)
 | (refine W.ret ?_; conv => whnf)
 | (refine W.skip ?_; conv => whnf)
 | (refine W.exit ?_; conv => whnf)
 | (refine call_at (al := false) (hi2) rfl rfl rfl rfl ?_; conv => whnf)
 | (refine call_at (al := false) (hb2) rfl rfl rfl rfl ?_; conv => whnf)

    | (refine Both.mk ?_ ?_ <;> (conv => whnf))
    | (refine subF.leaf ?_ <;> (conv => whnf) <;> repeat' (first
 | exact trivial
 | (with_reducible rfl)
 | ((with_reducible refine And.intro ?_ ?_) <;> conv => whnf)
 | omega
 | rfl
 | (refine congrArg (SV.arr _) ?_)
 | (refine congrArg (Value.int _) ?_)
 | (refine congrArg Value.bool ?_)))
 | (refine subF.side ?_ <;> (conv => whnf) <;> repeat' (first
 | exact trivial
 | (with_reducible rfl)
 | ((with_reducible refine And.intro ?_ ?_) <;> conv => whnf)
 | omega
 | rfl
 | (refine congrArg (SV.arr _) ?_)
 | (refine congrArg (Value.int _) ?_)
 | (refine congrArg Value.bool ?_)))
 | (refine W.cond rfl (fun hb => ?_) (fun hb => ?_) <;> (try simp only [Int.reduceToNat, Int.reduceTDiv, Int.reduceTMod, minL, maxL, pickB, zHB] at hb) <;> (try (first | (cases hb; done) | exact absurd hb (by decide) | (exfalso; omega) | (exact absurd hb hneg) | (exact absurd hwe2 hb))))
 | ((with_reducible refine And.intro ?_ ?_); (focus ((repeat' (first | (with_reducible rfl) | (with_reducible refine And.intro ?_ ?_) | omega | rfl | exact Or.inl rfl | exact Or.inr rfl | exact of_decide_eq_true rfl | exact Path.imp_of (of_decide_eq_true rfl) | (focus ((try simp only [Int.reduceToNat, Int.reduceTDiv, Int.reduceTMod, minL, maxL, pickB, zHB, InK, Path.imp, List.length_replicate, List.length_set, List.length_append, List.length_cons, List.length_nil] at *); omega)) | (refine app_le rfl ?_; omega))); done)); (conv => whnf))
 | ((with_reducible refine And.intro (Side.out ?_) ?_); rotate_left; (conv => whnf))
 | (refine retF1 ?_ <;> (conv => whnf) <;> repeat' (first
 | exact trivial
 | (with_reducible rfl)
 | ((with_reducible refine And.intro ?_ ?_) <;> conv => whnf)
 | omega
 | rfl
 | (refine congrArg (SV.arr _) ?_)
 | (refine congrArg (Value.int _) ?_)
 | (refine congrArg Value.bool ?_)))
 | (refine retF2 ?_ <;> (conv => whnf) <;> repeat' (first
 | exact trivial
 | (with_reducible rfl)
 | ((with_reducible refine And.intro ?_ ?_) <;> conv => whnf)
 | omega
 | rfl
 | (refine congrArg (SV.arr _) ?_)
 | (refine congrArg (Value.int _) ?_)
 | (refine congrArg Value.bool ?_)))); all_goals (try unfold Side)
                          all_goals try (repeat' (first | (with_reducible rfl) | (with_reducible refine And.intro ?_ ?_) | omega | rfl | exact Or.inl rfl | exact Or.inr rfl | exact of_decide_eq_true rfl | exact Path.imp_of (of_decide_eq_true rfl) | (focus ((try simp only [Int.reduceToNat, Int.reduceTDiv, Int.reduceTMod, minL, maxL, pickB, zHB, InK, Path.imp, List.length_replicate, List.length_set, List.length_append, List.length_cons, List.length_nil] at *); omega)) | (refine app_le rfl ?_; omega)))
                          all_goals (refine ⟨(s2, H2, y + 1), ⟨⟨hyn, hr2.skip hx2 fun _ => ⟨by omega, hwe⟩, hk2, hx2, hsf2⟩, by dsimp only; omega⟩, ?_⟩)
                          all_goals refine subF.ok ?_ <;> (conv => whnf) <;> repeat' (first
 | exact trivial
 | (with_reducible rfl)
 | ((with_reducible refine And.intro ?_ ?_) <;> conv => whnf)
 | omega
 | rfl
 | (refine congrArg (SV.arr _) ?_)
 | (refine congrArg (Value.int _) ?_)
 | (refine congrArg Value.bool ?_))
                        · have hwe2 : ¬ s2.getD y 0 = (s2.getD x' 0 + 1 + (cmnK w x' y n : Int)).tmod 2 := by rw [hw]; exact hwe
                          have hno := no3 fun ⟨d, hd⟩ => hr2.bad (gD_symm h) hcv.clo hk2 hx2 hyn hgt (by omega) hwe d hd
                          repeat' (first
 | refine W.seq ?_
 | refine W.block ?_
 | (refine W.drawPh (id := 31) tys_ok [] mixed [0, 0, 3, 4, 8, 0, 0, 0, 224, 272, 512, 2047] [([0, 1, 2, 5, 6, 7], 3, 511), ([9, 10, 11], 0, 4095)] (by decide +kernel) ?_; conv => whnf)
 | (refine W.region tys_ok [] ?_; conv => whnf)
 | (refine W.drawAll tys_ok [] mixed rfl ?_; conv => whnf)
 | (refine W.ret ?_; conv => whnf)
 | (refine W.skip ?_; conv => whnf)
 | (refine W.exit ?_; conv => whnf)
 | (refine call_at (al := false) (hi2) rfl rfl rfl rfl ?_; conv => whnf)
 | (refine call_at (al := false) (hb2) rfl rfl rfl rfl ?_; conv => whnf)

    | (refine Both.mk ?_ ?_ <;> (conv => whnf))
    | (refine subF.leaf ?_ <;> (conv => whnf) <;> repeat' (first
 | exact trivial
 | (with_reducible rfl)
 | ((with_reducible refine And.intro ?_ ?_) <;> conv => whnf)
 | omega
 | rfl
 | (refine congrArg (SV.arr _) ?_)
 | (refine congrArg (Value.int _) ?_)
 | (refine congrArg Value.bool ?_)))
 | (refine subF.side ?_ <;> (conv => whnf) <;> repeat' (first
 | exact trivial
 | (with_reducible rfl)
 | ((with_reducible refine And.intro ?_ ?_) <;> conv => whnf)
 | omega
 | rfl
 | (refine congrArg (SV.arr _) ?_)
 | (refine congrArg (Value.int _) ?_)
 | (refine congrArg Value.bool ?_)))
 | (refine W.cond rfl (fun hb => ?_) (fun hb => ?_) <;> (try simp only [Int.reduceToNat, Int.reduceTDiv, Int.reduceTMod, minL, maxL, pickB, zHB] at hb) <;> (try (first | (cases hb; done) | exact absurd hb (by decide) | (exfalso; omega) | (exact absurd hb hneg) | (exact absurd hb hwe2))))
 | ((with_reducible refine And.intro ?_ ?_); (focus ((repeat' (first | (with_reducible rfl) | (with_reducible refine And.intro ?_ ?_) | omega | rfl | exact Or.inl rfl | exact Or.inr rfl | exact of_decide_eq_true rfl | exact Path.imp_of (of_decide_eq_true rfl) | (focus ((try simp only [Int.reduceToNat, Int.reduceTDiv, Int.reduceTMod, minL, maxL, pickB, zHB, InK, Path.imp, List.length_replicate, List.length_set, List.length_append, List.length_cons, List.length_nil] at *); omega)) | (refine app_le rfl ?_; omega))); done)); (conv => whnf))
 | ((with_reducible refine And.intro (Side.out ?_) ?_); rotate_left; (conv => whnf))
 | (refine retF1 ?_ <;> (conv => whnf) <;> repeat' (first
 | exact trivial
 | (with_reducible rfl)
 | ((with_reducible refine And.intro ?_ ?_) <;> conv => whnf)
 | omega
 | rfl
 | (refine congrArg (SV.arr _) ?_)
 | (refine congrArg (Value.int _) ?_)
 | (refine congrArg Value.bool ?_)))
 | (refine retF2 ?_ <;> (conv => whnf) <;> repeat' (first
 | exact trivial
 | (with_reducible rfl)
 | ((with_reducible refine And.intro ?_ ?_) <;> conv => whnf)
 | omega
 | rfl
 | (refine congrArg (SV.arr _) ?_)
 | (refine congrArg (Value.int _) ?_)
 | (refine congrArg Value.bool ?_)))); all_goals (try unfold Side)
                          all_goals try (repeat' (first | (with_reducible rfl) | (with_reducible refine And.intro ?_ ?_) | omega | rfl | exact Or.inl rfl | exact Or.inr rfl | exact of_decide_eq_true rfl | exact Path.imp_of (of_decide_eq_true rfl) | (focus ((try simp only [Int.reduceToNat, Int.reduceTDiv, Int.reduceTMod, minL, maxL, pickB, zHB, InK, Path.imp, List.length_replicate, List.length_set, List.length_append, List.length_cons, List.length_nil] at *); omega)) | (refine app_le rfl ?_; omega)))
                          all_goals exact hno.symm
                  · have hye : n = y := by omega
                    subst hye
                    have hnx := hr2.next hk2
                    have hdd : (H2.drop k).drop 1 = H2.drop (k + 1) := by rw [List.drop_drop]
                    repeat' (first
 | refine W.seq ?_
 | refine W.block ?_
 | (refine W.region tys_ok [0, 83] ?_; conv => whnf)
 | (refine W.drawAll tys_ok [0, 83] mixed rfl ?_; conv => whnf)
 | (refine W.ret ?_; conv => whnf)
 | (refine W.skip ?_; conv => whnf)
 | (refine W.exit ?_; conv => whnf)

    | (refine W.cond rfl (fun hb => ?_) (fun hb => ?_) <;> (try simp only [Int.reduceToNat, Int.reduceTDiv, Int.reduceTMod, minL, maxL, pickB, zHB] at hb) <;> (try (first | (cases hb; done) | exact absurd hb (by decide) | (exfalso; omega))))
    | ((with_reducible refine And.intro ?_ ?_); (focus ((repeat' (first | (with_reducible rfl) | (with_reducible refine And.intro ?_ ?_) | omega | rfl | exact Or.inl rfl | exact Or.inr rfl | exact of_decide_eq_true rfl | exact Path.imp_of (of_decide_eq_true rfl) | (focus ((try simp only [Int.reduceToNat, Int.reduceTDiv, Int.reduceTMod, minL, maxL, pickB, zHB, InK, Path.imp, List.length_replicate, List.length_set, List.length_append, List.length_cons, List.length_nil] at *); omega)) | (refine app_le rfl ?_; omega))); done)); (conv => whnf))
    | ((with_reducible refine And.intro (Side.out ?_) ?_); rotate_left; (conv => whnf))
    | (refine retF1 ?_ <;> (conv => whnf) <;> repeat' (first
 | exact trivial
 | (with_reducible rfl)
 | ((with_reducible refine And.intro ?_ ?_) <;> conv => whnf)
 | omega
 | rfl
 | (refine congrArg (SV.arr _) ?_)
 | (refine congrArg (Value.int _) ?_)
 | (refine congrArg Value.bool ?_)))
 | (refine retF2 ?_ <;> (conv => whnf) <;> repeat' (first
 | exact trivial
 | (with_reducible rfl)
 | ((with_reducible refine And.intro ?_ ?_) <;> conv => whnf)
 | omega
 | rfl
 | (refine congrArg (SV.arr _) ?_)
 | (refine congrArg (Value.int _) ?_)
 | (refine congrArg Value.bool ?_)))); all_goals (try unfold Side)
                    all_goals try (repeat' (first | (with_reducible rfl) | (with_reducible refine And.intro ?_ ?_) | omega | rfl | exact Or.inl rfl | exact Or.inr rfl | exact of_decide_eq_true rfl | exact Path.imp_of (of_decide_eq_true rfl) | (focus ((try simp only [Int.reduceToNat, Int.reduceTDiv, Int.reduceTMod, minL, maxL, pickB, zHB, InK, Path.imp, List.length_replicate, List.length_set, List.length_append, List.length_cons, List.length_nil] at *); omega)) | (refine app_le rfl ?_; omega)))
                    refine ⟨(s2, H2, k + 1), ⟨⟨hnx, hsf2⟩, by dsimp only; omega⟩, ?_⟩
                    refine subF.ok ?_ <;> (conv => whnf) <;> repeat' (first
 | exact trivial
 | (with_reducible rfl)
 | ((with_reducible refine And.intro ?_ ?_) <;> conv => whnf)
 | omega
 | rfl
 | (refine congrArg (SV.arr _) ?_)
 | (refine congrArg (Value.int _) ?_)
 | (refine congrArg Value.bool ?_))
                    all_goals exact hdd
              · have hke : k = H.length := by omega
                subst hke
                have hd := hrd.done hcv.clo
                have hdn : @List.length Int (H.drop H.length) = 0 := by simp
                repeat' (first
 | refine W.seq ?_
 | refine W.block ?_
 | (refine W.region tys_ok [] ?_; conv => whnf)
 | (refine W.drawAll tys_ok [] mixed rfl ?_; conv => whnf)
 | (refine W.ret ?_; conv => whnf)
 | (refine W.skip ?_; conv => whnf)
 | (refine W.exit ?_; conv => whnf)

    | (refine W.cond rfl (fun hb => ?_) (fun hb => ?_) <;> (try simp only [Int.reduceToNat, Int.reduceTDiv, Int.reduceTMod, minL, maxL, pickB, zHB] at hb) <;> (try (first | (cases hb; done) | exact absurd hb (by decide) | (exfalso; omega))))
    | ((with_reducible refine And.intro ?_ ?_); (focus ((repeat' (first | (with_reducible rfl) | (with_reducible refine And.intro ?_ ?_) | omega | rfl | exact Or.inl rfl | exact Or.inr rfl | exact of_decide_eq_true rfl | exact Path.imp_of (of_decide_eq_true rfl) | (focus ((try simp only [Int.reduceToNat, Int.reduceTDiv, Int.reduceTMod, minL, maxL, pickB, zHB, InK, Path.imp, List.length_replicate, List.length_set, List.length_append, List.length_cons, List.length_nil] at *); omega)) | (refine app_le rfl ?_; omega))); done)); (conv => whnf))
    | ((with_reducible refine And.intro (Side.out ?_) ?_); rotate_left; (conv => whnf))
    | (refine retF1 ?_ <;> (conv => whnf) <;> repeat' (first
 | exact trivial
 | (with_reducible rfl)
 | ((with_reducible refine And.intro ?_ ?_) <;> conv => whnf)
 | omega
 | rfl
 | (refine congrArg (SV.arr _) ?_)
 | (refine congrArg (Value.int _) ?_)
 | (refine congrArg Value.bool ?_)))
 | (refine retF2 ?_ <;> (conv => whnf) <;> repeat' (first
 | exact trivial
 | (with_reducible rfl)
 | ((with_reducible refine And.intro ?_ ?_) <;> conv => whnf)
 | omega
 | rfl
 | (refine congrArg (SV.arr _) ?_)
 | (refine congrArg (Value.int _) ?_)
 | (refine congrArg Value.bool ?_)))); all_goals (try unfold Side)
                all_goals try (repeat' (first | (with_reducible rfl) | (with_reducible refine And.intro ?_ ?_) | omega | rfl | exact Or.inl rfl | exact Or.inr rfl | exact of_decide_eq_true rfl | exact Path.imp_of (of_decide_eq_true rfl) | (focus ((try simp only [Int.reduceToNat, Int.reduceTDiv, Int.reduceTMod, minL, maxL, pickB, zHB, InK, Path.imp, List.length_replicate, List.length_set, List.length_append, List.length_cons, List.length_nil] at *); omega)) | (refine app_le rfl ?_; omega)))
                refine ⟨(s1, f + 1), ⟨⟨hfn, hd, hrd.va, fun a ha => ?_⟩, by dsimp only; omega⟩, ?_⟩
                · have ha : a < f + 1 := ha
                  by_cases e : a = f
                  · subst e; exact hsf1
                  · have := hrd.old a (by omega) (hcv.all a (by omega))
                    rw [this]; exact hcv.all a (by omega)
                · refine subF.ok ?_ <;> (conv => whnf) <;> repeat' (first
 | exact trivial
 | (with_reducible rfl)
 | ((with_reducible refine And.intro ?_ ?_) <;> conv => whnf)
 | omega
 | rfl
 | (refine congrArg (SV.arr _) ?_)
 | (refine congrArg (Value.int _) ?_)
 | (refine congrArg Value.bool ?_))
        · have hfe : n = f := by omega
          subst hfe
          have hy := yes hc1 hc2 ⟨_, hcv.clo.valid hcv.va hcv.all⟩
          repeat' (first
 | refine W.seq ?_
 | refine W.block ?_
 | (refine W.region tys_ok [] ?_; conv => whnf)
 | (refine W.drawAll tys_ok [] mixed rfl ?_; conv => whnf)
 | (refine W.ret ?_; conv => whnf)
 | (refine W.skip ?_; conv => whnf)
 | (refine W.exit ?_; conv => whnf)

    | (refine W.cond rfl (fun hb => ?_) (fun hb => ?_) <;> (try simp only [Int.reduceToNat, Int.reduceTDiv, Int.reduceTMod, minL, maxL, pickB, zHB] at hb) <;> (try (first | (cases hb; done) | exact absurd hb (by decide) | (exfalso; omega))))
    | ((with_reducible refine And.intro ?_ ?_); (focus ((repeat' (first | (with_reducible rfl) | (with_reducible refine And.intro ?_ ?_) | omega | rfl | exact Or.inl rfl | exact Or.inr rfl | exact of_decide_eq_true rfl | exact Path.imp_of (of_decide_eq_true rfl) | (focus ((try simp only [Int.reduceToNat, Int.reduceTDiv, Int.reduceTMod, minL, maxL, pickB, zHB, InK, Path.imp, List.length_replicate, List.length_set, List.length_append, List.length_cons, List.length_nil] at *); omega)) | (refine app_le rfl ?_; omega))); done)); (conv => whnf))
    | ((with_reducible refine And.intro (Side.out ?_) ?_); rotate_left; (conv => whnf))
    | (refine retF1 ?_ <;> (conv => whnf) <;> repeat' (first
 | exact trivial
 | (with_reducible rfl)
 | ((with_reducible refine And.intro ?_ ?_) <;> conv => whnf)
 | omega
 | rfl
 | (refine congrArg (SV.arr _) ?_)
 | (refine congrArg (Value.int _) ?_)
 | (refine congrArg Value.bool ?_)))
 | (refine retF2 ?_ <;> (conv => whnf) <;> repeat' (first
 | exact trivial
 | (with_reducible rfl)
 | ((with_reducible refine And.intro ?_ ?_) <;> conv => whnf)
 | omega
 | rfl
 | (refine congrArg (SV.arr _) ?_)
 | (refine congrArg (Value.int _) ?_)
 | (refine congrArg Value.bool ?_)))); all_goals (try unfold Side)
          all_goals try (repeat' (first | (with_reducible rfl) | (with_reducible refine And.intro ?_ ?_) | omega | rfl | exact Or.inl rfl | exact Or.inr rfl | exact of_decide_eq_true rfl | exact Path.imp_of (of_decide_eq_true rfl) | (focus ((try simp only [Int.reduceToNat, Int.reduceTDiv, Int.reduceTMod, minL, maxL, pickB, zHB, InK, Path.imp, List.length_replicate, List.length_set, List.length_append, List.length_cons, List.length_nil] at *); omega)) | (refine app_le rfl ?_; omega)))
          all_goals exact hy.symm
end Go.Proofs.Ytdfajcfkdfjoeaa
/- The step that follows a step. No condition. -/
namespace Go.Scr
set_option linter.unusedVariables false
set_option linter.unusedSimpArgs false

/-- The place at which a step ends. -/
def atT (m : Nat) (st : Int) : Int := if 0 ≤ st then (st + 1).tmod m else -1 - st
/-- The step that follows a step. -/
def nextT (w s : List Int) (st : Int) : Int :=
  let a := atT w.length st
  let v := w.getD a.toNat 0
  let p := (placesT w v).getD 0 0
  let q := (placesT w v).getD 1 0
  if decide (0 ≤ st) == (decide (s.getD v.toNat 0 = 1) == decide (a = p)) then -1 - (p + q - a + w.length - 1).tmod w.length else p + q - a
/-- What is known of the end of a step. -/
structure At (w s : List Int) (n : Nat) (st : Int) (a x p q : Nat) : Prop where
  ha : a < 2 * n
  at_ : atT (2 * n) st = a
  hx : x < n
  wa : w.getD a 0 = x
  pq : p < q
  hq : q < 2 * n
  pl : placesT w x = [(p : Int), (q : Int)]
  hp : a = p ∨ a = q
  sg : s.getD x 0 = 1 ∨ s.getD x 0 = -1
  nx : nextT w s st = if decide (0 ≤ st) == (decide (s.getD x 0 = 1) == decide (a = p)) then -1 - ((p : Int) + q - a + (2 * n : Nat) - 1).tmod (2 * n : Nat) else (p : Int) + q - a
theorem atT_lt {m : Nat} {st : Int} (hm : 0 < m) (h0 : -(m : Int) ≤ st) (h1 : st < m) : 0 ≤ atT m st ∧ atT m st < m := by
  unfold atT
  split
  · exact ⟨Int.tmod_nonneg _ (by omega), Int.tmod_lt_of_pos _ (by omega)⟩
  · omega
theorem at_of {w s : List Int} {n : Nat} (h : Word w n) (hs : s.all (fun x => decide (x = 1) || decide (x = -1)) = true) (hl : s.length = n) {st : Int} (h0 : -((2 * n : Nat) : Int) ≤ st) (h1 : st < (2 * n : Nat)) : ∃ a x p q, At w s n st a x p q := by
  have hp1 := h.pos
  have ha := atT_lt (m := 2 * n) (by omega) h0 h1
  obtain ⟨a, ha'⟩ : ∃ a : Nat, atT (2 * n) st = a := ⟨(atT (2 * n) st).toNat, by omega⟩
  have han : a < 2 * n := by omega
  have hx := h.rg a han
  obtain ⟨x, hx'⟩ : ∃ x : Nat, w.getD a 0 = x := ⟨(w.getD a 0).toNat, by omega⟩
  have hxn : x < n := by omega
  obtain ⟨p, q, hpq, hq, hpl, _, _, hall⟩ := h.places hxn
  refine ⟨a, x, p, q, han, ha', hxn, hx', hpq, hq, hpl, hall a han hx', ?_, ?_⟩
  · have hm : s.getD x 0 ∈ s := by rw [List.getD_eq_getElem?_getD, List.getElem?_eq_getElem (by omega)]; exact List.getElem_mem _
    have := List.all_eq_true.1 hs _ hm
    simpa using this
  · unfold nextT
    simp only [h.len, ha', Int.toNat_natCast, hx', hpl, List.getD_cons_zero, List.getD_cons_succ]
    have : decide ((a : Int) = p) = decide (a = p) := by rw [decide_eq_decide]; omega
    rw [this]
theorem At.rg {w s : List Int} {n : Nat} {st : Int} {a x p q : Nat} (h : At w s n st a x p q) : -((2 * n : Nat) : Int) ≤ nextT w s st ∧ nextT w s st < (2 * n : Nat) := by
  rw [h.nx]
  have h1 := h.hp; have h2 := h.hq; have h3 := h.pq
  split
  · have := Int.tmod_nonneg (a := (p : Int) + q - a + (2 * n : Nat) - 1) (2 * n : Nat) (by omega)
    have := Int.tmod_lt_of_pos ((p : Int) + q - a + (2 * n : Nat) - 1) (b := (2 * n : Nat)) (by omega)
    omega
  · omega
end Go.Scr
/- The step that follows a step: the program's and the document's. No condition. -/
namespace Go.Proofs.Ytdfajcfkdfjoeaa
open Go Go.Vc Go.Scr
set_option linter.unusedVariables false
set_option linter.unusedSimpArgs false

theorem around_p : FnAt Try.prog false 72 [.lit (.int .i64 1)] (.strct [.lit (.int .i64 0), .lit (.int .i64 2), .lit (.int .i64 1), .lit (.int .i64 3)]) [] := by
  refine FnAt.of_body tys_ok Try.func72 (by rfl) rfl Try.ntmps72 (by rw [Try.results72]) (by simp) ?_
  
  repeat' (first
 | refine W.seq ?_
 | refine W.block ?_
 | (refine W.region tys_ok [] ?_; conv => whnf)
 | (refine W.drawAll tys_ok [] mixed rfl ?_; conv => whnf)
 | (refine W.ret ?_; conv => whnf)
 | (refine W.skip ?_; conv => whnf)
 | (refine W.exit ?_; conv => whnf)

    | (refine W.cond rfl (fun hb => ?_) (fun hb => ?_) <;> (try simp only [Int.reduceToNat, Int.reduceTDiv, Int.reduceTMod, minL, maxL, pickB, zHB] at hb) <;> (try (first | (cases hb; done) | exact absurd hb (by decide) | (exfalso; omega))))
    | ((with_reducible refine And.intro ?_ ?_); (focus ((repeat' (first | (with_reducible rfl) | (with_reducible refine And.intro ?_ ?_) | omega | rfl | exact Or.inl rfl | exact Or.inr rfl | exact of_decide_eq_true rfl | exact Path.imp_of (of_decide_eq_true rfl) | (focus ((try simp only [Int.reduceToNat, Int.reduceTDiv, Int.reduceTMod, minL, maxL, pickB, zHB, InK, Path.imp, List.length_replicate, List.length_set, List.length_append, List.length_cons, List.length_nil] at *); omega)) | (refine app_le rfl ?_; omega))); done)); (conv => whnf))
    | ((with_reducible refine And.intro (Side.out ?_) ?_); rotate_left; (conv => whnf))
    | (refine retF1 ?_ <;> (conv => whnf) <;> repeat' (first
 | exact trivial
 | (with_reducible rfl)
 | ((with_reducible refine And.intro ?_ ?_) <;> conv => whnf)
 | omega
 | rfl
 | (refine congrArg (SV.arr _) ?_)
 | (refine congrArg (Value.int _) ?_)
 | (refine congrArg Value.bool ?_)))
 | (refine retF2 ?_ <;> (conv => whnf) <;> repeat' (first
 | exact trivial
 | (with_reducible rfl)
 | ((with_reducible refine And.intro ?_ ?_) <;> conv => whnf)
 | omega
 | rfl
 | (refine congrArg (SV.arr _) ?_)
 | (refine congrArg (Value.int _) ?_)
 | (refine congrArg Value.bool ?_)))); all_goals (try unfold Side)
  all_goals try (repeat' (first | (with_reducible rfl) | (with_reducible refine And.intro ?_ ?_) | omega | rfl | exact Or.inl rfl | exact Or.inr rfl | exact of_decide_eq_true rfl | exact Path.imp_of (of_decide_eq_true rfl) | (focus ((try simp only [Int.reduceToNat, Int.reduceTDiv, Int.reduceTMod, minL, maxL, pickB, zHB, InK, Path.imp, List.length_replicate, List.length_set, List.length_append, List.length_cons, List.length_nil] at *); omega)) | (refine app_le rfl ?_; omega)))
theorem around_m : FnAt Try.prog false 72 [.lit (.int .i64 (-1))] (.strct [.lit (.int .i64 0), .lit (.int .i64 3), .lit (.int .i64 1), .lit (.int .i64 2)]) [] := by
  refine FnAt.of_body tys_ok Try.func72 (by rfl) rfl Try.ntmps72 (by rw [Try.results72]) (by simp) ?_
  
  repeat' (first
 | refine W.seq ?_
 | refine W.block ?_
 | (refine W.region tys_ok [] ?_; conv => whnf)
 | (refine W.drawAll tys_ok [] mixed rfl ?_; conv => whnf)
 | (refine W.ret ?_; conv => whnf)
 | (refine W.skip ?_; conv => whnf)
 | (refine W.exit ?_; conv => whnf)

    | (refine W.cond rfl (fun hb => ?_) (fun hb => ?_) <;> (try simp only [Int.reduceToNat, Int.reduceTDiv, Int.reduceTMod, minL, maxL, pickB, zHB] at hb) <;> (try (first | (cases hb; done) | exact absurd hb (by decide) | (exfalso; omega))))
    | ((with_reducible refine And.intro ?_ ?_); (focus ((repeat' (first | (with_reducible rfl) | (with_reducible refine And.intro ?_ ?_) | omega | rfl | exact Or.inl rfl | exact Or.inr rfl | exact of_decide_eq_true rfl | exact Path.imp_of (of_decide_eq_true rfl) | (focus ((try simp only [Int.reduceToNat, Int.reduceTDiv, Int.reduceTMod, minL, maxL, pickB, zHB, InK, Path.imp, List.length_replicate, List.length_set, List.length_append, List.length_cons, List.length_nil] at *); omega)) | (refine app_le rfl ?_; omega))); done)); (conv => whnf))
    | ((with_reducible refine And.intro (Side.out ?_) ?_); rotate_left; (conv => whnf))
    | (refine retF1 ?_ <;> (conv => whnf) <;> repeat' (first
 | exact trivial
 | (with_reducible rfl)
 | ((with_reducible refine And.intro ?_ ?_) <;> conv => whnf)
 | omega
 | rfl
 | (refine congrArg (SV.arr _) ?_)
 | (refine congrArg (Value.int _) ?_)
 | (refine congrArg Value.bool ?_)))
 | (refine retF2 ?_ <;> (conv => whnf) <;> repeat' (first
 | exact trivial
 | (with_reducible rfl)
 | ((with_reducible refine And.intro ?_ ?_) <;> conv => whnf)
 | omega
 | rfl
 | (refine congrArg (SV.arr _) ?_)
 | (refine congrArg (Value.int _) ?_)
 | (refine congrArg Value.bool ?_)))); all_goals (try unfold Side)
  all_goals try (repeat' (first | (with_reducible rfl) | (with_reducible refine And.intro ?_ ?_) | omega | rfl | exact Or.inl rfl | exact Or.inr rfl | exact of_decide_eq_true rfl | exact Path.imp_of (of_decide_eq_true rfl) | (focus ((try simp only [Int.reduceToNat, Int.reduceTDiv, Int.reduceTMod, minL, maxL, pickB, zHB, InK, Path.imp, List.length_replicate, List.length_set, List.length_append, List.length_cons, List.length_nil] at *); omega)) | (refine app_le rfl ?_; omega)))
theorem index_at (xs : List Int) (v : Int) (hl : xs.length ≤ 1000) : FnAt Try.prog false 73 [.arr (.int .i64) xs, .lit (.int .i64 v)] (.lit (.int .i64 (fidx (fun x => decide (v = x)) 0 xs))) [] := by
  refine FnAt.of_body tys_ok Try.func73 (by rfl) rfl Try.ntmps73 (by rw [Try.results73]) (by simp) ?_
  
  repeat' (first
 | refine W.seq ?_
 | refine W.block ?_
 | (refine W.region tys_ok [] ?_; conv => whnf)
 | (refine W.drawAll tys_ok [] mixed rfl ?_; conv => whnf)
 | (refine W.ret ?_; conv => whnf)
 | (refine W.skip ?_; conv => whnf)
 | (refine W.exit ?_; conv => whnf)

    | (refine W.cond rfl (fun hb => ?_) (fun hb => ?_) <;> (try simp only [Int.reduceToNat, Int.reduceTDiv, Int.reduceTMod, minL, maxL, pickB, zHB] at hb) <;> (try (first | (cases hb; done) | exact absurd hb (by decide) | (exfalso; omega))))
    | ((with_reducible refine And.intro ?_ ?_); (focus ((repeat' (first | (with_reducible rfl) | (with_reducible refine And.intro ?_ ?_) | omega | rfl | exact Or.inl rfl | exact Or.inr rfl | exact of_decide_eq_true rfl | exact Path.imp_of (of_decide_eq_true rfl) | (focus ((try simp only [Int.reduceToNat, Int.reduceTDiv, Int.reduceTMod, minL, maxL, pickB, zHB, InK, Path.imp, List.length_replicate, List.length_set, List.length_append, List.length_cons, List.length_nil] at *); omega)) | (refine app_le rfl ?_; omega))); done)); (conv => whnf))
    | ((with_reducible refine And.intro (Side.out ?_) ?_); rotate_left; (conv => whnf))
    | (refine retF1 ?_ <;> (conv => whnf) <;> repeat' (first
 | exact trivial
 | (with_reducible rfl)
 | ((with_reducible refine And.intro ?_ ?_) <;> conv => whnf)
 | omega
 | rfl
 | (refine congrArg (SV.arr _) ?_)
 | (refine congrArg (Value.int _) ?_)
 | (refine congrArg Value.bool ?_)))
 | (refine retF2 ?_ <;> (conv => whnf) <;> repeat' (first
 | exact trivial
 | (with_reducible rfl)
 | ((with_reducible refine And.intro ?_ ?_) <;> conv => whnf)
 | omega
 | rfl
 | (refine congrArg (SV.arr _) ?_)
 | (refine congrArg (Value.int _) ?_)
 | (refine congrArg Value.bool ?_)))); all_goals (try unfold Side)
  refine W.loop (fun i : Nat => ⟨[(0, .st false (.arr (.int .i64) (xs : List Int))), (1, .lit (.int .i64 (v))), (7, .lit (.int .i64 (@List.length (Ty.int .i64).T xs))), (8, .lit (.int .i64 (i)))], []⟩) (fun i => i ≤ xs.length ∧ fidx (fun x => decide (v = x)) 0 xs = fidx (fun x => decide (v = x)) i (xs.drop i)) (fun i => xs.length - i) (0) ?_ ?_
  · refine ⟨⟨Nat.zero_le _, rfl⟩, ?_⟩
    refine subF.ok ?_ <;> (conv => whnf) <;> repeat' (first
 | exact trivial
 | (with_reducible rfl)
 | ((with_reducible refine And.intro ?_ ?_) <;> conv => whnf)
 | omega
 | rfl
 | (refine congrArg (SV.arr _) ?_)
 | (refine congrArg (Value.int _) ?_)
 | (refine congrArg Value.bool ?_))
  · rintro i ⟨hi, hv⟩
    by_cases hil : i < xs.length
    · rw [drop_getD 0 hil, fidx] at hv
      repeat' (first
 | refine W.seq ?_
 | refine W.block ?_
 | (refine W.region tys_ok [] ?_; conv => whnf)
 | (refine W.drawAll tys_ok [] mixed rfl ?_; conv => whnf)
 | (refine W.ret ?_; conv => whnf)
 | (refine W.skip ?_; conv => whnf)
 | (refine W.exit ?_; conv => whnf)

    | (refine W.cond rfl (fun hb => ?_) (fun hb => ?_) <;> (try simp only [Int.reduceToNat, Int.reduceTDiv, Int.reduceTMod, minL, maxL, pickB, zHB] at hb) <;> (try (first | (cases hb; done) | exact absurd hb (by decide) | (exfalso; omega))))
    | ((with_reducible refine And.intro ?_ ?_); (focus ((repeat' (first | (with_reducible rfl) | (with_reducible refine And.intro ?_ ?_) | omega | rfl | exact Or.inl rfl | exact Or.inr rfl | exact of_decide_eq_true rfl | exact Path.imp_of (of_decide_eq_true rfl) | (focus ((try simp only [Int.reduceToNat, Int.reduceTDiv, Int.reduceTMod, minL, maxL, pickB, zHB, InK, Path.imp, List.length_replicate, List.length_set, List.length_append, List.length_cons, List.length_nil] at *); omega)) | (refine app_le rfl ?_; omega))); done)); (conv => whnf))
    | ((with_reducible refine And.intro (Side.out ?_) ?_); rotate_left; (conv => whnf))
    | (refine retF1 ?_ <;> (conv => whnf) <;> repeat' (first
 | exact trivial
 | (with_reducible rfl)
 | ((with_reducible refine And.intro ?_ ?_) <;> conv => whnf)
 | omega
 | rfl
 | (refine congrArg (SV.arr _) ?_)
 | (refine congrArg (Value.int _) ?_)
 | (refine congrArg Value.bool ?_)))
 | (refine retF2 ?_ <;> (conv => whnf) <;> repeat' (first
 | exact trivial
 | (with_reducible rfl)
 | ((with_reducible refine And.intro ?_ ?_) <;> conv => whnf)
 | omega
 | rfl
 | (refine congrArg (SV.arr _) ?_)
 | (refine congrArg (Value.int _) ?_)
 | (refine congrArg Value.bool ?_)))); all_goals (try unfold Side)
      all_goals try (repeat' (first | (with_reducible rfl) | (with_reducible refine And.intro ?_ ?_) | omega | rfl | exact Or.inl rfl | exact Or.inr rfl | exact of_decide_eq_true rfl | exact Path.imp_of (of_decide_eq_true rfl) | (focus ((try simp only [Int.reduceToNat, Int.reduceTDiv, Int.reduceTMod, minL, maxL, pickB, zHB, InK, Path.imp, List.length_replicate, List.length_set, List.length_append, List.length_cons, List.length_nil] at *); omega)) | (refine app_le rfl ?_; omega)))
      · rw [hv, decide_eq_true hb]; rfl
      · refine ⟨i + 1, ⟨⟨by omega, ?_⟩, by omega⟩, ?_⟩
        · rw [hv, decide_eq_false hb]; rfl
        · refine subF.ok ?_ <;> (conv => whnf) <;> repeat' (first
 | exact trivial
 | (with_reducible rfl)
 | ((with_reducible refine And.intro ?_ ?_) <;> conv => whnf)
 | omega
 | rfl
 | (refine congrArg (SV.arr _) ?_)
 | (refine congrArg (Value.int _) ?_)
 | (refine congrArg Value.bool ?_))
    · have hie : xs.length = i := by omega
      subst hie
      rw [List.drop_length, fidx] at hv
      repeat' (first
 | refine W.seq ?_
 | refine W.block ?_
 | (refine W.region tys_ok [] ?_; conv => whnf)
 | (refine W.drawAll tys_ok [] mixed rfl ?_; conv => whnf)
 | (refine W.ret ?_; conv => whnf)
 | (refine W.skip ?_; conv => whnf)
 | (refine W.exit ?_; conv => whnf)

    | (refine W.cond rfl (fun hb => ?_) (fun hb => ?_) <;> (try simp only [Int.reduceToNat, Int.reduceTDiv, Int.reduceTMod, minL, maxL, pickB, zHB] at hb) <;> (try (first | (cases hb; done) | exact absurd hb (by decide) | (exfalso; omega))))
    | ((with_reducible refine And.intro ?_ ?_); (focus ((repeat' (first | (with_reducible rfl) | (with_reducible refine And.intro ?_ ?_) | omega | rfl | exact Or.inl rfl | exact Or.inr rfl | exact of_decide_eq_true rfl | exact Path.imp_of (of_decide_eq_true rfl) | (focus ((try simp only [Int.reduceToNat, Int.reduceTDiv, Int.reduceTMod, minL, maxL, pickB, zHB, InK, Path.imp, List.length_replicate, List.length_set, List.length_append, List.length_cons, List.length_nil] at *); omega)) | (refine app_le rfl ?_; omega))); done)); (conv => whnf))
    | ((with_reducible refine And.intro (Side.out ?_) ?_); rotate_left; (conv => whnf))
    | (refine retF1 ?_ <;> (conv => whnf) <;> repeat' (first
 | exact trivial
 | (with_reducible rfl)
 | ((with_reducible refine And.intro ?_ ?_) <;> conv => whnf)
 | omega
 | rfl
 | (refine congrArg (SV.arr _) ?_)
 | (refine congrArg (Value.int _) ?_)
 | (refine congrArg Value.bool ?_)))
 | (refine retF2 ?_ <;> (conv => whnf) <;> repeat' (first
 | exact trivial
 | (with_reducible rfl)
 | ((with_reducible refine And.intro ?_ ?_) <;> conv => whnf)
 | omega
 | rfl
 | (refine congrArg (SV.arr _) ?_)
 | (refine congrArg (Value.int _) ?_)
 | (refine congrArg Value.bool ?_)))); all_goals (try unfold Side)
      all_goals try (repeat' (first | (with_reducible rfl) | (with_reducible refine And.intro ?_ ?_) | omega | rfl | exact Or.inl rfl | exact Or.inr rfl | exact of_decide_eq_true rfl | exact Path.imp_of (of_decide_eq_true rfl) | (focus ((try simp only [Int.reduceToNat, Int.reduceTDiv, Int.reduceTMod, minL, maxL, pickB, zHB, InK, Path.imp, List.length_replicate, List.length_set, List.length_append, List.length_cons, List.length_nil] at *); omega)) | (refine app_le rfl ?_; omega)))
      all_goals exact hv.symm
theorem index_lit (xs : List Int) (v j : Int) (hl : xs.length ≤ 1000) (h : fidx (fun x => decide (v = x)) 0 xs = j) : FnAt Try.prog false 73 [.arr (.int .i64) xs, .lit (.int .i64 v)] (.lit (.int .i64 j)) [] := by
  rw [← h]; exact index_at xs v hl

set_option maxHeartbeats 4000000 in
theorem next_fpp {w s : List Int} {n x p q : Nat} {st : Int} (h : Word w n) (hn : n ≤ 10) (hl : s.length = n) (h0 : -((2 * n : Nat) : Int) ≤ st) (h1 : st < (2 * n : Nat)) (hx : x < n) (hpq : p < q) (hq : q < 2 * n)
    (hpl : placesT w x = [(p : Int), (q : Int)]) (hwa : w.getD p 0 = x) (hc : 0 ≤ st) (hat : (st + 1).tmod ((2 * n : Nat) : Int) = p) (hs : s.getD x 0 = 1) : FnAt Try.prog false 66 [curveT n w, .lit (.int .i64 st), .arr (.int .i64) s] (.lit (.int .i64 (-1 - ((q : Int) + (2 * n : Nat) - 1).tmod (2 * n : Nat)))) [] := by
  have hwl : @List.length (Ty.int .i64).T w = 2 * n := h.len
  have hsl : @List.length (Ty.int .i64).T s = n := hl
  have hPl : @List.length (Ty.sl (.int .i64)).T (PT w n) = n := PT_len
  have hPx : (PT w n).getD x [] = [(p : Int), (q : Int)] := (PT_get hx).trans hpl
  have hPs : @List.length (Ty.int .i64).T (@List.getD (Ty.sl (.int .i64)).T (PT w n) x (Ty.sl (.int .i64)).dflt) = 2 := by
    show ((PT w n).getD x []).length = 2
    rw [hPx]; rfl
  have hPs2 : ((PT w n).getD x []).length = 2 := hPs
  have hp2 : ((PT w n).getD x []).getD 0 0 = (p : Int) := by rw [hPx]; rfl
  have hq2 : ((PT w n).getD x []).getD 1 0 = (q : Int) := by rw [hPx]; rfl
  have ht0 := Int.tmod_nonneg (a := (q : Int) + (2 * n : Nat) - 1) (2 * n : Nat) (by omega)
  have ht1 := Int.tmod_lt_of_pos ((q : Int) + (2 * n : Nat) - 1) (b := (2 * n : Nat)) (by omega)
  have har : FnAt Try.prog false 72 [.lit (.int .i64 (s.getD x 0))] (.strct [.lit (.int .i64 0), .lit (.int .i64 2), .lit (.int .i64 1), .lit (.int .i64 3)]) [] := by
    rw [hs]; exact around_p
  refine FnAt.of_body tys_ok Try.func66 (by rfl) rfl Try.ntmps66 (by rw [Try.results66]) (by simp) ?_
  
  repeat' (first
 | refine W.seq ?_
 | refine W.block ?_
 | (refine W.resub (x := Code.region 6 _ _) (Γ' := ⟨[(0, .st false (curveT n w)), (1, .lit (.int .i64 (st))), (2, .st false (.arr (.int .i64) (s : List Int))), (7, .lit (.int .i64 (@List.length (Ty.int .i64).T w))), (8, .lit (.int .i64 (p))), (9, .lit (.bool (true)))], []⟩) ?_ (W.region tys_ok [] ?_); rotate_left; (conv => whnf))
 | (refine W.resub (x := Code.region 7 _ _) (Γ' := ⟨[(0, .st false (curveT n w)), (1, .lit (.int .i64 (st))), (2, .st false (.arr (.int .i64) (s : List Int))), (7, .lit (.int .i64 (@List.length (Ty.int .i64).T w))), (8, .lit (.int .i64 (p))), (9, .lit (.bool (true))), (10, .lit (.int .i64 (x)))], []⟩) ?_ (W.region tys_ok [] ?_); rotate_left; (conv => whnf))
 | (refine W.resub (x := Code.region 13 _ _) (Γ' := ⟨[(0, .st false (curveT n w)), (1, .lit (.int .i64 (st))), (2, .st false (.arr (.int .i64) (s : List Int))), (7, .lit (.int .i64 (@List.length (Ty.int .i64).T w))), (8, .lit (.int .i64 (p))), (9, .lit (.bool (true))), (10, .lit (.int .i64 (x))), (11, .lit (.int .i64 (0))), (12, .st true (.sadr (.agg [.lit (.int .i64 0), .lit (.int .i64 2), .lit (.int .i64 1), .lit (.int .i64 3)])))], []⟩) ?_ (W.region tys_ok [] ?_); rotate_left; (conv => whnf))
 | (refine W.resub (x := Code.region 15 _ _) (Γ' := ⟨[(0, .st false (curveT n w)), (1, .lit (.int .i64 (st))), (2, .st false (.arr (.int .i64) (s : List Int))), (7, .lit (.int .i64 ((2 * n : Nat)))), (8, .lit (.int .i64 (p))), (9, .lit (.bool (true))), (13, .lit (.int .i64 (2))), (14, .lit (.int .i64 (q)))], []⟩) ?_ (W.region tys_ok [] ?_); rotate_left; (conv => whnf))
 | (refine W.region tys_ok [] ?_; conv => whnf)
 | (refine W.drawAll tys_ok [] mixed rfl ?_; conv => whnf)
 | (refine W.ret ?_; conv => whnf)
 | (refine W.skip ?_; conv => whnf)
 | (refine W.exit ?_; conv => whnf)
 | (refine call_at (al := false) (har) rfl rfl rfl rfl ?_; conv => whnf)
 | (refine call_at (al := false) (index_lit [0, 2, 1, 3] 0 0 (by decide) rfl) rfl rfl rfl rfl ?_; conv => whnf)

    | (refine W.cond rfl (fun hb => ?_) (fun hb => ?_) <;> (try simp only [Int.reduceToNat, Int.reduceTDiv, Int.reduceTMod, minL, maxL, pickB, zHB] at hb) <;> (try (first | (cases hb; done) | exact absurd hb (by decide) | (exfalso; omega))))
    | ((with_reducible refine And.intro ?_ ?_); (focus ((repeat' (first | (with_reducible rfl) | (with_reducible refine And.intro ?_ ?_) | omega | rfl | exact Or.inl rfl | exact Or.inr rfl | exact of_decide_eq_true rfl | exact Path.imp_of (of_decide_eq_true rfl) | (focus ((try simp only [Int.reduceToNat, Int.reduceTDiv, Int.reduceTMod, minL, maxL, pickB, zHB, InK, Path.imp, List.length_replicate, List.length_set, List.length_append, List.length_cons, List.length_nil] at *); omega)) | (refine app_le rfl ?_; omega))); done)); (conv => whnf))
    | ((with_reducible refine And.intro (Side.out ?_) ?_); rotate_left; (conv => whnf))
    | (refine retF1 ?_ <;> (conv => whnf) <;> repeat' (first
 | exact trivial
 | (with_reducible rfl)
 | ((with_reducible refine And.intro ?_ ?_) <;> conv => whnf)
 | omega
 | rfl
 | (refine congrArg (SV.arr _) ?_)
 | (refine congrArg (Value.int _) ?_)
 | (refine congrArg Value.bool ?_)))
 | (refine retF2 ?_ <;> (conv => whnf) <;> repeat' (first
 | exact trivial
 | (with_reducible rfl)
 | ((with_reducible refine And.intro ?_ ?_) <;> conv => whnf)
 | omega
 | rfl
 | (refine congrArg (SV.arr _) ?_)
 | (refine congrArg (Value.int _) ?_)
 | (refine congrArg Value.bool ?_)))); all_goals (try unfold Side)
  all_goals try (repeat' (first | (with_reducible rfl) | (with_reducible refine And.intro ?_ ?_) | omega | rfl | exact Or.inl rfl | exact Or.inr rfl | exact of_decide_eq_true rfl | exact Path.imp_of (of_decide_eq_true rfl) | (focus ((try simp only [Int.reduceToNat, Int.reduceTDiv, Int.reduceTMod, minL, maxL, pickB, zHB, InK, Path.imp, List.length_replicate, List.length_set, List.length_append, List.length_cons, List.length_nil] at *); omega)) | (refine app_le rfl ?_; omega)))
  all_goals first | (refine subF.ok ?_ <;> (conv => whnf) <;> repeat' (first
 | exact trivial
 | (with_reducible rfl)
 | ((with_reducible refine And.intro ?_ ?_) <;> conv => whnf)
 | omega
 | rfl
 | (refine congrArg (SV.arr _) ?_)
 | (refine congrArg (Value.int _) ?_)
 | (refine congrArg Value.bool ?_))) | skip
  all_goals try (repeat' (first | (with_reducible rfl) | (with_reducible refine And.intro ?_ ?_) | omega | rfl | exact Or.inl rfl | exact Or.inr rfl | exact of_decide_eq_true rfl | exact Path.imp_of (of_decide_eq_true rfl) | (focus ((try simp only [Int.reduceToNat, Int.reduceTDiv, Int.reduceTMod, minL, maxL, pickB, zHB, InK, Path.imp, List.length_replicate, List.length_set, List.length_append, List.length_cons, List.length_nil] at *); omega)) | (refine app_le rfl ?_; omega)))
  all_goals (rw [hwl]; exact hat)
set_option maxHeartbeats 4000000 in
theorem next_fpq {w s : List Int} {n x p q : Nat} {st : Int} (h : Word w n) (hn : n ≤ 10) (hl : s.length = n) (h0 : -((2 * n : Nat) : Int) ≤ st) (h1 : st < (2 * n : Nat)) (hx : x < n) (hpq : p < q) (hq : q < 2 * n)
    (hpl : placesT w x = [(p : Int), (q : Int)]) (hwa : w.getD q 0 = x) (hc : 0 ≤ st) (hat : (st + 1).tmod ((2 * n : Nat) : Int) = q) (hs : s.getD x 0 = 1) : FnAt Try.prog false 66 [curveT n w, .lit (.int .i64 st), .arr (.int .i64) s] (.lit (.int .i64 ((p : Int)))) [] := by
  have hwl : @List.length (Ty.int .i64).T w = 2 * n := h.len
  have hsl : @List.length (Ty.int .i64).T s = n := hl
  have hPl : @List.length (Ty.sl (.int .i64)).T (PT w n) = n := PT_len
  have hPx : (PT w n).getD x [] = [(p : Int), (q : Int)] := (PT_get hx).trans hpl
  have hPs : @List.length (Ty.int .i64).T (@List.getD (Ty.sl (.int .i64)).T (PT w n) x (Ty.sl (.int .i64)).dflt) = 2 := by
    show ((PT w n).getD x []).length = 2
    rw [hPx]; rfl
  have hPs2 : ((PT w n).getD x []).length = 2 := hPs
  have hp2 : ((PT w n).getD x []).getD 0 0 = (p : Int) := by rw [hPx]; rfl
  have hq2 : ((PT w n).getD x []).getD 1 0 = (q : Int) := by rw [hPx]; rfl
  have ht0 := Int.tmod_nonneg (a := (p : Int) + (2 * n : Nat) - 1) (2 * n : Nat) (by omega)
  have ht1 := Int.tmod_lt_of_pos ((p : Int) + (2 * n : Nat) - 1) (b := (2 * n : Nat)) (by omega)
  have har : FnAt Try.prog false 72 [.lit (.int .i64 (s.getD x 0))] (.strct [.lit (.int .i64 0), .lit (.int .i64 2), .lit (.int .i64 1), .lit (.int .i64 3)]) [] := by
    rw [hs]; exact around_p
  refine FnAt.of_body tys_ok Try.func66 (by rfl) rfl Try.ntmps66 (by rw [Try.results66]) (by simp) ?_
  
  repeat' (first
 | refine W.seq ?_
 | refine W.block ?_
 | (refine W.resub (x := Code.region 6 _ _) (Γ' := ⟨[(0, .st false (curveT n w)), (1, .lit (.int .i64 (st))), (2, .st false (.arr (.int .i64) (s : List Int))), (7, .lit (.int .i64 (@List.length (Ty.int .i64).T w))), (8, .lit (.int .i64 (q))), (9, .lit (.bool (true)))], []⟩) ?_ (W.region tys_ok [] ?_); rotate_left; (conv => whnf))
 | (refine W.resub (x := Code.region 7 _ _) (Γ' := ⟨[(0, .st false (curveT n w)), (1, .lit (.int .i64 (st))), (2, .st false (.arr (.int .i64) (s : List Int))), (7, .lit (.int .i64 (@List.length (Ty.int .i64).T w))), (8, .lit (.int .i64 (q))), (9, .lit (.bool (true))), (10, .lit (.int .i64 (x)))], []⟩) ?_ (W.region tys_ok [] ?_); rotate_left; (conv => whnf))
 | (refine W.resub (x := Code.region 13 _ _) (Γ' := ⟨[(0, .st false (curveT n w)), (1, .lit (.int .i64 (st))), (2, .st false (.arr (.int .i64) (s : List Int))), (7, .lit (.int .i64 (@List.length (Ty.int .i64).T w))), (8, .lit (.int .i64 (q))), (9, .lit (.bool (true))), (10, .lit (.int .i64 (x))), (11, .lit (.int .i64 (2))), (12, .st true (.sadr (.agg [.lit (.int .i64 0), .lit (.int .i64 2), .lit (.int .i64 1), .lit (.int .i64 3)])))], []⟩) ?_ (W.region tys_ok [] ?_); rotate_left; (conv => whnf))
 | (refine W.resub (x := Code.region 15 _ _) (Γ' := ⟨[(0, .st false (curveT n w)), (1, .lit (.int .i64 (st))), (2, .st false (.arr (.int .i64) (s : List Int))), (7, .lit (.int .i64 ((2 * n : Nat)))), (8, .lit (.int .i64 (q))), (9, .lit (.bool (true))), (13, .lit (.int .i64 (1))), (14, .lit (.int .i64 (p)))], []⟩) ?_ (W.region tys_ok [] ?_); rotate_left; (conv => whnf))
 | (refine W.region tys_ok [] ?_; conv => whnf)
 | (refine W.drawAll tys_ok [] mixed rfl ?_; conv => whnf)
 | (refine W.ret ?_; conv => whnf)
 | (refine W.skip ?_; conv => whnf)
 | (refine W.exit ?_; conv => whnf)
 | (refine call_at (al := false) (har) rfl rfl rfl rfl ?_; conv => whnf)
 | (refine call_at (al := false) (index_lit [0, 2, 1, 3] 2 1 (by decide) rfl) rfl rfl rfl rfl ?_; conv => whnf)

    | (refine W.cond rfl (fun hb => ?_) (fun hb => ?_) <;> (try simp only [Int.reduceToNat, Int.reduceTDiv, Int.reduceTMod, minL, maxL, pickB, zHB] at hb) <;> (try (first | (cases hb; done) | exact absurd hb (by decide) | (exfalso; omega))))
    | ((with_reducible refine And.intro ?_ ?_); (focus ((repeat' (first | (with_reducible rfl) | (with_reducible refine And.intro ?_ ?_) | omega | rfl | exact Or.inl rfl | exact Or.inr rfl | exact of_decide_eq_true rfl | exact Path.imp_of (of_decide_eq_true rfl) | (focus ((try simp only [Int.reduceToNat, Int.reduceTDiv, Int.reduceTMod, minL, maxL, pickB, zHB, InK, Path.imp, List.length_replicate, List.length_set, List.length_append, List.length_cons, List.length_nil] at *); omega)) | (refine app_le rfl ?_; omega))); done)); (conv => whnf))
    | ((with_reducible refine And.intro (Side.out ?_) ?_); rotate_left; (conv => whnf))
    | (refine retF1 ?_ <;> (conv => whnf) <;> repeat' (first
 | exact trivial
 | (with_reducible rfl)
 | ((with_reducible refine And.intro ?_ ?_) <;> conv => whnf)
 | omega
 | rfl
 | (refine congrArg (SV.arr _) ?_)
 | (refine congrArg (Value.int _) ?_)
 | (refine congrArg Value.bool ?_)))
 | (refine retF2 ?_ <;> (conv => whnf) <;> repeat' (first
 | exact trivial
 | (with_reducible rfl)
 | ((with_reducible refine And.intro ?_ ?_) <;> conv => whnf)
 | omega
 | rfl
 | (refine congrArg (SV.arr _) ?_)
 | (refine congrArg (Value.int _) ?_)
 | (refine congrArg Value.bool ?_)))); all_goals (try unfold Side)
  all_goals try (repeat' (first | (with_reducible rfl) | (with_reducible refine And.intro ?_ ?_) | omega | rfl | exact Or.inl rfl | exact Or.inr rfl | exact of_decide_eq_true rfl | exact Path.imp_of (of_decide_eq_true rfl) | (focus ((try simp only [Int.reduceToNat, Int.reduceTDiv, Int.reduceTMod, minL, maxL, pickB, zHB, InK, Path.imp, List.length_replicate, List.length_set, List.length_append, List.length_cons, List.length_nil] at *); omega)) | (refine app_le rfl ?_; omega)))
  all_goals first | (refine subF.ok ?_ <;> (conv => whnf) <;> repeat' (first
 | exact trivial
 | (with_reducible rfl)
 | ((with_reducible refine And.intro ?_ ?_) <;> conv => whnf)
 | omega
 | rfl
 | (refine congrArg (SV.arr _) ?_)
 | (refine congrArg (Value.int _) ?_)
 | (refine congrArg Value.bool ?_))) | skip
  all_goals try (repeat' (first | (with_reducible rfl) | (with_reducible refine And.intro ?_ ?_) | omega | rfl | exact Or.inl rfl | exact Or.inr rfl | exact of_decide_eq_true rfl | exact Path.imp_of (of_decide_eq_true rfl) | (focus ((try simp only [Int.reduceToNat, Int.reduceTDiv, Int.reduceTMod, minL, maxL, pickB, zHB, InK, Path.imp, List.length_replicate, List.length_set, List.length_append, List.length_cons, List.length_nil] at *); omega)) | (refine app_le rfl ?_; omega)))
  all_goals (rw [hwl]; exact hat)
set_option maxHeartbeats 4000000 in
theorem next_fmp {w s : List Int} {n x p q : Nat} {st : Int} (h : Word w n) (hn : n ≤ 10) (hl : s.length = n) (h0 : -((2 * n : Nat) : Int) ≤ st) (h1 : st < (2 * n : Nat)) (hx : x < n) (hpq : p < q) (hq : q < 2 * n)
    (hpl : placesT w x = [(p : Int), (q : Int)]) (hwa : w.getD p 0 = x) (hc : 0 ≤ st) (hat : (st + 1).tmod ((2 * n : Nat) : Int) = p) (hs : s.getD x 0 = -1) : FnAt Try.prog false 66 [curveT n w, .lit (.int .i64 st), .arr (.int .i64) s] (.lit (.int .i64 ((q : Int)))) [] := by
  have hwl : @List.length (Ty.int .i64).T w = 2 * n := h.len
  have hsl : @List.length (Ty.int .i64).T s = n := hl
  have hPl : @List.length (Ty.sl (.int .i64)).T (PT w n) = n := PT_len
  have hPx : (PT w n).getD x [] = [(p : Int), (q : Int)] := (PT_get hx).trans hpl
  have hPs : @List.length (Ty.int .i64).T (@List.getD (Ty.sl (.int .i64)).T (PT w n) x (Ty.sl (.int .i64)).dflt) = 2 := by
    show ((PT w n).getD x []).length = 2
    rw [hPx]; rfl
  have hPs2 : ((PT w n).getD x []).length = 2 := hPs
  have hp2 : ((PT w n).getD x []).getD 0 0 = (p : Int) := by rw [hPx]; rfl
  have hq2 : ((PT w n).getD x []).getD 1 0 = (q : Int) := by rw [hPx]; rfl
  have ht0 := Int.tmod_nonneg (a := (q : Int) + (2 * n : Nat) - 1) (2 * n : Nat) (by omega)
  have ht1 := Int.tmod_lt_of_pos ((q : Int) + (2 * n : Nat) - 1) (b := (2 * n : Nat)) (by omega)
  have har : FnAt Try.prog false 72 [.lit (.int .i64 (s.getD x 0))] (.strct [.lit (.int .i64 0), .lit (.int .i64 3), .lit (.int .i64 1), .lit (.int .i64 2)]) [] := by
    rw [hs]; exact around_m
  refine FnAt.of_body tys_ok Try.func66 (by rfl) rfl Try.ntmps66 (by rw [Try.results66]) (by simp) ?_
  
  repeat' (first
 | refine W.seq ?_
 | refine W.block ?_
 | (refine W.resub (x := Code.region 6 _ _) (Γ' := ⟨[(0, .st false (curveT n w)), (1, .lit (.int .i64 (st))), (2, .st false (.arr (.int .i64) (s : List Int))), (7, .lit (.int .i64 (@List.length (Ty.int .i64).T w))), (8, .lit (.int .i64 (p))), (9, .lit (.bool (true)))], []⟩) ?_ (W.region tys_ok [] ?_); rotate_left; (conv => whnf))
 | (refine W.resub (x := Code.region 7 _ _) (Γ' := ⟨[(0, .st false (curveT n w)), (1, .lit (.int .i64 (st))), (2, .st false (.arr (.int .i64) (s : List Int))), (7, .lit (.int .i64 (@List.length (Ty.int .i64).T w))), (8, .lit (.int .i64 (p))), (9, .lit (.bool (true))), (10, .lit (.int .i64 (x)))], []⟩) ?_ (W.region tys_ok [] ?_); rotate_left; (conv => whnf))
 | (refine W.resub (x := Code.region 13 _ _) (Γ' := ⟨[(0, .st false (curveT n w)), (1, .lit (.int .i64 (st))), (2, .st false (.arr (.int .i64) (s : List Int))), (7, .lit (.int .i64 (@List.length (Ty.int .i64).T w))), (8, .lit (.int .i64 (p))), (9, .lit (.bool (true))), (10, .lit (.int .i64 (x))), (11, .lit (.int .i64 (0))), (12, .st true (.sadr (.agg [.lit (.int .i64 0), .lit (.int .i64 3), .lit (.int .i64 1), .lit (.int .i64 2)])))], []⟩) ?_ (W.region tys_ok [] ?_); rotate_left; (conv => whnf))
 | (refine W.resub (x := Code.region 15 _ _) (Γ' := ⟨[(0, .st false (curveT n w)), (1, .lit (.int .i64 (st))), (2, .st false (.arr (.int .i64) (s : List Int))), (7, .lit (.int .i64 ((2 * n : Nat)))), (8, .lit (.int .i64 (p))), (9, .lit (.bool (true))), (13, .lit (.int .i64 (3))), (14, .lit (.int .i64 (q)))], []⟩) ?_ (W.region tys_ok [] ?_); rotate_left; (conv => whnf))
 | (refine W.region tys_ok [] ?_; conv => whnf)
 | (refine W.drawAll tys_ok [] mixed rfl ?_; conv => whnf)
 | (refine W.ret ?_; conv => whnf)
 | (refine W.skip ?_; conv => whnf)
 | (refine W.exit ?_; conv => whnf)
 | (refine call_at (al := false) (har) rfl rfl rfl rfl ?_; conv => whnf)
 | (refine call_at (al := false) (index_lit [0, 3, 1, 2] 0 0 (by decide) rfl) rfl rfl rfl rfl ?_; conv => whnf)

    | (refine W.cond rfl (fun hb => ?_) (fun hb => ?_) <;> (try simp only [Int.reduceToNat, Int.reduceTDiv, Int.reduceTMod, minL, maxL, pickB, zHB] at hb) <;> (try (first | (cases hb; done) | exact absurd hb (by decide) | (exfalso; omega))))
    | ((with_reducible refine And.intro ?_ ?_); (focus ((repeat' (first | (with_reducible rfl) | (with_reducible refine And.intro ?_ ?_) | omega | rfl | exact Or.inl rfl | exact Or.inr rfl | exact of_decide_eq_true rfl | exact Path.imp_of (of_decide_eq_true rfl) | (focus ((try simp only [Int.reduceToNat, Int.reduceTDiv, Int.reduceTMod, minL, maxL, pickB, zHB, InK, Path.imp, List.length_replicate, List.length_set, List.length_append, List.length_cons, List.length_nil] at *); omega)) | (refine app_le rfl ?_; omega))); done)); (conv => whnf))
    | ((with_reducible refine And.intro (Side.out ?_) ?_); rotate_left; (conv => whnf))
    | (refine retF1 ?_ <;> (conv => whnf) <;> repeat' (first
 | exact trivial
 | (with_reducible rfl)
 | ((with_reducible refine And.intro ?_ ?_) <;> conv => whnf)
 | omega
 | rfl
 | (refine congrArg (SV.arr _) ?_)
 | (refine congrArg (Value.int _) ?_)
 | (refine congrArg Value.bool ?_)))
 | (refine retF2 ?_ <;> (conv => whnf) <;> repeat' (first
 | exact trivial
 | (with_reducible rfl)
 | ((with_reducible refine And.intro ?_ ?_) <;> conv => whnf)
 | omega
 | rfl
 | (refine congrArg (SV.arr _) ?_)
 | (refine congrArg (Value.int _) ?_)
 | (refine congrArg Value.bool ?_)))); all_goals (try unfold Side)
  all_goals try (repeat' (first | (with_reducible rfl) | (with_reducible refine And.intro ?_ ?_) | omega | rfl | exact Or.inl rfl | exact Or.inr rfl | exact of_decide_eq_true rfl | exact Path.imp_of (of_decide_eq_true rfl) | (focus ((try simp only [Int.reduceToNat, Int.reduceTDiv, Int.reduceTMod, minL, maxL, pickB, zHB, InK, Path.imp, List.length_replicate, List.length_set, List.length_append, List.length_cons, List.length_nil] at *); omega)) | (refine app_le rfl ?_; omega)))
  all_goals first | (refine subF.ok ?_ <;> (conv => whnf) <;> repeat' (first
 | exact trivial
 | (with_reducible rfl)
 | ((with_reducible refine And.intro ?_ ?_) <;> conv => whnf)
 | omega
 | rfl
 | (refine congrArg (SV.arr _) ?_)
 | (refine congrArg (Value.int _) ?_)
 | (refine congrArg Value.bool ?_))) | skip
  all_goals try (repeat' (first | (with_reducible rfl) | (with_reducible refine And.intro ?_ ?_) | omega | rfl | exact Or.inl rfl | exact Or.inr rfl | exact of_decide_eq_true rfl | exact Path.imp_of (of_decide_eq_true rfl) | (focus ((try simp only [Int.reduceToNat, Int.reduceTDiv, Int.reduceTMod, minL, maxL, pickB, zHB, InK, Path.imp, List.length_replicate, List.length_set, List.length_append, List.length_cons, List.length_nil] at *); omega)) | (refine app_le rfl ?_; omega)))
  all_goals (rw [hwl]; exact hat)
set_option maxHeartbeats 4000000 in
theorem next_fmq {w s : List Int} {n x p q : Nat} {st : Int} (h : Word w n) (hn : n ≤ 10) (hl : s.length = n) (h0 : -((2 * n : Nat) : Int) ≤ st) (h1 : st < (2 * n : Nat)) (hx : x < n) (hpq : p < q) (hq : q < 2 * n)
    (hpl : placesT w x = [(p : Int), (q : Int)]) (hwa : w.getD q 0 = x) (hc : 0 ≤ st) (hat : (st + 1).tmod ((2 * n : Nat) : Int) = q) (hs : s.getD x 0 = -1) : FnAt Try.prog false 66 [curveT n w, .lit (.int .i64 st), .arr (.int .i64) s] (.lit (.int .i64 (-1 - ((p : Int) + (2 * n : Nat) - 1).tmod (2 * n : Nat)))) [] := by
  have hwl : @List.length (Ty.int .i64).T w = 2 * n := h.len
  have hsl : @List.length (Ty.int .i64).T s = n := hl
  have hPl : @List.length (Ty.sl (.int .i64)).T (PT w n) = n := PT_len
  have hPx : (PT w n).getD x [] = [(p : Int), (q : Int)] := (PT_get hx).trans hpl
  have hPs : @List.length (Ty.int .i64).T (@List.getD (Ty.sl (.int .i64)).T (PT w n) x (Ty.sl (.int .i64)).dflt) = 2 := by
    show ((PT w n).getD x []).length = 2
    rw [hPx]; rfl
  have hPs2 : ((PT w n).getD x []).length = 2 := hPs
  have hp2 : ((PT w n).getD x []).getD 0 0 = (p : Int) := by rw [hPx]; rfl
  have hq2 : ((PT w n).getD x []).getD 1 0 = (q : Int) := by rw [hPx]; rfl
  have ht0 := Int.tmod_nonneg (a := (p : Int) + (2 * n : Nat) - 1) (2 * n : Nat) (by omega)
  have ht1 := Int.tmod_lt_of_pos ((p : Int) + (2 * n : Nat) - 1) (b := (2 * n : Nat)) (by omega)
  have har : FnAt Try.prog false 72 [.lit (.int .i64 (s.getD x 0))] (.strct [.lit (.int .i64 0), .lit (.int .i64 3), .lit (.int .i64 1), .lit (.int .i64 2)]) [] := by
    rw [hs]; exact around_m
  refine FnAt.of_body tys_ok Try.func66 (by rfl) rfl Try.ntmps66 (by rw [Try.results66]) (by simp) ?_
  
  repeat' (first
 | refine W.seq ?_
 | refine W.block ?_
 | (refine W.resub (x := Code.region 6 _ _) (Γ' := ⟨[(0, .st false (curveT n w)), (1, .lit (.int .i64 (st))), (2, .st false (.arr (.int .i64) (s : List Int))), (7, .lit (.int .i64 (@List.length (Ty.int .i64).T w))), (8, .lit (.int .i64 (q))), (9, .lit (.bool (true)))], []⟩) ?_ (W.region tys_ok [] ?_); rotate_left; (conv => whnf))
 | (refine W.resub (x := Code.region 7 _ _) (Γ' := ⟨[(0, .st false (curveT n w)), (1, .lit (.int .i64 (st))), (2, .st false (.arr (.int .i64) (s : List Int))), (7, .lit (.int .i64 (@List.length (Ty.int .i64).T w))), (8, .lit (.int .i64 (q))), (9, .lit (.bool (true))), (10, .lit (.int .i64 (x)))], []⟩) ?_ (W.region tys_ok [] ?_); rotate_left; (conv => whnf))
 | (refine W.resub (x := Code.region 13 _ _) (Γ' := ⟨[(0, .st false (curveT n w)), (1, .lit (.int .i64 (st))), (2, .st false (.arr (.int .i64) (s : List Int))), (7, .lit (.int .i64 (@List.length (Ty.int .i64).T w))), (8, .lit (.int .i64 (q))), (9, .lit (.bool (true))), (10, .lit (.int .i64 (x))), (11, .lit (.int .i64 (2))), (12, .st true (.sadr (.agg [.lit (.int .i64 0), .lit (.int .i64 3), .lit (.int .i64 1), .lit (.int .i64 2)])))], []⟩) ?_ (W.region tys_ok [] ?_); rotate_left; (conv => whnf))
 | (refine W.resub (x := Code.region 15 _ _) (Γ' := ⟨[(0, .st false (curveT n w)), (1, .lit (.int .i64 (st))), (2, .st false (.arr (.int .i64) (s : List Int))), (7, .lit (.int .i64 ((2 * n : Nat)))), (8, .lit (.int .i64 (q))), (9, .lit (.bool (true))), (13, .lit (.int .i64 (0))), (14, .lit (.int .i64 (p)))], []⟩) ?_ (W.region tys_ok [] ?_); rotate_left; (conv => whnf))
 | (refine W.region tys_ok [] ?_; conv => whnf)
 | (refine W.drawAll tys_ok [] mixed rfl ?_; conv => whnf)
 | (refine W.ret ?_; conv => whnf)
 | (refine W.skip ?_; conv => whnf)
 | (refine W.exit ?_; conv => whnf)
 | (refine call_at (al := false) (har) rfl rfl rfl rfl ?_; conv => whnf)
 | (refine call_at (al := false) (index_lit [0, 3, 1, 2] 2 3 (by decide) rfl) rfl rfl rfl rfl ?_; conv => whnf)

    | (refine W.cond rfl (fun hb => ?_) (fun hb => ?_) <;> (try simp only [Int.reduceToNat, Int.reduceTDiv, Int.reduceTMod, minL, maxL, pickB, zHB] at hb) <;> (try (first | (cases hb; done) | exact absurd hb (by decide) | (exfalso; omega))))
    | ((with_reducible refine And.intro ?_ ?_); (focus ((repeat' (first | (with_reducible rfl) | (with_reducible refine And.intro ?_ ?_) | omega | rfl | exact Or.inl rfl | exact Or.inr rfl | exact of_decide_eq_true rfl | exact Path.imp_of (of_decide_eq_true rfl) | (focus ((try simp only [Int.reduceToNat, Int.reduceTDiv, Int.reduceTMod, minL, maxL, pickB, zHB, InK, Path.imp, List.length_replicate, List.length_set, List.length_append, List.length_cons, List.length_nil] at *); omega)) | (refine app_le rfl ?_; omega))); done)); (conv => whnf))
    | ((with_reducible refine And.intro (Side.out ?_) ?_); rotate_left; (conv => whnf))
    | (refine retF1 ?_ <;> (conv => whnf) <;> repeat' (first
 | exact trivial
 | (with_reducible rfl)
 | ((with_reducible refine And.intro ?_ ?_) <;> conv => whnf)
 | omega
 | rfl
 | (refine congrArg (SV.arr _) ?_)
 | (refine congrArg (Value.int _) ?_)
 | (refine congrArg Value.bool ?_)))
 | (refine retF2 ?_ <;> (conv => whnf) <;> repeat' (first
 | exact trivial
 | (with_reducible rfl)
 | ((with_reducible refine And.intro ?_ ?_) <;> conv => whnf)
 | omega
 | rfl
 | (refine congrArg (SV.arr _) ?_)
 | (refine congrArg (Value.int _) ?_)
 | (refine congrArg Value.bool ?_)))); all_goals (try unfold Side)
  all_goals try (repeat' (first | (with_reducible rfl) | (with_reducible refine And.intro ?_ ?_) | omega | rfl | exact Or.inl rfl | exact Or.inr rfl | exact of_decide_eq_true rfl | exact Path.imp_of (of_decide_eq_true rfl) | (focus ((try simp only [Int.reduceToNat, Int.reduceTDiv, Int.reduceTMod, minL, maxL, pickB, zHB, InK, Path.imp, List.length_replicate, List.length_set, List.length_append, List.length_cons, List.length_nil] at *); omega)) | (refine app_le rfl ?_; omega)))
  all_goals first | (refine subF.ok ?_ <;> (conv => whnf) <;> repeat' (first
 | exact trivial
 | (with_reducible rfl)
 | ((with_reducible refine And.intro ?_ ?_) <;> conv => whnf)
 | omega
 | rfl
 | (refine congrArg (SV.arr _) ?_)
 | (refine congrArg (Value.int _) ?_)
 | (refine congrArg Value.bool ?_))) | skip
  all_goals try (repeat' (first | (with_reducible rfl) | (with_reducible refine And.intro ?_ ?_) | omega | rfl | exact Or.inl rfl | exact Or.inr rfl | exact of_decide_eq_true rfl | exact Path.imp_of (of_decide_eq_true rfl) | (focus ((try simp only [Int.reduceToNat, Int.reduceTDiv, Int.reduceTMod, minL, maxL, pickB, zHB, InK, Path.imp, List.length_replicate, List.length_set, List.length_append, List.length_cons, List.length_nil] at *); omega)) | (refine app_le rfl ?_; omega)))
  all_goals (rw [hwl]; exact hat)
set_option maxHeartbeats 4000000 in
theorem next_bpp {w s : List Int} {n x p q : Nat} {st : Int} (h : Word w n) (hn : n ≤ 10) (hl : s.length = n) (h0 : -((2 * n : Nat) : Int) ≤ st) (h1 : st < (2 * n : Nat)) (hx : x < n) (hpq : p < q) (hq : q < 2 * n)
    (hpl : placesT w x = [(p : Int), (q : Int)]) (hwa : w.getD p 0 = x) (hc : st < 0) (hat : -1 - st = (p : Int)) (hs : s.getD x 0 = 1) : FnAt Try.prog false 66 [curveT n w, .lit (.int .i64 st), .arr (.int .i64) s] (.lit (.int .i64 ((q : Int)))) [] := by
  have hwl : @List.length (Ty.int .i64).T w = 2 * n := h.len
  have hsl : @List.length (Ty.int .i64).T s = n := hl
  have hPl : @List.length (Ty.sl (.int .i64)).T (PT w n) = n := PT_len
  have hPx : (PT w n).getD x [] = [(p : Int), (q : Int)] := (PT_get hx).trans hpl
  have hPs : @List.length (Ty.int .i64).T (@List.getD (Ty.sl (.int .i64)).T (PT w n) x (Ty.sl (.int .i64)).dflt) = 2 := by
    show ((PT w n).getD x []).length = 2
    rw [hPx]; rfl
  have hPs2 : ((PT w n).getD x []).length = 2 := hPs
  have hp2 : ((PT w n).getD x []).getD 0 0 = (p : Int) := by rw [hPx]; rfl
  have hq2 : ((PT w n).getD x []).getD 1 0 = (q : Int) := by rw [hPx]; rfl
  have ht0 := Int.tmod_nonneg (a := (q : Int) + (2 * n : Nat) - 1) (2 * n : Nat) (by omega)
  have ht1 := Int.tmod_lt_of_pos ((q : Int) + (2 * n : Nat) - 1) (b := (2 * n : Nat)) (by omega)
  have har : FnAt Try.prog false 72 [.lit (.int .i64 (s.getD x 0))] (.strct [.lit (.int .i64 0), .lit (.int .i64 2), .lit (.int .i64 1), .lit (.int .i64 3)]) [] := by
    rw [hs]; exact around_p
  refine FnAt.of_body tys_ok Try.func66 (by rfl) rfl Try.ntmps66 (by rw [Try.results66]) (by simp) ?_
  
  repeat' (first
 | refine W.seq ?_
 | refine W.block ?_
 | (refine W.resub (x := Code.region 6 _ _) (Γ' := ⟨[(0, .st false (curveT n w)), (1, .lit (.int .i64 (st))), (2, .st false (.arr (.int .i64) (s : List Int))), (7, .lit (.int .i64 (@List.length (Ty.int .i64).T w))), (8, .lit (.int .i64 (p))), (9, .lit (.bool (false)))], []⟩) ?_ (W.region tys_ok [] ?_); rotate_left; (conv => whnf))
 | (refine W.resub (x := Code.region 7 _ _) (Γ' := ⟨[(0, .st false (curveT n w)), (1, .lit (.int .i64 (st))), (2, .st false (.arr (.int .i64) (s : List Int))), (7, .lit (.int .i64 (@List.length (Ty.int .i64).T w))), (8, .lit (.int .i64 (p))), (9, .lit (.bool (false))), (10, .lit (.int .i64 (x)))], []⟩) ?_ (W.region tys_ok [] ?_); rotate_left; (conv => whnf))
 | (refine W.resub (x := Code.region 13 _ _) (Γ' := ⟨[(0, .st false (curveT n w)), (1, .lit (.int .i64 (st))), (2, .st false (.arr (.int .i64) (s : List Int))), (7, .lit (.int .i64 (@List.length (Ty.int .i64).T w))), (8, .lit (.int .i64 (p))), (9, .lit (.bool (false))), (10, .lit (.int .i64 (x))), (11, .lit (.int .i64 (1))), (12, .st true (.sadr (.agg [.lit (.int .i64 0), .lit (.int .i64 2), .lit (.int .i64 1), .lit (.int .i64 3)])))], []⟩) ?_ (W.region tys_ok [] ?_); rotate_left; (conv => whnf))
 | (refine W.resub (x := Code.region 15 _ _) (Γ' := ⟨[(0, .st false (curveT n w)), (1, .lit (.int .i64 (st))), (2, .st false (.arr (.int .i64) (s : List Int))), (7, .lit (.int .i64 ((2 * n : Nat)))), (8, .lit (.int .i64 (p))), (9, .lit (.bool (false))), (13, .lit (.int .i64 (3))), (14, .lit (.int .i64 (q)))], []⟩) ?_ (W.region tys_ok [] ?_); rotate_left; (conv => whnf))
 | (refine W.region tys_ok [] ?_; conv => whnf)
 | (refine W.drawAll tys_ok [] mixed rfl ?_; conv => whnf)
 | (refine W.ret ?_; conv => whnf)
 | (refine W.skip ?_; conv => whnf)
 | (refine W.exit ?_; conv => whnf)
 | (refine call_at (al := false) (har) rfl rfl rfl rfl ?_; conv => whnf)
 | (refine call_at (al := false) (index_lit [0, 2, 1, 3] 1 2 (by decide) rfl) rfl rfl rfl rfl ?_; conv => whnf)

    | (refine W.cond rfl (fun hb => ?_) (fun hb => ?_) <;> (try simp only [Int.reduceToNat, Int.reduceTDiv, Int.reduceTMod, minL, maxL, pickB, zHB] at hb) <;> (try (first | (cases hb; done) | exact absurd hb (by decide) | (exfalso; omega))))
    | ((with_reducible refine And.intro ?_ ?_); (focus ((repeat' (first | (with_reducible rfl) | (with_reducible refine And.intro ?_ ?_) | omega | rfl | exact Or.inl rfl | exact Or.inr rfl | exact of_decide_eq_true rfl | exact Path.imp_of (of_decide_eq_true rfl) | (focus ((try simp only [Int.reduceToNat, Int.reduceTDiv, Int.reduceTMod, minL, maxL, pickB, zHB, InK, Path.imp, List.length_replicate, List.length_set, List.length_append, List.length_cons, List.length_nil] at *); omega)) | (refine app_le rfl ?_; omega))); done)); (conv => whnf))
    | ((with_reducible refine And.intro (Side.out ?_) ?_); rotate_left; (conv => whnf))
    | (refine retF1 ?_ <;> (conv => whnf) <;> repeat' (first
 | exact trivial
 | (with_reducible rfl)
 | ((with_reducible refine And.intro ?_ ?_) <;> conv => whnf)
 | omega
 | rfl
 | (refine congrArg (SV.arr _) ?_)
 | (refine congrArg (Value.int _) ?_)
 | (refine congrArg Value.bool ?_)))
 | (refine retF2 ?_ <;> (conv => whnf) <;> repeat' (first
 | exact trivial
 | (with_reducible rfl)
 | ((with_reducible refine And.intro ?_ ?_) <;> conv => whnf)
 | omega
 | rfl
 | (refine congrArg (SV.arr _) ?_)
 | (refine congrArg (Value.int _) ?_)
 | (refine congrArg Value.bool ?_)))); all_goals (try unfold Side)
  all_goals try (repeat' (first | (with_reducible rfl) | (with_reducible refine And.intro ?_ ?_) | omega | rfl | exact Or.inl rfl | exact Or.inr rfl | exact of_decide_eq_true rfl | exact Path.imp_of (of_decide_eq_true rfl) | (focus ((try simp only [Int.reduceToNat, Int.reduceTDiv, Int.reduceTMod, minL, maxL, pickB, zHB, InK, Path.imp, List.length_replicate, List.length_set, List.length_append, List.length_cons, List.length_nil] at *); omega)) | (refine app_le rfl ?_; omega)))
  all_goals first | (refine subF.ok ?_ <;> (conv => whnf) <;> repeat' (first
 | exact trivial
 | (with_reducible rfl)
 | ((with_reducible refine And.intro ?_ ?_) <;> conv => whnf)
 | omega
 | rfl
 | (refine congrArg (SV.arr _) ?_)
 | (refine congrArg (Value.int _) ?_)
 | (refine congrArg Value.bool ?_))) | skip
  all_goals try (repeat' (first | (with_reducible rfl) | (with_reducible refine And.intro ?_ ?_) | omega | rfl | exact Or.inl rfl | exact Or.inr rfl | exact of_decide_eq_true rfl | exact Path.imp_of (of_decide_eq_true rfl) | (focus ((try simp only [Int.reduceToNat, Int.reduceTDiv, Int.reduceTMod, minL, maxL, pickB, zHB, InK, Path.imp, List.length_replicate, List.length_set, List.length_append, List.length_cons, List.length_nil] at *); omega)) | (refine app_le rfl ?_; omega)))
set_option maxHeartbeats 4000000 in
theorem next_bpq {w s : List Int} {n x p q : Nat} {st : Int} (h : Word w n) (hn : n ≤ 10) (hl : s.length = n) (h0 : -((2 * n : Nat) : Int) ≤ st) (h1 : st < (2 * n : Nat)) (hx : x < n) (hpq : p < q) (hq : q < 2 * n)
    (hpl : placesT w x = [(p : Int), (q : Int)]) (hwa : w.getD q 0 = x) (hc : st < 0) (hat : -1 - st = (q : Int)) (hs : s.getD x 0 = 1) : FnAt Try.prog false 66 [curveT n w, .lit (.int .i64 st), .arr (.int .i64) s] (.lit (.int .i64 (-1 - ((p : Int) + (2 * n : Nat) - 1).tmod (2 * n : Nat)))) [] := by
  have hwl : @List.length (Ty.int .i64).T w = 2 * n := h.len
  have hsl : @List.length (Ty.int .i64).T s = n := hl
  have hPl : @List.length (Ty.sl (.int .i64)).T (PT w n) = n := PT_len
  have hPx : (PT w n).getD x [] = [(p : Int), (q : Int)] := (PT_get hx).trans hpl
  have hPs : @List.length (Ty.int .i64).T (@List.getD (Ty.sl (.int .i64)).T (PT w n) x (Ty.sl (.int .i64)).dflt) = 2 := by
    show ((PT w n).getD x []).length = 2
    rw [hPx]; rfl
  have hPs2 : ((PT w n).getD x []).length = 2 := hPs
  have hp2 : ((PT w n).getD x []).getD 0 0 = (p : Int) := by rw [hPx]; rfl
  have hq2 : ((PT w n).getD x []).getD 1 0 = (q : Int) := by rw [hPx]; rfl
  have ht0 := Int.tmod_nonneg (a := (p : Int) + (2 * n : Nat) - 1) (2 * n : Nat) (by omega)
  have ht1 := Int.tmod_lt_of_pos ((p : Int) + (2 * n : Nat) - 1) (b := (2 * n : Nat)) (by omega)
  have har : FnAt Try.prog false 72 [.lit (.int .i64 (s.getD x 0))] (.strct [.lit (.int .i64 0), .lit (.int .i64 2), .lit (.int .i64 1), .lit (.int .i64 3)]) [] := by
    rw [hs]; exact around_p
  refine FnAt.of_body tys_ok Try.func66 (by rfl) rfl Try.ntmps66 (by rw [Try.results66]) (by simp) ?_
  
  repeat' (first
 | refine W.seq ?_
 | refine W.block ?_
 | (refine W.resub (x := Code.region 6 _ _) (Γ' := ⟨[(0, .st false (curveT n w)), (1, .lit (.int .i64 (st))), (2, .st false (.arr (.int .i64) (s : List Int))), (7, .lit (.int .i64 (@List.length (Ty.int .i64).T w))), (8, .lit (.int .i64 (q))), (9, .lit (.bool (false)))], []⟩) ?_ (W.region tys_ok [] ?_); rotate_left; (conv => whnf))
 | (refine W.resub (x := Code.region 7 _ _) (Γ' := ⟨[(0, .st false (curveT n w)), (1, .lit (.int .i64 (st))), (2, .st false (.arr (.int .i64) (s : List Int))), (7, .lit (.int .i64 (@List.length (Ty.int .i64).T w))), (8, .lit (.int .i64 (q))), (9, .lit (.bool (false))), (10, .lit (.int .i64 (x)))], []⟩) ?_ (W.region tys_ok [] ?_); rotate_left; (conv => whnf))
 | (refine W.resub (x := Code.region 13 _ _) (Γ' := ⟨[(0, .st false (curveT n w)), (1, .lit (.int .i64 (st))), (2, .st false (.arr (.int .i64) (s : List Int))), (7, .lit (.int .i64 (@List.length (Ty.int .i64).T w))), (8, .lit (.int .i64 (q))), (9, .lit (.bool (false))), (10, .lit (.int .i64 (x))), (11, .lit (.int .i64 (3))), (12, .st true (.sadr (.agg [.lit (.int .i64 0), .lit (.int .i64 2), .lit (.int .i64 1), .lit (.int .i64 3)])))], []⟩) ?_ (W.region tys_ok [] ?_); rotate_left; (conv => whnf))
 | (refine W.resub (x := Code.region 15 _ _) (Γ' := ⟨[(0, .st false (curveT n w)), (1, .lit (.int .i64 (st))), (2, .st false (.arr (.int .i64) (s : List Int))), (7, .lit (.int .i64 ((2 * n : Nat)))), (8, .lit (.int .i64 (q))), (9, .lit (.bool (false))), (13, .lit (.int .i64 (0))), (14, .lit (.int .i64 (p)))], []⟩) ?_ (W.region tys_ok [] ?_); rotate_left; (conv => whnf))
 | (refine W.region tys_ok [] ?_; conv => whnf)
 | (refine W.drawAll tys_ok [] mixed rfl ?_; conv => whnf)
 | (refine W.ret ?_; conv => whnf)
 | (refine W.skip ?_; conv => whnf)
 | (refine W.exit ?_; conv => whnf)
 | (refine call_at (al := false) (har) rfl rfl rfl rfl ?_; conv => whnf)
 | (refine call_at (al := false) (index_lit [0, 2, 1, 3] 3 3 (by decide) rfl) rfl rfl rfl rfl ?_; conv => whnf)

    | (refine W.cond rfl (fun hb => ?_) (fun hb => ?_) <;> (try simp only [Int.reduceToNat, Int.reduceTDiv, Int.reduceTMod, minL, maxL, pickB, zHB] at hb) <;> (try (first | (cases hb; done) | exact absurd hb (by decide) | (exfalso; omega))))
    | ((with_reducible refine And.intro ?_ ?_); (focus ((repeat' (first | (with_reducible rfl) | (with_reducible refine And.intro ?_ ?_) | omega | rfl | exact Or.inl rfl | exact Or.inr rfl | exact of_decide_eq_true rfl | exact Path.imp_of (of_decide_eq_true rfl) | (focus ((try simp only [Int.reduceToNat, Int.reduceTDiv, Int.reduceTMod, minL, maxL, pickB, zHB, InK, Path.imp, List.length_replicate, List.length_set, List.length_append, List.length_cons, List.length_nil] at *); omega)) | (refine app_le rfl ?_; omega))); done)); (conv => whnf))
    | ((with_reducible refine And.intro (Side.out ?_) ?_); rotate_left; (conv => whnf))
    | (refine retF1 ?_ <;> (conv => whnf) <;> repeat' (first
 | exact trivial
 | (with_reducible rfl)
 | ((with_reducible refine And.intro ?_ ?_) <;> conv => whnf)
 | omega
 | rfl
 | (refine congrArg (SV.arr _) ?_)
 | (refine congrArg (Value.int _) ?_)
 | (refine congrArg Value.bool ?_)))
 | (refine retF2 ?_ <;> (conv => whnf) <;> repeat' (first
 | exact trivial
 | (with_reducible rfl)
 | ((with_reducible refine And.intro ?_ ?_) <;> conv => whnf)
 | omega
 | rfl
 | (refine congrArg (SV.arr _) ?_)
 | (refine congrArg (Value.int _) ?_)
 | (refine congrArg Value.bool ?_)))); all_goals (try unfold Side)
  all_goals try (repeat' (first | (with_reducible rfl) | (with_reducible refine And.intro ?_ ?_) | omega | rfl | exact Or.inl rfl | exact Or.inr rfl | exact of_decide_eq_true rfl | exact Path.imp_of (of_decide_eq_true rfl) | (focus ((try simp only [Int.reduceToNat, Int.reduceTDiv, Int.reduceTMod, minL, maxL, pickB, zHB, InK, Path.imp, List.length_replicate, List.length_set, List.length_append, List.length_cons, List.length_nil] at *); omega)) | (refine app_le rfl ?_; omega)))
  all_goals first | (refine subF.ok ?_ <;> (conv => whnf) <;> repeat' (first
 | exact trivial
 | (with_reducible rfl)
 | ((with_reducible refine And.intro ?_ ?_) <;> conv => whnf)
 | omega
 | rfl
 | (refine congrArg (SV.arr _) ?_)
 | (refine congrArg (Value.int _) ?_)
 | (refine congrArg Value.bool ?_))) | skip
  all_goals try (repeat' (first | (with_reducible rfl) | (with_reducible refine And.intro ?_ ?_) | omega | rfl | exact Or.inl rfl | exact Or.inr rfl | exact of_decide_eq_true rfl | exact Path.imp_of (of_decide_eq_true rfl) | (focus ((try simp only [Int.reduceToNat, Int.reduceTDiv, Int.reduceTMod, minL, maxL, pickB, zHB, InK, Path.imp, List.length_replicate, List.length_set, List.length_append, List.length_cons, List.length_nil] at *); omega)) | (refine app_le rfl ?_; omega)))
set_option maxHeartbeats 4000000 in
theorem next_bmp {w s : List Int} {n x p q : Nat} {st : Int} (h : Word w n) (hn : n ≤ 10) (hl : s.length = n) (h0 : -((2 * n : Nat) : Int) ≤ st) (h1 : st < (2 * n : Nat)) (hx : x < n) (hpq : p < q) (hq : q < 2 * n)
    (hpl : placesT w x = [(p : Int), (q : Int)]) (hwa : w.getD p 0 = x) (hc : st < 0) (hat : -1 - st = (p : Int)) (hs : s.getD x 0 = -1) : FnAt Try.prog false 66 [curveT n w, .lit (.int .i64 st), .arr (.int .i64) s] (.lit (.int .i64 (-1 - ((q : Int) + (2 * n : Nat) - 1).tmod (2 * n : Nat)))) [] := by
  have hwl : @List.length (Ty.int .i64).T w = 2 * n := h.len
  have hsl : @List.length (Ty.int .i64).T s = n := hl
  have hPl : @List.length (Ty.sl (.int .i64)).T (PT w n) = n := PT_len
  have hPx : (PT w n).getD x [] = [(p : Int), (q : Int)] := (PT_get hx).trans hpl
  have hPs : @List.length (Ty.int .i64).T (@List.getD (Ty.sl (.int .i64)).T (PT w n) x (Ty.sl (.int .i64)).dflt) = 2 := by
    show ((PT w n).getD x []).length = 2
    rw [hPx]; rfl
  have hPs2 : ((PT w n).getD x []).length = 2 := hPs
  have hp2 : ((PT w n).getD x []).getD 0 0 = (p : Int) := by rw [hPx]; rfl
  have hq2 : ((PT w n).getD x []).getD 1 0 = (q : Int) := by rw [hPx]; rfl
  have ht0 := Int.tmod_nonneg (a := (q : Int) + (2 * n : Nat) - 1) (2 * n : Nat) (by omega)
  have ht1 := Int.tmod_lt_of_pos ((q : Int) + (2 * n : Nat) - 1) (b := (2 * n : Nat)) (by omega)
  have har : FnAt Try.prog false 72 [.lit (.int .i64 (s.getD x 0))] (.strct [.lit (.int .i64 0), .lit (.int .i64 3), .lit (.int .i64 1), .lit (.int .i64 2)]) [] := by
    rw [hs]; exact around_m
  refine FnAt.of_body tys_ok Try.func66 (by rfl) rfl Try.ntmps66 (by rw [Try.results66]) (by simp) ?_
  
  repeat' (first
 | refine W.seq ?_
 | refine W.block ?_
 | (refine W.resub (x := Code.region 6 _ _) (Γ' := ⟨[(0, .st false (curveT n w)), (1, .lit (.int .i64 (st))), (2, .st false (.arr (.int .i64) (s : List Int))), (7, .lit (.int .i64 (@List.length (Ty.int .i64).T w))), (8, .lit (.int .i64 (p))), (9, .lit (.bool (false)))], []⟩) ?_ (W.region tys_ok [] ?_); rotate_left; (conv => whnf))
 | (refine W.resub (x := Code.region 7 _ _) (Γ' := ⟨[(0, .st false (curveT n w)), (1, .lit (.int .i64 (st))), (2, .st false (.arr (.int .i64) (s : List Int))), (7, .lit (.int .i64 (@List.length (Ty.int .i64).T w))), (8, .lit (.int .i64 (p))), (9, .lit (.bool (false))), (10, .lit (.int .i64 (x)))], []⟩) ?_ (W.region tys_ok [] ?_); rotate_left; (conv => whnf))
 | (refine W.resub (x := Code.region 13 _ _) (Γ' := ⟨[(0, .st false (curveT n w)), (1, .lit (.int .i64 (st))), (2, .st false (.arr (.int .i64) (s : List Int))), (7, .lit (.int .i64 (@List.length (Ty.int .i64).T w))), (8, .lit (.int .i64 (p))), (9, .lit (.bool (false))), (10, .lit (.int .i64 (x))), (11, .lit (.int .i64 (1))), (12, .st true (.sadr (.agg [.lit (.int .i64 0), .lit (.int .i64 3), .lit (.int .i64 1), .lit (.int .i64 2)])))], []⟩) ?_ (W.region tys_ok [] ?_); rotate_left; (conv => whnf))
 | (refine W.resub (x := Code.region 15 _ _) (Γ' := ⟨[(0, .st false (curveT n w)), (1, .lit (.int .i64 (st))), (2, .st false (.arr (.int .i64) (s : List Int))), (7, .lit (.int .i64 ((2 * n : Nat)))), (8, .lit (.int .i64 (p))), (9, .lit (.bool (false))), (13, .lit (.int .i64 (2))), (14, .lit (.int .i64 (q)))], []⟩) ?_ (W.region tys_ok [] ?_); rotate_left; (conv => whnf))
 | (refine W.region tys_ok [] ?_; conv => whnf)
 | (refine W.drawAll tys_ok [] mixed rfl ?_; conv => whnf)
 | (refine W.ret ?_; conv => whnf)
 | (refine W.skip ?_; conv => whnf)
 | (refine W.exit ?_; conv => whnf)
 | (refine call_at (al := false) (har) rfl rfl rfl rfl ?_; conv => whnf)
 | (refine call_at (al := false) (index_lit [0, 3, 1, 2] 1 2 (by decide) rfl) rfl rfl rfl rfl ?_; conv => whnf)

    | (refine W.cond rfl (fun hb => ?_) (fun hb => ?_) <;> (try simp only [Int.reduceToNat, Int.reduceTDiv, Int.reduceTMod, minL, maxL, pickB, zHB] at hb) <;> (try (first | (cases hb; done) | exact absurd hb (by decide) | (exfalso; omega))))
    | ((with_reducible refine And.intro ?_ ?_); (focus ((repeat' (first | (with_reducible rfl) | (with_reducible refine And.intro ?_ ?_) | omega | rfl | exact Or.inl rfl | exact Or.inr rfl | exact of_decide_eq_true rfl | exact Path.imp_of (of_decide_eq_true rfl) | (focus ((try simp only [Int.reduceToNat, Int.reduceTDiv, Int.reduceTMod, minL, maxL, pickB, zHB, InK, Path.imp, List.length_replicate, List.length_set, List.length_append, List.length_cons, List.length_nil] at *); omega)) | (refine app_le rfl ?_; omega))); done)); (conv => whnf))
    | ((with_reducible refine And.intro (Side.out ?_) ?_); rotate_left; (conv => whnf))
    | (refine retF1 ?_ <;> (conv => whnf) <;> repeat' (first
 | exact trivial
 | (with_reducible rfl)
 | ((with_reducible refine And.intro ?_ ?_) <;> conv => whnf)
 | omega
 | rfl
 | (refine congrArg (SV.arr _) ?_)
 | (refine congrArg (Value.int _) ?_)
 | (refine congrArg Value.bool ?_)))
 | (refine retF2 ?_ <;> (conv => whnf) <;> repeat' (first
 | exact trivial
 | (with_reducible rfl)
 | ((with_reducible refine And.intro ?_ ?_) <;> conv => whnf)
 | omega
 | rfl
 | (refine congrArg (SV.arr _) ?_)
 | (refine congrArg (Value.int _) ?_)
 | (refine congrArg Value.bool ?_)))); all_goals (try unfold Side)
  all_goals try (repeat' (first | (with_reducible rfl) | (with_reducible refine And.intro ?_ ?_) | omega | rfl | exact Or.inl rfl | exact Or.inr rfl | exact of_decide_eq_true rfl | exact Path.imp_of (of_decide_eq_true rfl) | (focus ((try simp only [Int.reduceToNat, Int.reduceTDiv, Int.reduceTMod, minL, maxL, pickB, zHB, InK, Path.imp, List.length_replicate, List.length_set, List.length_append, List.length_cons, List.length_nil] at *); omega)) | (refine app_le rfl ?_; omega)))
  all_goals first | (refine subF.ok ?_ <;> (conv => whnf) <;> repeat' (first
 | exact trivial
 | (with_reducible rfl)
 | ((with_reducible refine And.intro ?_ ?_) <;> conv => whnf)
 | omega
 | rfl
 | (refine congrArg (SV.arr _) ?_)
 | (refine congrArg (Value.int _) ?_)
 | (refine congrArg Value.bool ?_))) | skip
  all_goals try (repeat' (first | (with_reducible rfl) | (with_reducible refine And.intro ?_ ?_) | omega | rfl | exact Or.inl rfl | exact Or.inr rfl | exact of_decide_eq_true rfl | exact Path.imp_of (of_decide_eq_true rfl) | (focus ((try simp only [Int.reduceToNat, Int.reduceTDiv, Int.reduceTMod, minL, maxL, pickB, zHB, InK, Path.imp, List.length_replicate, List.length_set, List.length_append, List.length_cons, List.length_nil] at *); omega)) | (refine app_le rfl ?_; omega)))
set_option maxHeartbeats 4000000 in
theorem next_bmq {w s : List Int} {n x p q : Nat} {st : Int} (h : Word w n) (hn : n ≤ 10) (hl : s.length = n) (h0 : -((2 * n : Nat) : Int) ≤ st) (h1 : st < (2 * n : Nat)) (hx : x < n) (hpq : p < q) (hq : q < 2 * n)
    (hpl : placesT w x = [(p : Int), (q : Int)]) (hwa : w.getD q 0 = x) (hc : st < 0) (hat : -1 - st = (q : Int)) (hs : s.getD x 0 = -1) : FnAt Try.prog false 66 [curveT n w, .lit (.int .i64 st), .arr (.int .i64) s] (.lit (.int .i64 ((p : Int)))) [] := by
  have hwl : @List.length (Ty.int .i64).T w = 2 * n := h.len
  have hsl : @List.length (Ty.int .i64).T s = n := hl
  have hPl : @List.length (Ty.sl (.int .i64)).T (PT w n) = n := PT_len
  have hPx : (PT w n).getD x [] = [(p : Int), (q : Int)] := (PT_get hx).trans hpl
  have hPs : @List.length (Ty.int .i64).T (@List.getD (Ty.sl (.int .i64)).T (PT w n) x (Ty.sl (.int .i64)).dflt) = 2 := by
    show ((PT w n).getD x []).length = 2
    rw [hPx]; rfl
  have hPs2 : ((PT w n).getD x []).length = 2 := hPs
  have hp2 : ((PT w n).getD x []).getD 0 0 = (p : Int) := by rw [hPx]; rfl
  have hq2 : ((PT w n).getD x []).getD 1 0 = (q : Int) := by rw [hPx]; rfl
  have ht0 := Int.tmod_nonneg (a := (p : Int) + (2 * n : Nat) - 1) (2 * n : Nat) (by omega)
  have ht1 := Int.tmod_lt_of_pos ((p : Int) + (2 * n : Nat) - 1) (b := (2 * n : Nat)) (by omega)
  have har : FnAt Try.prog false 72 [.lit (.int .i64 (s.getD x 0))] (.strct [.lit (.int .i64 0), .lit (.int .i64 3), .lit (.int .i64 1), .lit (.int .i64 2)]) [] := by
    rw [hs]; exact around_m
  refine FnAt.of_body tys_ok Try.func66 (by rfl) rfl Try.ntmps66 (by rw [Try.results66]) (by simp) ?_
  
  repeat' (first
 | refine W.seq ?_
 | refine W.block ?_
 | (refine W.resub (x := Code.region 6 _ _) (Γ' := ⟨[(0, .st false (curveT n w)), (1, .lit (.int .i64 (st))), (2, .st false (.arr (.int .i64) (s : List Int))), (7, .lit (.int .i64 (@List.length (Ty.int .i64).T w))), (8, .lit (.int .i64 (q))), (9, .lit (.bool (false)))], []⟩) ?_ (W.region tys_ok [] ?_); rotate_left; (conv => whnf))
 | (refine W.resub (x := Code.region 7 _ _) (Γ' := ⟨[(0, .st false (curveT n w)), (1, .lit (.int .i64 (st))), (2, .st false (.arr (.int .i64) (s : List Int))), (7, .lit (.int .i64 (@List.length (Ty.int .i64).T w))), (8, .lit (.int .i64 (q))), (9, .lit (.bool (false))), (10, .lit (.int .i64 (x)))], []⟩) ?_ (W.region tys_ok [] ?_); rotate_left; (conv => whnf))
 | (refine W.resub (x := Code.region 13 _ _) (Γ' := ⟨[(0, .st false (curveT n w)), (1, .lit (.int .i64 (st))), (2, .st false (.arr (.int .i64) (s : List Int))), (7, .lit (.int .i64 (@List.length (Ty.int .i64).T w))), (8, .lit (.int .i64 (q))), (9, .lit (.bool (false))), (10, .lit (.int .i64 (x))), (11, .lit (.int .i64 (3))), (12, .st true (.sadr (.agg [.lit (.int .i64 0), .lit (.int .i64 3), .lit (.int .i64 1), .lit (.int .i64 2)])))], []⟩) ?_ (W.region tys_ok [] ?_); rotate_left; (conv => whnf))
 | (refine W.resub (x := Code.region 15 _ _) (Γ' := ⟨[(0, .st false (curveT n w)), (1, .lit (.int .i64 (st))), (2, .st false (.arr (.int .i64) (s : List Int))), (7, .lit (.int .i64 ((2 * n : Nat)))), (8, .lit (.int .i64 (q))), (9, .lit (.bool (false))), (13, .lit (.int .i64 (1))), (14, .lit (.int .i64 (p)))], []⟩) ?_ (W.region tys_ok [] ?_); rotate_left; (conv => whnf))
 | (refine W.region tys_ok [] ?_; conv => whnf)
 | (refine W.drawAll tys_ok [] mixed rfl ?_; conv => whnf)
 | (refine W.ret ?_; conv => whnf)
 | (refine W.skip ?_; conv => whnf)
 | (refine W.exit ?_; conv => whnf)
 | (refine call_at (al := false) (har) rfl rfl rfl rfl ?_; conv => whnf)
 | (refine call_at (al := false) (index_lit [0, 3, 1, 2] 3 1 (by decide) rfl) rfl rfl rfl rfl ?_; conv => whnf)

    | (refine W.cond rfl (fun hb => ?_) (fun hb => ?_) <;> (try simp only [Int.reduceToNat, Int.reduceTDiv, Int.reduceTMod, minL, maxL, pickB, zHB] at hb) <;> (try (first | (cases hb; done) | exact absurd hb (by decide) | (exfalso; omega))))
    | ((with_reducible refine And.intro ?_ ?_); (focus ((repeat' (first | (with_reducible rfl) | (with_reducible refine And.intro ?_ ?_) | omega | rfl | exact Or.inl rfl | exact Or.inr rfl | exact of_decide_eq_true rfl | exact Path.imp_of (of_decide_eq_true rfl) | (focus ((try simp only [Int.reduceToNat, Int.reduceTDiv, Int.reduceTMod, minL, maxL, pickB, zHB, InK, Path.imp, List.length_replicate, List.length_set, List.length_append, List.length_cons, List.length_nil] at *); omega)) | (refine app_le rfl ?_; omega))); done)); (conv => whnf))
    | ((with_reducible refine And.intro (Side.out ?_) ?_); rotate_left; (conv => whnf))
    | (refine retF1 ?_ <;> (conv => whnf) <;> repeat' (first
 | exact trivial
 | (with_reducible rfl)
 | ((with_reducible refine And.intro ?_ ?_) <;> conv => whnf)
 | omega
 | rfl
 | (refine congrArg (SV.arr _) ?_)
 | (refine congrArg (Value.int _) ?_)
 | (refine congrArg Value.bool ?_)))
 | (refine retF2 ?_ <;> (conv => whnf) <;> repeat' (first
 | exact trivial
 | (with_reducible rfl)
 | ((with_reducible refine And.intro ?_ ?_) <;> conv => whnf)
 | omega
 | rfl
 | (refine congrArg (SV.arr _) ?_)
 | (refine congrArg (Value.int _) ?_)
 | (refine congrArg Value.bool ?_)))); all_goals (try unfold Side)
  all_goals try (repeat' (first | (with_reducible rfl) | (with_reducible refine And.intro ?_ ?_) | omega | rfl | exact Or.inl rfl | exact Or.inr rfl | exact of_decide_eq_true rfl | exact Path.imp_of (of_decide_eq_true rfl) | (focus ((try simp only [Int.reduceToNat, Int.reduceTDiv, Int.reduceTMod, minL, maxL, pickB, zHB, InK, Path.imp, List.length_replicate, List.length_set, List.length_append, List.length_cons, List.length_nil] at *); omega)) | (refine app_le rfl ?_; omega)))
  all_goals first | (refine subF.ok ?_ <;> (conv => whnf) <;> repeat' (first
 | exact trivial
 | (with_reducible rfl)
 | ((with_reducible refine And.intro ?_ ?_) <;> conv => whnf)
 | omega
 | rfl
 | (refine congrArg (SV.arr _) ?_)
 | (refine congrArg (Value.int _) ?_)
 | (refine congrArg Value.bool ?_))) | skip
  all_goals try (repeat' (first | (with_reducible rfl) | (with_reducible refine And.intro ?_ ?_) | omega | rfl | exact Or.inl rfl | exact Or.inr rfl | exact of_decide_eq_true rfl | exact Path.imp_of (of_decide_eq_true rfl) | (focus ((try simp only [Int.reduceToNat, Int.reduceTDiv, Int.reduceTMod, minL, maxL, pickB, zHB, InK, Path.imp, List.length_replicate, List.length_set, List.length_append, List.length_cons, List.length_nil] at *); omega)) | (refine app_le rfl ?_; omega)))
end Go.Proofs.Ytdfajcfkdfjoeaa
/- The step that follows a step: the two agree. No condition. -/
namespace Go.Proofs.Ytdfajcfkdfjoeaa
open Go Go.Vc Go.Scr
set_option linter.unusedVariables false
set_option linter.unusedSimpArgs false

theorem next_at {w s : List Int} {n : Nat} (h : Word w n) (hn : n ≤ 10) (hs : signsB s n = true) {st : Int} (h0 : -((2 * n : Nat) : Int) ≤ st) (h1 : st < (2 * n : Nat)) : FnAt Try.prog false 66 [curveT n w, .lit (.int .i64 st), .arr (.int .i64) s] (.lit (.int .i64 (nextT w s st))) [] := by
  simp only [signsB, Bool.and_eq_true, decide_eq_true_eq] at hs
  obtain ⟨a, x, p, q, ha, hat, hx, hwa, hpq, hq, hpl, hpp, hsg, hnx⟩ := at_of h hs.1 hs.2 h0 h1
  rw [hnx]
  by_cases hc : 0 ≤ st
  · have hd : decide (0 ≤ st) = true := decide_eq_true hc
    have hat' : (st + 1).tmod ((2 * n : Nat) : Int) = a := by rw [atT, if_pos hc] at hat; exact hat
    rcases hpp with rfl | rfl <;> rcases hsg with hsg | hsg
    · have := next_fpp h hn hs.2 h0 h1 hx hpq hq hpl hwa hc hat' hsg
      have e1 : decide (s.getD x 0 = 1) = true := decide_eq_true hsg
      have e2 : decide (a = a) = true := decide_eq_true rfl
      rw [hd, e1, e2, show (a : Int) + q - a = q by omega]
      exact this
    · have := next_fmp h hn hs.2 h0 h1 hx hpq hq hpl hwa hc hat' hsg
      have e1 : decide (s.getD x 0 = 1) = false := decide_eq_false (by rw [hsg]; decide)
      have e2 : decide (a = a) = true := decide_eq_true rfl
      rw [hd, e1, e2, show (a : Int) + q - a = q by omega]
      exact this
    · have := next_fpq h hn hs.2 h0 h1 hx hpq hq hpl hwa hc hat' hsg
      have e1 : decide (s.getD x 0 = 1) = true := decide_eq_true hsg
      have e2 : decide (a = p) = false := decide_eq_false (by omega)
      rw [hd, e1, e2, show (p : Int) + a - a = p by omega]
      exact this
    · have := next_fmq h hn hs.2 h0 h1 hx hpq hq hpl hwa hc hat' hsg
      have e1 : decide (s.getD x 0 = 1) = false := decide_eq_false (by rw [hsg]; decide)
      have e2 : decide (a = p) = false := decide_eq_false (by omega)
      rw [hd, e1, e2, show (p : Int) + a - a = p by omega]
      exact this
  · have hd : decide (0 ≤ st) = false := decide_eq_false hc
    have hat' : -1 - st = (a : Int) := by rw [atT, if_neg hc] at hat; exact hat
    have hc' : st < 0 := by omega
    rcases hpp with rfl | rfl <;> rcases hsg with hsg | hsg
    · have := next_bpp h hn hs.2 h0 h1 hx hpq hq hpl hwa hc' hat' hsg
      have e1 : decide (s.getD x 0 = 1) = true := decide_eq_true hsg
      have e2 : decide (a = a) = true := decide_eq_true rfl
      rw [hd, e1, e2, show (a : Int) + q - a = q by omega]
      exact this
    · have := next_bmp h hn hs.2 h0 h1 hx hpq hq hpl hwa hc' hat' hsg
      have e1 : decide (s.getD x 0 = 1) = false := decide_eq_false (by rw [hsg]; decide)
      have e2 : decide (a = a) = true := decide_eq_true rfl
      rw [hd, e1, e2, show (a : Int) + q - a = q by omega]
      exact this
    · have := next_bpq h hn hs.2 h0 h1 hx hpq hq hpl hwa hc' hat' hsg
      have e1 : decide (s.getD x 0 = 1) = true := decide_eq_true hsg
      have e2 : decide (a = p) = false := decide_eq_false (by omega)
      rw [hd, e1, e2, show (p : Int) + a - a = p by omega]
      exact this
    · have := next_bmq h hn hs.2 h0 h1 hx hpq hq hpl hwa hc' hat' hsg
      have e1 : decide (s.getD x 0 = 1) = false := decide_eq_false (by rw [hsg]; decide)
      have e2 : decide (a = p) = false := decide_eq_false (by omega)
      rw [hd, e1, e2, show (p : Int) + a - a = p by omega]
      exact this

set_option maxHeartbeats 4000000 in
theorem nref_f {w s : List Int} {n a x p q : Nat} {st : Int} (h : Word w n) (hn : n ≤ 10) (hl : s.length = n) (h0 : -((2 * n : Nat) : Int) ≤ st) (h1 : st < (2 * n : Nat)) (hA : At w s n st a x p q) (hc : 0 ≤ st) : FnAt Try.prog false 51 [.arr (.int .i64) w, .arr (.int .i64) s, .lit (.int .i64 st)] (.lit (.int .i64 (nextT w s st))) [] := by
  have hwl : @List.length (Ty.int .i64).T w = 2 * n := h.len
  have hsl : @List.length (Ty.int .i64).T s = n := hl
  have hwl0 := h.len
  obtain ⟨ha, hat, hx, hwa, hpq, hq, hpl, hpp, hsg, hnx⟩ := hA
  have hat' : (st + 1).tmod ((2 * n : Nat) : Int) = a := by
    unfold atT at hat
    rwa [if_pos hc] at hat
  have hdc : decide (0 ≤ st) = true := decide_eq_true hc
  have ht0 := Int.tmod_nonneg (a := (p : Int) + q - a + (2 * n : Nat) - 1) (2 * n : Nat) (by omega)
  have ht1 := Int.tmod_lt_of_pos ((p : Int) + q - a + (2 * n : Nat) - 1) (b := (2 * n : Nat)) (by omega)
  have ht0w : 0 ≤ ((p : Int) + q - a + @List.length (Ty.int .i64).T w - 1).tmod (@List.length (Ty.int .i64).T w) := by rw [hwl]; exact ht0
  have ht1w : ((p : Int) + q - a + @List.length (Ty.int .i64).T w - 1).tmod (@List.length (Ty.int .i64).T w) < (2 * n : Nat) := by rw [hwl]; exact ht1
  rw [hdc] at hnx
  have hP := places_at w x (by omega)
  rw [hpl] at hP
  obtain ⟨t, ht⟩ : ∃ t, t = (decide (s.getD x 0 = 1) == decide (a = p)) := ⟨_, rfl⟩
  rw [← ht] at hnx
  have ht' : (decide (s.getD x 0 = 1) == decide ((a : Int) = p)) = t := by
    rw [ht]; congr 1; rw [decide_eq_decide]; omega
  refine FnAt.of_body tys_ok Try.func51 (by rfl) rfl Try.ntmps51 (by rw [Try.results51]) (by simp) ?_
  
  repeat' (first
 | refine W.seq ?_
 | refine W.block ?_
 | (refine W.resub (x := Code.region 4 _ _) (Γ' := ⟨[(0, .st false (.arr (.int .i64) (w : List Int))), (1, .st false (.arr (.int .i64) (s : List Int))), (2, .lit (.int .i64 (st))), (7, .lit (.int .i64 (a))), (8, .lit (.bool (true)))], []⟩) ?_ (W.region tys_ok [10, 28] ?_); rotate_left; (conv => whnf))
 | (refine W.resub (x := Code.region 5 _ _) (Γ' := ⟨[(0, .st false (.arr (.int .i64) (w : List Int))), (1, .st false (.arr (.int .i64) (s : List Int))), (2, .lit (.int .i64 (st))), (7, .lit (.int .i64 (a))), (8, .lit (.bool (true))), (9, .lit (.int .i64 (x)))], []⟩) ?_ (W.region tys_ok [10, 28] ?_); rotate_left; (conv => whnf))
 | (refine W.drawPhTo (id := 6) tys_ok [10, 28] mixed [0, 1, 2, 0, 8, 16, 36, 0, 192, 511] [([0, 1, 2, 3, 4, 5, 6, 7, 8, 9], 0, 1023)] ⟨[(0, .st false (.arr (.int .i64) (w : List Int))), (1, .st false (.arr (.int .i64) (s : List Int))), (2, .lit (.int .i64 (st))), (7, .lit (.int .i64 (a))), (8, .lit (.bool (true))), (9, .lit (.int .i64 (x))), (10, .st true (.arr (.int .i64) ([(p : Int), (q : Int)] : List Int))), (11, .lit (.int .i64 ((p : Int) + q - a)))], []⟩ (by decide +kernel) ?_ ?_ <;> (conv => whnf))
 | (refine W.drawPhTo (id := 7) tys_ok [10, 28] mixed [0, 0, 3, 4, 8, 0, 0, 64, 128, 288, 528, 2047] [([0, 1, 2, 3, 4, 5, 6, 7, 8, 9, 10, 11], 0, 4095)] ⟨[(0, .st false (.arr (.int .i64) (w : List Int))), (1, .st false (.arr (.int .i64) (s : List Int))), (2, .lit (.int .i64 (st))), (7, .lit (.int .i64 (a))), (8, .lit (.bool (true))), (11, .lit (.int .i64 ((p : Int) + q - a))), (12, .lit (.bool (t)))], []⟩ (by decide +kernel) ?_ ?_ <;> (conv => whnf))
 | (refine W.resub (x := Code.region 9 _ _) (Γ' := ⟨[(0, .st false (.arr (.int .i64) w)), (2, .lit (.int .i64 st)), (11, .lit (.int .i64 ((p : Int) + q - a)))], []⟩) ?_ (W.region tys_ok [10, 28] ?_); rotate_left; (conv => whnf))
 | (refine W.region tys_ok [10, 28] ?_; conv => whnf)
 | (refine W.drawAll tys_ok [10, 28] mixed rfl ?_; conv => whnf)
 | (refine W.ret ?_; conv => whnf)
 | (refine W.skip ?_; conv => whnf)
 | (refine W.exit ?_; conv => whnf)
 | (refine call_at (al := false) (hP) rfl rfl rfl rfl ?_; conv => whnf)

    | (refine Both.mk ?_ ?_ <;> (conv => whnf))
    | (refine subF.leaf ?_ <;> (conv => whnf) <;> repeat' (first
 | exact trivial
 | (with_reducible rfl)
 | ((with_reducible refine And.intro ?_ ?_) <;> conv => whnf)
 | omega
 | rfl
 | (refine congrArg (SV.arr _) ?_)
 | (refine congrArg (Value.int _) ?_)
 | (refine congrArg Value.bool ?_)))
 | (refine subF.side ?_ <;> (conv => whnf) <;> repeat' (first
 | exact trivial
 | (with_reducible rfl)
 | ((with_reducible refine And.intro ?_ ?_) <;> conv => whnf)
 | omega
 | rfl
 | (refine congrArg (SV.arr _) ?_)
 | (refine congrArg (Value.int _) ?_)
 | (refine congrArg Value.bool ?_)))
 | (refine W.cond rfl (fun hb => ?_) (fun hb => ?_) <;> (try simp only [Int.reduceToNat, Int.reduceTDiv, Int.reduceTMod, minL, maxL, pickB, zHB] at hb) <;> (try (first | (cases hb; done) | exact absurd hb (by decide) | (exfalso; omega))))
 | ((with_reducible refine And.intro ?_ ?_); (focus ((repeat' (first | (with_reducible rfl) | (with_reducible refine And.intro ?_ ?_) | omega | rfl | exact Or.inl rfl | exact Or.inr rfl | exact of_decide_eq_true rfl | exact Path.imp_of (of_decide_eq_true rfl) | (focus ((try simp only [Int.reduceToNat, Int.reduceTDiv, Int.reduceTMod, minL, maxL, pickB, zHB, InK, Path.imp, List.length_replicate, List.length_set, List.length_append, List.length_cons, List.length_nil] at *); omega)) | (refine app_le rfl ?_; omega))); done)); (conv => whnf))
 | ((with_reducible refine And.intro (Side.out ?_) ?_); rotate_left; (conv => whnf))
 | (refine retF1 ?_ <;> (conv => whnf) <;> repeat' (first
 | exact trivial
 | (with_reducible rfl)
 | ((with_reducible refine And.intro ?_ ?_) <;> conv => whnf)
 | omega
 | rfl
 | (refine congrArg (SV.arr _) ?_)
 | (refine congrArg (Value.int _) ?_)
 | (refine congrArg Value.bool ?_)))
 | (refine retF2 ?_ <;> (conv => whnf) <;> repeat' (first
 | exact trivial
 | (with_reducible rfl)
 | ((with_reducible refine And.intro ?_ ?_) <;> conv => whnf)
 | omega
 | rfl
 | (refine congrArg (SV.arr _) ?_)
 | (refine congrArg (Value.int _) ?_)
 | (refine congrArg Value.bool ?_)))); all_goals (try unfold Side)
  all_goals try (repeat' (first | (with_reducible rfl) | (with_reducible refine And.intro ?_ ?_) | omega | rfl | exact Or.inl rfl | exact Or.inr rfl | exact of_decide_eq_true rfl | exact Path.imp_of (of_decide_eq_true rfl) | (focus ((try simp only [Int.reduceToNat, Int.reduceTDiv, Int.reduceTMod, minL, maxL, pickB, zHB, InK, Path.imp, List.length_replicate, List.length_set, List.length_append, List.length_cons, List.length_nil] at *); omega)) | (refine app_le rfl ?_; omega)))
  all_goals first
    | (rw [hnx, if_pos hb]; show -1 - Int.tmod ((p : Int) + q - a + (w.length : Nat) - 1) (w.length : Nat) = _; rw [hwl0])
    | (rw [hnx, if_neg (by rw [hb]; simp)]; done)
    | (rw [hwl]; exact hat')
set_option maxHeartbeats 4000000 in
theorem nref_b {w s : List Int} {n a x p q : Nat} {st : Int} (h : Word w n) (hn : n ≤ 10) (hl : s.length = n) (h0 : -((2 * n : Nat) : Int) ≤ st) (h1 : st < (2 * n : Nat)) (hA : At w s n st a x p q) (hc : st < 0) : FnAt Try.prog false 51 [.arr (.int .i64) w, .arr (.int .i64) s, .lit (.int .i64 st)] (.lit (.int .i64 (nextT w s st))) [] := by
  have hwl : @List.length (Ty.int .i64).T w = 2 * n := h.len
  have hsl : @List.length (Ty.int .i64).T s = n := hl
  have hwl0 := h.len
  obtain ⟨ha, hat, hx, hwa, hpq, hq, hpl, hpp, hsg, hnx⟩ := hA
  have hat' : -1 - st = (a : Int) := by
    unfold atT at hat
    rwa [if_neg (by omega)] at hat
  have hdc : decide (0 ≤ st) = false := decide_eq_false (by omega)
  have ht0 := Int.tmod_nonneg (a := (p : Int) + q - a + (2 * n : Nat) - 1) (2 * n : Nat) (by omega)
  have ht1 := Int.tmod_lt_of_pos ((p : Int) + q - a + (2 * n : Nat) - 1) (b := (2 * n : Nat)) (by omega)
  have ht0w : 0 ≤ ((p : Int) + q - a + @List.length (Ty.int .i64).T w - 1).tmod (@List.length (Ty.int .i64).T w) := by rw [hwl]; exact ht0
  have ht1w : ((p : Int) + q - a + @List.length (Ty.int .i64).T w - 1).tmod (@List.length (Ty.int .i64).T w) < (2 * n : Nat) := by rw [hwl]; exact ht1
  rw [hdc] at hnx
  have hP := places_at w x (by omega)
  rw [hpl] at hP
  obtain ⟨t, ht⟩ : ∃ t, t = (decide (s.getD x 0 = 1) == decide (a = p)) := ⟨_, rfl⟩
  rw [← ht] at hnx
  have ht' : (decide (s.getD x 0 = 1) == decide ((a : Int) = p)) = t := by
    rw [ht]; congr 1; rw [decide_eq_decide]; omega
  refine FnAt.of_body tys_ok Try.func51 (by rfl) rfl Try.ntmps51 (by rw [Try.results51]) (by simp) ?_
  
  repeat' (first
 | refine W.seq ?_
 | refine W.block ?_
 | (refine W.resub (x := Code.region 4 _ _) (Γ' := ⟨[(0, .st false (.arr (.int .i64) (w : List Int))), (1, .st false (.arr (.int .i64) (s : List Int))), (2, .lit (.int .i64 (st))), (7, .lit (.int .i64 (a))), (8, .lit (.bool (false)))], []⟩) ?_ (W.region tys_ok [10, 28] ?_); rotate_left; (conv => whnf))
 | (refine W.resub (x := Code.region 5 _ _) (Γ' := ⟨[(0, .st false (.arr (.int .i64) (w : List Int))), (1, .st false (.arr (.int .i64) (s : List Int))), (2, .lit (.int .i64 (st))), (7, .lit (.int .i64 (a))), (8, .lit (.bool (false))), (9, .lit (.int .i64 (x)))], []⟩) ?_ (W.region tys_ok [10, 28] ?_); rotate_left; (conv => whnf))
 | (refine W.drawPhTo (id := 6) tys_ok [10, 28] mixed [0, 1, 2, 0, 8, 16, 36, 0, 192, 511] [([0, 1, 2, 3, 4, 5, 6, 7, 8, 9], 0, 1023)] ⟨[(0, .st false (.arr (.int .i64) (w : List Int))), (1, .st false (.arr (.int .i64) (s : List Int))), (2, .lit (.int .i64 (st))), (7, .lit (.int .i64 (a))), (8, .lit (.bool (false))), (9, .lit (.int .i64 (x))), (10, .st true (.arr (.int .i64) ([(p : Int), (q : Int)] : List Int))), (11, .lit (.int .i64 ((p : Int) + q - a)))], []⟩ (by decide +kernel) ?_ ?_ <;> (conv => whnf))
 | (refine W.drawPhTo (id := 7) tys_ok [10, 28] mixed [0, 0, 3, 4, 8, 0, 0, 64, 128, 288, 528, 2047] [([0, 1, 2, 3, 4, 5, 6, 7, 8, 9, 10, 11], 0, 4095)] ⟨[(0, .st false (.arr (.int .i64) (w : List Int))), (1, .st false (.arr (.int .i64) (s : List Int))), (2, .lit (.int .i64 (st))), (7, .lit (.int .i64 (a))), (8, .lit (.bool (false))), (11, .lit (.int .i64 ((p : Int) + q - a))), (12, .lit (.bool (t)))], []⟩ (by decide +kernel) ?_ ?_ <;> (conv => whnf))
 | (refine W.resub (x := Code.region 9 _ _) (Γ' := ⟨[(0, .st false (.arr (.int .i64) w)), (2, .lit (.int .i64 st)), (11, .lit (.int .i64 ((p : Int) + q - a)))], []⟩) ?_ (W.region tys_ok [10, 28] ?_); rotate_left; (conv => whnf))
 | (refine W.region tys_ok [10, 28] ?_; conv => whnf)
 | (refine W.drawAll tys_ok [10, 28] mixed rfl ?_; conv => whnf)
 | (refine W.ret ?_; conv => whnf)
 | (refine W.skip ?_; conv => whnf)
 | (refine W.exit ?_; conv => whnf)
 | (refine call_at (al := false) (hP) rfl rfl rfl rfl ?_; conv => whnf)

    | (refine Both.mk ?_ ?_ <;> (conv => whnf))
    | (refine subF.leaf ?_ <;> (conv => whnf) <;> repeat' (first
 | exact trivial
 | (with_reducible rfl)
 | ((with_reducible refine And.intro ?_ ?_) <;> conv => whnf)
 | omega
 | rfl
 | (refine congrArg (SV.arr _) ?_)
 | (refine congrArg (Value.int _) ?_)
 | (refine congrArg Value.bool ?_)))
 | (refine subF.side ?_ <;> (conv => whnf) <;> repeat' (first
 | exact trivial
 | (with_reducible rfl)
 | ((with_reducible refine And.intro ?_ ?_) <;> conv => whnf)
 | omega
 | rfl
 | (refine congrArg (SV.arr _) ?_)
 | (refine congrArg (Value.int _) ?_)
 | (refine congrArg Value.bool ?_)))
 | (refine W.cond rfl (fun hb => ?_) (fun hb => ?_) <;> (try simp only [Int.reduceToNat, Int.reduceTDiv, Int.reduceTMod, minL, maxL, pickB, zHB] at hb) <;> (try (first | (cases hb; done) | exact absurd hb (by decide) | (exfalso; omega))))
 | ((with_reducible refine And.intro ?_ ?_); (focus ((repeat' (first | (with_reducible rfl) | (with_reducible refine And.intro ?_ ?_) | omega | rfl | exact Or.inl rfl | exact Or.inr rfl | exact of_decide_eq_true rfl | exact Path.imp_of (of_decide_eq_true rfl) | (focus ((try simp only [Int.reduceToNat, Int.reduceTDiv, Int.reduceTMod, minL, maxL, pickB, zHB, InK, Path.imp, List.length_replicate, List.length_set, List.length_append, List.length_cons, List.length_nil] at *); omega)) | (refine app_le rfl ?_; omega))); done)); (conv => whnf))
 | ((with_reducible refine And.intro (Side.out ?_) ?_); rotate_left; (conv => whnf))
 | (refine retF1 ?_ <;> (conv => whnf) <;> repeat' (first
 | exact trivial
 | (with_reducible rfl)
 | ((with_reducible refine And.intro ?_ ?_) <;> conv => whnf)
 | omega
 | rfl
 | (refine congrArg (SV.arr _) ?_)
 | (refine congrArg (Value.int _) ?_)
 | (refine congrArg Value.bool ?_)))
 | (refine retF2 ?_ <;> (conv => whnf) <;> repeat' (first
 | exact trivial
 | (with_reducible rfl)
 | ((with_reducible refine And.intro ?_ ?_) <;> conv => whnf)
 | omega
 | rfl
 | (refine congrArg (SV.arr _) ?_)
 | (refine congrArg (Value.int _) ?_)
 | (refine congrArg Value.bool ?_)))); all_goals (try unfold Side)
  all_goals try (repeat' (first | (with_reducible rfl) | (with_reducible refine And.intro ?_ ?_) | omega | rfl | exact Or.inl rfl | exact Or.inr rfl | exact of_decide_eq_true rfl | exact Path.imp_of (of_decide_eq_true rfl) | (focus ((try simp only [Int.reduceToNat, Int.reduceTDiv, Int.reduceTMod, minL, maxL, pickB, zHB, InK, Path.imp, List.length_replicate, List.length_set, List.length_append, List.length_cons, List.length_nil] at *); omega)) | (refine app_le rfl ?_; omega)))
  all_goals first
    | (rw [hnx, if_pos hb]; show -1 - Int.tmod ((p : Int) + q - a + (w.length : Nat) - 1) (w.length : Nat) = _; rw [hwl0])
    | (rw [hnx, if_neg (by rw [hb]; simp)]; done)
    | (rw [hwl]; exact hat')
end Go.Proofs.Ytdfajcfkdfjoeaa
