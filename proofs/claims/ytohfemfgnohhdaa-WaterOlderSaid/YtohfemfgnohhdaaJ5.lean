/- Joined of: W26 W30 Vc27 W42 W43 W44. No condition. -/
import Derived.Test.YtohfemfgnohhdaaJ3
import Derived.Test.YtohfemfgnohhdaaJ2
import Derived.Test.YtohfemfgnohhdaaJ4

/- The document's worth alone of a group, shares, prices. No condition. -/
namespace Go.Proofs.Ytohfemfgnohhdaa
open Go Go.Vc
set_option linter.unusedVariables false
set_option linter.unusedSimpArgs false

theorem app_le {a b N : Nat} (hb : b = 1) (h : a + 1 ≤ N) : a + b ≤ N := by omega
/-- How many numbers follow, each by one. -/
def runT (a : Int) : List Int → Nat
  | [] => 0
  | b :: r => if b = a + 1 then runT b r + 1 else 0
theorem runT_le : ∀ {a : Int} {r : List Int}, runT a r ≤ r.length
  | _, [] => Nat.le_refl _
  | a, b :: r => by
    simp only [runT]
    split
    · have := runT_le (a := b) (r := r); simp only [List.length_cons]; omega
    · omega
/-- The worth of places that follow each other. -/
def rowV (fl : List Int) (gs : List (List Int)) (a : Nat) (n : Nat) : Int := val ((fl.take (a + n)).drop a) ((gs.take (a + n)).drop a)
def aloneF (fl : List Int) (gs : List (List Int)) : Nat → List Int → Int
  | 0, _ => 0
  | _ + 1, [] => 0
  | k + 1, a :: r => rowV fl gs a.toNat (runT a r + 1) + aloneF fl gs k (r.drop (runT a r))
def aloneL (fl : List Int) (gs : List (List Int)) (g : List Int) : Int := aloneF fl gs g.length g
/-- Numbers that rise, each a place. -/
structure Grp (n : Nat) (g : List Int) : Prop where
  val : ∀ i, i < g.length → 0 ≤ g.getD i 0 ∧ g.getD i 0 < n
  rise : ∀ i, i + 1 < g.length → g.getD i 0 < g.getD (i + 1) 0

theorem Grp.mono {n : Nat} {g : List Int} (h : Grp n g) : ∀ {i j : Nat}, i < j → j < g.length → g.getD i 0 + ((j : Int) - i) ≤ g.getD j 0
  | i, 0, h1, _ => by omega
  | i, j + 1, h1, h2 => by
    have h3 := h.rise j h2
    by_cases e : i = j
    · subst e; omega
    · have := h.mono (i := i) (j := j) (by omega) (by omega); omega
theorem Grp.len {n : Nat} {g : List Int} (h : Grp n g) : g.length ≤ n := by
  by_cases e : g.length = 0
  · omega
  · have h1 := h.val 0 (by omega)
    have h2 := h.val (g.length - 1) (by omega)
    by_cases e2 : g.length = 1
    · omega
    · have := h.mono (i := 0) (j := g.length - 1) (by omega) (by omega); omega
theorem First_at (n : Nat) (hn : n ≤ 1000) : FnAt Try.prog false 54 [.lit (.int .i64 n)] (.own 0) [(0, .row 3 (.int .i64) true ((List.range n).map fun (i : Nat) => (i : Int)))] := by
  refine FnAt.of_body tys_ok Try.func54 (by rfl) rfl Try.ntmps54 (by rw [Try.results54]) (by simp) ?_
  
  repeat' (first
 | refine W.seq ?_
 | refine W.block ?_
 | (refine W.region tys_ok [] ?_; conv => whnf)
 | (refine W.drawAll tys_ok [] mixed rfl ?_; conv => whnf)
 | (refine W.ret ?_; conv => whnf)
 | (refine W.skip ?_; conv => whnf)
 | (refine W.exit ?_; conv => whnf)

    | (refine W.cond rfl (fun hb => ?_) (fun hb => ?_) <;> (try simp only [minL, maxL, pickB, getD_int, getD_sl, getD_bool, len_int, len_sl, len_bool, decide_eq_true_eq, decide_eq_false_iff_not, Bool.and_eq_true, Bool.or_eq_true, Bool.and_eq_false_iff, Bool.or_eq_false_iff, Bool.not_eq_true', Bool.not_eq_false', Bool.true_eq_false, Bool.false_eq_true, Int.toNat_natCast, Int.ofNat_lt, Int.ofNat_le, not_true_eq_false, not_false_eq_true, or_false, false_or, and_true, true_and, or_true, true_or, and_false, false_and] at hb) <;> (try (first | (cases hb; done) | exact absurd hb (by decide) | (exfalso; omega))))
    | ((with_reducible refine And.intro ?_ ?_); (focus ((repeat' (first | (with_reducible rfl) | (with_reducible refine And.intro ?_ ?_) | omega | rfl | exact Or.inl rfl | exact Or.inr rfl | (focus ((try simp only [minL, maxL, pickB, getD_int, getD_sl, getD_bool, len_int, len_sl, len_bool, decide_eq_true_eq, decide_eq_false_iff_not, Bool.and_eq_true, Bool.or_eq_true, Bool.and_eq_false_iff, Bool.or_eq_false_iff, Bool.not_eq_true', Bool.not_eq_false', Bool.true_eq_false, Bool.false_eq_true, Int.toNat_natCast, Int.ofNat_lt, Int.ofNat_le, not_true_eq_false, not_false_eq_true, or_false, false_or, and_true, true_and, or_true, true_or, and_false, false_and, InK, Path.imp, List.length_replicate, List.length_set, List.length_append, List.length_cons, List.length_nil] at *); omega)) | (refine app_le rfl ?_; omega))); done)); (conv => whnf))
    | ((with_reducible refine And.intro (Side.out ?_) ?_); rotate_left; (conv => whnf))
    | (refine retF1 ?_ <;> (conv => whnf) <;> repeat' (first
 | exact trivial
 | (with_reducible rfl)
 | ((with_reducible refine And.intro ?_ ?_) <;> conv => whnf)
 | omega
 | rfl
 | (refine congrArg (SV.arr _) ?_)
 | (refine congrArg (Value.int _) ?_)
 | (refine congrArg Value.bool ?_)))
 | (refine retF2 ?_ <;> (conv => whnf) <;> repeat' (first
 | exact trivial
 | (with_reducible rfl)
 | ((with_reducible refine And.intro ?_ ?_) <;> conv => whnf)
 | omega
 | rfl
 | (refine congrArg (SV.arr _) ?_)
 | (refine congrArg (Value.int _) ?_)
 | (refine congrArg Value.bool ?_)))); all_goals (try unfold Side)
  refine W.loop (fun i : Nat => ⟨[(0, .lit (.int .i64 n)), (3, .own 6000), (4, .lit (.int .i64 i))], [(6000, .row 3 (.int .i64) true ((List.range i).map fun (i : Nat) => (i : Int)))]⟩)
    (fun i => i ≤ n) (fun i => n - i) 0 ?_ ?_
  · refine ⟨by simp, ?_⟩
    refine subF.ok ?_ <;> (conv => whnf) <;> repeat' (first
 | exact trivial
 | (with_reducible rfl)
 | ((with_reducible refine And.intro ?_ ?_) <;> conv => whnf)
 | omega
 | rfl
 | (refine congrArg (SV.arr _) ?_)
 | (refine congrArg (Value.int _) ?_)
 | (refine congrArg Value.bool ?_))
  · intro i hi
    have hl : @List.length (Ty.int .i64).T ((List.range i).map fun (i : Nat) => (i : Int)) = i := by
      show ((List.range i).map fun (i : Nat) => (i : Int)).length = i
      simp
    by_cases hin : i < n
    · repeat' (first
 | refine W.seq ?_
 | refine W.block ?_
 | (refine W.region tys_ok [] ?_; conv => whnf)
 | (refine W.drawAll tys_ok [] mixed rfl ?_; conv => whnf)
 | (refine W.ret ?_; conv => whnf)
 | (refine W.skip ?_; conv => whnf)
 | (refine W.exit ?_; conv => whnf)

    | (refine W.cond rfl (fun hb => ?_) (fun hb => ?_) <;> (try simp only [minL, maxL, pickB, getD_int, getD_sl, getD_bool, len_int, len_sl, len_bool, decide_eq_true_eq, decide_eq_false_iff_not, Bool.and_eq_true, Bool.or_eq_true, Bool.and_eq_false_iff, Bool.or_eq_false_iff, Bool.not_eq_true', Bool.not_eq_false', Bool.true_eq_false, Bool.false_eq_true, Int.toNat_natCast, Int.ofNat_lt, Int.ofNat_le, not_true_eq_false, not_false_eq_true, or_false, false_or, and_true, true_and, or_true, true_or, and_false, false_and] at hb) <;> (try (first | (cases hb; done) | exact absurd hb (by decide) | (exfalso; omega))))
    | ((with_reducible refine And.intro ?_ ?_); (focus ((repeat' (first | (with_reducible rfl) | (with_reducible refine And.intro ?_ ?_) | omega | rfl | exact Or.inl rfl | exact Or.inr rfl | (focus ((try simp only [minL, maxL, pickB, getD_int, getD_sl, getD_bool, len_int, len_sl, len_bool, decide_eq_true_eq, decide_eq_false_iff_not, Bool.and_eq_true, Bool.or_eq_true, Bool.and_eq_false_iff, Bool.or_eq_false_iff, Bool.not_eq_true', Bool.not_eq_false', Bool.true_eq_false, Bool.false_eq_true, Int.toNat_natCast, Int.ofNat_lt, Int.ofNat_le, not_true_eq_false, not_false_eq_true, or_false, false_or, and_true, true_and, or_true, true_or, and_false, false_and, InK, Path.imp, List.length_replicate, List.length_set, List.length_append, List.length_cons, List.length_nil] at *); omega)) | (refine app_le rfl ?_; omega))); done)); (conv => whnf))
    | ((with_reducible refine And.intro (Side.out ?_) ?_); rotate_left; (conv => whnf))
    | (refine retF1 ?_ <;> (conv => whnf) <;> repeat' (first
 | exact trivial
 | (with_reducible rfl)
 | ((with_reducible refine And.intro ?_ ?_) <;> conv => whnf)
 | omega
 | rfl
 | (refine congrArg (SV.arr _) ?_)
 | (refine congrArg (Value.int _) ?_)
 | (refine congrArg Value.bool ?_)))
 | (refine retF2 ?_ <;> (conv => whnf) <;> repeat' (first
 | exact trivial
 | (with_reducible rfl)
 | ((with_reducible refine And.intro ?_ ?_) <;> conv => whnf)
 | omega
 | rfl
 | (refine congrArg (SV.arr _) ?_)
 | (refine congrArg (Value.int _) ?_)
 | (refine congrArg Value.bool ?_)))); all_goals (try unfold Side)
      all_goals try (repeat' (first | (with_reducible rfl) | (with_reducible refine And.intro ?_ ?_) | omega | rfl | exact Or.inl rfl | exact Or.inr rfl | (focus ((try simp only [minL, maxL, pickB, getD_int, getD_sl, getD_bool, len_int, len_sl, len_bool, decide_eq_true_eq, decide_eq_false_iff_not, Bool.and_eq_true, Bool.or_eq_true, Bool.and_eq_false_iff, Bool.or_eq_false_iff, Bool.not_eq_true', Bool.not_eq_false', Bool.true_eq_false, Bool.false_eq_true, Int.toNat_natCast, Int.ofNat_lt, Int.ofNat_le, not_true_eq_false, not_false_eq_true, or_false, false_or, and_true, true_and, or_true, true_or, and_false, false_and, InK, Path.imp, List.length_replicate, List.length_set, List.length_append, List.length_cons, List.length_nil] at *); omega)) | (refine app_le rfl ?_; omega)))
      refine ⟨i + 1, ⟨by omega, by omega⟩, ?_⟩
      refine subF.ok ?_ <;> (conv => whnf) <;> repeat' (first
 | exact trivial
 | (with_reducible rfl)
 | ((with_reducible refine And.intro ?_ ?_) <;> conv => whnf)
 | omega
 | rfl
 | (refine congrArg (SV.arr _) ?_)
 | (refine congrArg (Value.int _) ?_)
 | (refine congrArg Value.bool ?_))
      show ((List.range i).map fun (i : Nat) => (i : Int)) ++ [(i : Int)] = (List.range (i + 1)).map fun (i : Nat) => (i : Int)
      rw [List.range_succ, List.map_append]; rfl
    · have hin' : i = n := by omega
      subst hin'
      repeat' (first
 | refine W.seq ?_
 | refine W.block ?_
 | (refine W.region tys_ok [] ?_; conv => whnf)
 | (refine W.drawAll tys_ok [] mixed rfl ?_; conv => whnf)
 | (refine W.ret ?_; conv => whnf)
 | (refine W.skip ?_; conv => whnf)
 | (refine W.exit ?_; conv => whnf)

    | (refine W.cond rfl (fun hb => ?_) (fun hb => ?_) <;> (try simp only [minL, maxL, pickB, getD_int, getD_sl, getD_bool, len_int, len_sl, len_bool, decide_eq_true_eq, decide_eq_false_iff_not, Bool.and_eq_true, Bool.or_eq_true, Bool.and_eq_false_iff, Bool.or_eq_false_iff, Bool.not_eq_true', Bool.not_eq_false', Bool.true_eq_false, Bool.false_eq_true, Int.toNat_natCast, Int.ofNat_lt, Int.ofNat_le, not_true_eq_false, not_false_eq_true, or_false, false_or, and_true, true_and, or_true, true_or, and_false, false_and] at hb) <;> (try (first | (cases hb; done) | exact absurd hb (by decide) | (exfalso; omega))))
    | ((with_reducible refine And.intro ?_ ?_); (focus ((repeat' (first | (with_reducible rfl) | (with_reducible refine And.intro ?_ ?_) | omega | rfl | exact Or.inl rfl | exact Or.inr rfl | (focus ((try simp only [minL, maxL, pickB, getD_int, getD_sl, getD_bool, len_int, len_sl, len_bool, decide_eq_true_eq, decide_eq_false_iff_not, Bool.and_eq_true, Bool.or_eq_true, Bool.and_eq_false_iff, Bool.or_eq_false_iff, Bool.not_eq_true', Bool.not_eq_false', Bool.true_eq_false, Bool.false_eq_true, Int.toNat_natCast, Int.ofNat_lt, Int.ofNat_le, not_true_eq_false, not_false_eq_true, or_false, false_or, and_true, true_and, or_true, true_or, and_false, false_and, InK, Path.imp, List.length_replicate, List.length_set, List.length_append, List.length_cons, List.length_nil] at *); omega)) | (refine app_le rfl ?_; omega))); done)); (conv => whnf))
    | ((with_reducible refine And.intro (Side.out ?_) ?_); rotate_left; (conv => whnf))
    | (refine retF1 ?_ <;> (conv => whnf) <;> repeat' (first
 | exact trivial
 | (with_reducible rfl)
 | ((with_reducible refine And.intro ?_ ?_) <;> conv => whnf)
 | omega
 | rfl
 | (refine congrArg (SV.arr _) ?_)
 | (refine congrArg (Value.int _) ?_)
 | (refine congrArg Value.bool ?_)))
 | (refine retF2 ?_ <;> (conv => whnf) <;> repeat' (first
 | exact trivial
 | (with_reducible rfl)
 | ((with_reducible refine And.intro ?_ ?_) <;> conv => whnf)
 | omega
 | rfl
 | (refine congrArg (SV.arr _) ?_)
 | (refine congrArg (Value.int _) ?_)
 | (refine congrArg Value.bool ?_)))); all_goals (try unfold Side)
      all_goals try (repeat' (first | (with_reducible rfl) | (with_reducible refine And.intro ?_ ?_) | omega | rfl | exact Or.inl rfl | exact Or.inr rfl | (focus ((try simp only [minL, maxL, pickB, getD_int, getD_sl, getD_bool, len_int, len_sl, len_bool, decide_eq_true_eq, decide_eq_false_iff_not, Bool.and_eq_true, Bool.or_eq_true, Bool.and_eq_false_iff, Bool.or_eq_false_iff, Bool.not_eq_true', Bool.not_eq_false', Bool.true_eq_false, Bool.false_eq_true, Int.toNat_natCast, Int.ofNat_lt, Int.ofNat_le, not_true_eq_false, not_false_eq_true, or_false, false_or, and_true, true_and, or_true, true_or, and_false, false_and, InK, Path.imp, List.length_replicate, List.length_set, List.length_append, List.length_cons, List.length_nil] at *); omega)) | (refine app_le rfl ?_; omega)))

theorem runT_drop {g : List Int} {i : Nat} : ∀ {k : Nat}, i < k → k ≤ g.length → (∀ j, i < j → j < k → g.getD j 0 = g.getD (j - 1) 0 + 1) → runT (g.getD i 0) (g.drop (i + 1)) = (k - 1 - i) + runT (g.getD (k - 1) 0) (g.drop k)
  | 0, h, _, _ => by omega
  | k + 1, h, hk, hj => by
    by_cases e : i = k
    · subst e; simp
    · rw [runT_drop (k := k) (by omega) (by omega) fun j h1 h2 => hj j h1 (by omega), drop_getD 0 (by omega : k < g.length)]
      simp only [runT]
      rw [if_pos (hj k (by omega) (by omega))]
      simp only [Nat.add_sub_cancel]
      omega
theorem runT_stop {g : List Int} {k : Nat} {a : Int} (h : ¬ (k < g.length ∧ g.getD k 0 = a + 1)) : runT a (g.drop k) = 0 := by
  by_cases hk : k < g.length
  · rw [drop_getD 0 hk]
    simp only [runT]
    rw [if_neg fun e => h ⟨hk, e⟩]
  · rw [List.drop_of_length_le (by omega)]; rfl
theorem aloneF_fuel {fl : List Int} {gs : List (List Int)} : ∀ {k m : Nat} {g : List Int}, g.length ≤ k → g.length ≤ m → aloneF fl gs k g = aloneF fl gs m g
  | k, m, [], _, _ => by cases k <;> cases m <;> rfl
  | 0, _, a :: r, h, _ => by simp at h
  | _, 0, a :: r, _, h => by simp at h
  | k + 1, m + 1, a :: r, h1, h2 => by
    simp only [aloneF]
    simp only [List.length_cons] at h1 h2
    rw [aloneF_fuel (k := k) (m := m) (by rw [List.length_drop]; omega) (by rw [List.length_drop]; omega)]
theorem aloneL_cons {fl : List Int} {gs : List (List Int)} {a : Int} {r : List Int} : aloneL fl gs (a :: r) = rowV fl gs a.toNat (runT a r + 1) + aloneL fl gs (r.drop (runT a r)) := by
  simp only [aloneL, aloneF, List.length_cons]
  rw [aloneF_fuel (k := r.length) (m := (r.drop (runT a r)).length) (by rw [List.length_drop]; omega) (Nat.le_refl _)]
theorem OkG.part {gs : List (List Int)} (h : OkG gs) (a b : Nat) : OkG ((gs.take b).drop a) := (h.take b).drop a
theorem Riv.part {fl : List Int} {gs : List (List Int)} (h : Riv fl gs) (a b : Nat) : Riv ((fl.take b).drop a) ((gs.take b).drop a) := by
  refine ⟨h.g.part a b, fun i hi => ?_, by simp [h.len], fun i hi => ?_⟩
  · rw [List.length_drop, List.length_take] at hi
    rw [getD_drop, getD_take (by omega)]
    exact h.d _ (by omega)
  · rw [List.length_drop, List.length_take] at hi
    rw [getD_drop, getD_take (by omega)]
    exact h.val _ (by omega)
theorem rowV_bound {fl : List Int} {gs : List (List Int)} (h : OkG gs) (a n : Nat) : 0 ≤ rowV fl gs a n ∧ rowV fl gs a n ≤ 160000 := by
  have h1 := worth_bound (gs := (gs.take (a + n)).drop a) (us := bestL ((fl.take (a + n)).drop a) ((gs.take (a + n)).drop a)) (h.part _ _)
  have h2 := (h.part a (a + n)).len
  simp only [rowV, val]
  omega
theorem aloneF_bound {fl : List Int} {gs : List (List Int)} (h : OkG gs) : ∀ {k : Nat} {g : List Int}, 0 ≤ aloneF fl gs k g ∧ aloneF fl gs k g ≤ 160000 * g.length
  | 0, g => by simp only [aloneF]; omega
  | k + 1, [] => by simp [aloneF]
  | k + 1, a :: r => by
    have h1 := rowV_bound (fl := fl) h a.toNat (runT a r + 1)
    have h2 := aloneF_bound (fl := fl) h (k := k) (g := r.drop (runT a r))
    rw [List.length_drop] at h2
    simp only [aloneF, List.length_cons]
    omega
set_option maxHeartbeats 2000000 in
theorem Alone_ref (fl : List Int) (gs : List (List Int)) (g : List Int) (h : Riv fl gs) (hg : Grp fl.length g) :
    FnAt Try.prog false 37 [.arr (.int .i64) fl, .arr (.sl (.int .i64)) gs, .arr (.int .i64) g] (.lit (.int .i64 (aloneL fl gs g))) [] := by
  have hG := h.g
  have hl := h.len
  have hl8 := hG.len
  have hgl : g.length ≤ fl.length := hg.len
  refine FnAt.of_body tys_ok Try.func37 (by rfl) rfl Try.ntmps37 (by rw [Try.results37]) (by simp) ?_
  
  repeat' (first
 | refine W.seq ?_
 | refine W.block ?_
 | (refine W.region tys_ok [] ?_; conv => whnf)
 | (refine W.drawAll tys_ok [] mixed rfl ?_; conv => whnf)
 | (refine W.ret ?_; conv => whnf)
 | (refine W.skip ?_; conv => whnf)
 | (refine W.exit ?_; conv => whnf)

    | (refine W.cond rfl (fun hb => ?_) (fun hb => ?_) <;> (try simp only [minL, maxL, pickB, getD_int, getD_sl, getD_bool, len_int, len_sl, len_bool, decide_eq_true_eq, decide_eq_false_iff_not, Bool.and_eq_true, Bool.or_eq_true, Bool.and_eq_false_iff, Bool.or_eq_false_iff, Bool.not_eq_true', Bool.not_eq_false', Bool.true_eq_false, Bool.false_eq_true, Int.toNat_natCast, Int.ofNat_lt, Int.ofNat_le, not_true_eq_false, not_false_eq_true, or_false, false_or, and_true, true_and, or_true, true_or, and_false, false_and] at hb) <;> (try (first | (cases hb; done) | exact absurd hb (by decide) | (exfalso; omega))))
    | ((with_reducible refine And.intro ?_ ?_); (focus ((repeat' (first | (with_reducible rfl) | (with_reducible refine And.intro ?_ ?_) | omega | rfl | exact Or.inl rfl | exact Or.inr rfl | (focus ((try simp only [minL, maxL, pickB, getD_int, getD_sl, getD_bool, len_int, len_sl, len_bool, decide_eq_true_eq, decide_eq_false_iff_not, Bool.and_eq_true, Bool.or_eq_true, Bool.and_eq_false_iff, Bool.or_eq_false_iff, Bool.not_eq_true', Bool.not_eq_false', Bool.true_eq_false, Bool.false_eq_true, Int.toNat_natCast, Int.ofNat_lt, Int.ofNat_le, not_true_eq_false, not_false_eq_true, or_false, false_or, and_true, true_and, or_true, true_or, and_false, false_and, InK, Path.imp, List.length_replicate, List.length_set, List.length_append, List.length_cons, List.length_nil] at *); omega)) | (refine app_le rfl ?_; omega))); done)); (conv => whnf))
    | ((with_reducible refine And.intro (Side.out ?_) ?_); rotate_left; (conv => whnf))
    | (refine retF1 ?_ <;> (conv => whnf) <;> repeat' (first
 | exact trivial
 | (with_reducible rfl)
 | ((with_reducible refine And.intro ?_ ?_) <;> conv => whnf)
 | omega
 | rfl
 | (refine congrArg (SV.arr _) ?_)
 | (refine congrArg (Value.int _) ?_)
 | (refine congrArg Value.bool ?_)))
 | (refine retF2 ?_ <;> (conv => whnf) <;> repeat' (first
 | exact trivial
 | (with_reducible rfl)
 | ((with_reducible refine And.intro ?_ ?_) <;> conv => whnf)
 | omega
 | rfl
 | (refine congrArg (SV.arr _) ?_)
 | (refine congrArg (Value.int _) ?_)
 | (refine congrArg Value.bool ?_)))); all_goals (try unfold Side)
  refine W.loop (fun x : Nat × Int => ⟨[(0, .st false (.arr (.int .i64) fl)), (1, .st false (.arr (.sl (.int .i64)) gs)), (2, .st false (.arr (.int .i64) g)), (7, .lit (.int .i64 x.2)), (8, .lit (.int .i64 x.1))], []⟩)
    (fun x => x.1 ≤ g.length ∧ 0 ≤ x.2 ∧ x.2 ≤ 160000 * x.1 ∧ x.2 + aloneL fl gs (g.drop x.1) = aloneL fl gs g) (fun x => g.length - x.1) (0, 0) ?_ ?_
  · refine ⟨⟨Nat.zero_le _, Int.le_refl _, Int.le_refl _, by simp⟩, ?_⟩
    refine subF.ok ?_ <;> (conv => whnf) <;> repeat' (first
 | exact trivial
 | (with_reducible rfl)
 | ((with_reducible refine And.intro ?_ ?_) <;> conv => whnf)
 | omega
 | rfl
 | (refine congrArg (SV.arr _) ?_)
 | (refine congrArg (Value.int _) ?_)
 | (refine congrArg Value.bool ?_))
  · rintro ⟨i, s⟩ ⟨h1, h2, h3, h4⟩
    dsimp only at h1 h2 h3 h4 ⊢
    by_cases hi : i < g.length
    · repeat' (first
 | refine W.seq ?_
 | refine W.block ?_
 | (refine W.region tys_ok [] ?_; conv => whnf)
 | (refine W.drawAll tys_ok [] mixed rfl ?_; conv => whnf)
 | (refine W.ret ?_; conv => whnf)
 | (refine W.skip ?_; conv => whnf)
 | (refine W.exit ?_; conv => whnf)

    | (refine W.cond rfl (fun hb => ?_) (fun hb => ?_) <;> (try simp only [minL, maxL, pickB, getD_int, getD_sl, getD_bool, len_int, len_sl, len_bool, decide_eq_true_eq, decide_eq_false_iff_not, Bool.and_eq_true, Bool.or_eq_true, Bool.and_eq_false_iff, Bool.or_eq_false_iff, Bool.not_eq_true', Bool.not_eq_false', Bool.true_eq_false, Bool.false_eq_true, Int.toNat_natCast, Int.ofNat_lt, Int.ofNat_le, not_true_eq_false, not_false_eq_true, or_false, false_or, and_true, true_and, or_true, true_or, and_false, false_and] at hb) <;> (try (first | (cases hb; done) | exact absurd hb (by decide) | (exfalso; omega))))
    | ((with_reducible refine And.intro ?_ ?_); (focus ((repeat' (first | (with_reducible rfl) | (with_reducible refine And.intro ?_ ?_) | omega | rfl | exact Or.inl rfl | exact Or.inr rfl | (focus ((try simp only [minL, maxL, pickB, getD_int, getD_sl, getD_bool, len_int, len_sl, len_bool, decide_eq_true_eq, decide_eq_false_iff_not, Bool.and_eq_true, Bool.or_eq_true, Bool.and_eq_false_iff, Bool.or_eq_false_iff, Bool.not_eq_true', Bool.not_eq_false', Bool.true_eq_false, Bool.false_eq_true, Int.toNat_natCast, Int.ofNat_lt, Int.ofNat_le, not_true_eq_false, not_false_eq_true, or_false, false_or, and_true, true_and, or_true, true_or, and_false, false_and, InK, Path.imp, List.length_replicate, List.length_set, List.length_append, List.length_cons, List.length_nil] at *); omega)) | (refine app_le rfl ?_; omega))); done)); (conv => whnf))
    | ((with_reducible refine And.intro (Side.out ?_) ?_); rotate_left; (conv => whnf))
    | (refine retF1 ?_ <;> (conv => whnf) <;> repeat' (first
 | exact trivial
 | (with_reducible rfl)
 | ((with_reducible refine And.intro ?_ ?_) <;> conv => whnf)
 | omega
 | rfl
 | (refine congrArg (SV.arr _) ?_)
 | (refine congrArg (Value.int _) ?_)
 | (refine congrArg Value.bool ?_)))
 | (refine retF2 ?_ <;> (conv => whnf) <;> repeat' (first
 | exact trivial
 | (with_reducible rfl)
 | ((with_reducible refine And.intro ?_ ?_) <;> conv => whnf)
 | omega
 | rfl
 | (refine congrArg (SV.arr _) ?_)
 | (refine congrArg (Value.int _) ?_)
 | (refine congrArg Value.bool ?_)))); all_goals (try unfold Side)
      all_goals try (repeat' (first | (with_reducible rfl) | (with_reducible refine And.intro ?_ ?_) | omega | rfl | exact Or.inl rfl | exact Or.inr rfl | (focus ((try simp only [minL, maxL, pickB, getD_int, getD_sl, getD_bool, len_int, len_sl, len_bool, decide_eq_true_eq, decide_eq_false_iff_not, Bool.and_eq_true, Bool.or_eq_true, Bool.and_eq_false_iff, Bool.or_eq_false_iff, Bool.not_eq_true', Bool.not_eq_false', Bool.true_eq_false, Bool.false_eq_true, Int.toNat_natCast, Int.ofNat_lt, Int.ofNat_le, not_true_eq_false, not_false_eq_true, or_false, false_or, and_true, true_and, or_true, true_or, and_false, false_and, InK, Path.imp, List.length_replicate, List.length_set, List.length_append, List.length_cons, List.length_nil] at *); omega)) | (refine app_le rfl ?_; omega)))
      refine W.loop (fun k : Nat => ⟨[(0, .st false (.arr (.int .i64) fl)), (1, .st false (.arr (.sl (.int .i64)) gs)), (2, .st false (.arr (.int .i64) g)), (7, .lit (.int .i64 s)), (8, .lit (.int .i64 i)), (9, .lit (.int .i64 k))], []⟩)
        (fun k => i < k ∧ k ≤ g.length ∧ ∀ j, i < j → j < k → g.getD j 0 = g.getD (j - 1) 0 + 1) (fun k => g.length - k) (i + 1) ?_ ?_
      · refine ⟨⟨by omega, by omega, fun j h1 h2 => by omega⟩, ?_⟩
        refine subF.ok ?_ <;> (conv => whnf) <;> repeat' (first
 | exact trivial
 | (with_reducible rfl)
 | ((with_reducible refine And.intro ?_ ?_) <;> conv => whnf)
 | omega
 | rfl
 | (refine congrArg (SV.arr _) ?_)
 | (refine congrArg (Value.int _) ?_)
 | (refine congrArg Value.bool ?_))
      · rintro k ⟨hk1, hk2, hk3⟩
        have e1 : ((k : Int) - 1).toNat = k - 1 := by omega
        have hv1 := hg.val (k - 1) (by omega)
        have hv1' := hv1
        rw [← e1] at hv1'
        have hvi := hg.val i (by omega)
        by_cases hc : k < g.length ∧ g.getD k 0 = g.getD ((k : Int) - 1).toNat 0 + 1
        · obtain ⟨hc1, hc2⟩ := hc
          repeat' (first
 | refine W.seq ?_
 | refine W.block ?_
 | (refine W.region tys_ok [] ?_; conv => whnf)
 | (refine W.drawAll tys_ok [] mixed rfl ?_; conv => whnf)
 | (refine W.ret ?_; conv => whnf)
 | (refine W.skip ?_; conv => whnf)
 | (refine W.exit ?_; conv => whnf)

    | (refine W.cond rfl (fun hb => ?_) (fun hb => ?_) <;> (try simp only [minL, maxL, pickB, getD_int, getD_sl, getD_bool, len_int, len_sl, len_bool, decide_eq_true_eq, decide_eq_false_iff_not, Bool.and_eq_true, Bool.or_eq_true, Bool.and_eq_false_iff, Bool.or_eq_false_iff, Bool.not_eq_true', Bool.not_eq_false', Bool.true_eq_false, Bool.false_eq_true, Int.toNat_natCast, Int.ofNat_lt, Int.ofNat_le, not_true_eq_false, not_false_eq_true, or_false, false_or, and_true, true_and, or_true, true_or, and_false, false_and] at hb) <;> (try (first | (cases hb; done) | exact absurd hb (by decide) | (exfalso; omega))))
    | ((with_reducible refine And.intro ?_ ?_); (focus ((repeat' (first | (with_reducible rfl) | (with_reducible refine And.intro ?_ ?_) | omega | rfl | exact Or.inl rfl | exact Or.inr rfl | (focus ((try simp only [minL, maxL, pickB, getD_int, getD_sl, getD_bool, len_int, len_sl, len_bool, decide_eq_true_eq, decide_eq_false_iff_not, Bool.and_eq_true, Bool.or_eq_true, Bool.and_eq_false_iff, Bool.or_eq_false_iff, Bool.not_eq_true', Bool.not_eq_false', Bool.true_eq_false, Bool.false_eq_true, Int.toNat_natCast, Int.ofNat_lt, Int.ofNat_le, not_true_eq_false, not_false_eq_true, or_false, false_or, and_true, true_and, or_true, true_or, and_false, false_and, InK, Path.imp, List.length_replicate, List.length_set, List.length_append, List.length_cons, List.length_nil] at *); omega)) | (refine app_le rfl ?_; omega))); done)); (conv => whnf))
    | ((with_reducible refine And.intro (Side.out ?_) ?_); rotate_left; (conv => whnf))
    | (refine retF1 ?_ <;> (conv => whnf) <;> repeat' (first
 | exact trivial
 | (with_reducible rfl)
 | ((with_reducible refine And.intro ?_ ?_) <;> conv => whnf)
 | omega
 | rfl
 | (refine congrArg (SV.arr _) ?_)
 | (refine congrArg (Value.int _) ?_)
 | (refine congrArg Value.bool ?_)))
 | (refine retF2 ?_ <;> (conv => whnf) <;> repeat' (first
 | exact trivial
 | (with_reducible rfl)
 | ((with_reducible refine And.intro ?_ ?_) <;> conv => whnf)
 | omega
 | rfl
 | (refine congrArg (SV.arr _) ?_)
 | (refine congrArg (Value.int _) ?_)
 | (refine congrArg Value.bool ?_)))); all_goals (try unfold Side)
          all_goals try (repeat' (first | (with_reducible rfl) | (with_reducible refine And.intro ?_ ?_) | omega | rfl | exact Or.inl rfl | exact Or.inr rfl | (focus ((try simp only [minL, maxL, pickB, getD_int, getD_sl, getD_bool, len_int, len_sl, len_bool, decide_eq_true_eq, decide_eq_false_iff_not, Bool.and_eq_true, Bool.or_eq_true, Bool.and_eq_false_iff, Bool.or_eq_false_iff, Bool.not_eq_true', Bool.not_eq_false', Bool.true_eq_false, Bool.false_eq_true, Int.toNat_natCast, Int.ofNat_lt, Int.ofNat_le, not_true_eq_false, not_false_eq_true, or_false, false_or, and_true, true_and, or_true, true_or, and_false, false_and, InK, Path.imp, List.length_replicate, List.length_set, List.length_append, List.length_cons, List.length_nil] at *); omega)) | (refine app_le rfl ?_; omega)))
          refine ⟨k + 1, ⟨⟨by omega, by omega, fun j h1 h2 => ?_⟩, by omega⟩, ?_⟩
          · by_cases e : j = k
            · subst e; rw [← e1]; exact hc2
            · exact hk3 j h1 (by omega)
          · refine subF.ok ?_ <;> (conv => whnf) <;> repeat' (first
 | exact trivial
 | (with_reducible rfl)
 | ((with_reducible refine And.intro ?_ ?_) <;> conv => whnf)
 | omega
 | rfl
 | (refine congrArg (SV.arr _) ?_)
 | (refine congrArg (Value.int _) ?_)
 | (refine congrArg Value.bool ?_))
        · have hrun := runT_drop hk1 hk2 hk3
          rw [runT_stop (a := g.getD (k - 1) 0) (by rw [← e1]; exact hc)] at hrun
          have hB := Best_ref ((fl.take (g.getD ((k : Int) - 1).toNat 0 + 1).toNat).drop (g.getD i 0).toNat) ((gs.take (g.getD ((k : Int) - 1).toNat 0 + 1).toNat).drop (g.getD i 0).toNat) (h.part _ _)
          have hrb := rowV_bound (fl := fl) hG (g.getD i 0).toNat (k - i)
          have hmono : g.getD i 0 + ((k - i : Nat) : Int) = g.getD (k - 1) 0 + 1 := by
            have : ∀ m, i ≤ m → m < k → g.getD m 0 = g.getD i 0 + ((m - i : Nat) : Int) := by
              intro m
              induction m with
              | zero => intro h1 h2; have : i = 0 := by omega
                        subst this; simp
              | succ m ih =>
                intro h1 h2
                by_cases e : i = m + 1
                · subst e; simp
                · have h5 := hk3 (m + 1) (by omega) h2
                  have h6 := ih (by omega) (by omega)
                  simp only [Nat.add_sub_cancel] at h5
                  omega
            have := this (k - 1) (by omega) (by omega)
            omega
          have hmono' := hmono
          rw [← e1] at hmono'
          have e2 : val ((fl.take (g.getD ((k : Int) - 1).toNat 0 + 1).toNat).drop (g.getD i 0).toNat) ((gs.take (g.getD ((k : Int) - 1).toNat 0 + 1).toNat).drop (g.getD i 0).toNat) = rowV fl gs (g.getD i 0).toNat (k - i) := by
            rw [e1, rowV, show (g.getD i 0).toNat + (k - i) = (g.getD (k - 1) 0 + 1).toNat from by omega]
          rw [e2] at hB
          have h4' : rowV fl gs (g.getD i 0).toNat (k - i) + aloneL fl gs (g.drop k) = aloneL fl gs (g.drop i) := by
            rw [drop_getD 0 hi, aloneL_cons, hrun, List.drop_drop, show k - 1 - i + 0 + 1 = k - i from by omega, show i + 1 + (k - 1 - i + 0) = k from by omega]
          repeat' (first
 | refine W.seq ?_
 | refine W.block ?_
 | (refine W.region tys_ok [] ?_; conv => whnf)
 | (refine W.drawAll tys_ok [] mixed rfl ?_; conv => whnf)
 | (refine W.ret ?_; conv => whnf)
 | (refine W.skip ?_; conv => whnf)
 | (refine W.exit ?_; conv => whnf)
 | (refine call_at (al := false) (hB) rfl rfl rfl rfl ?_; conv => whnf)

    | (refine W.cond rfl (fun hb => ?_) (fun hb => ?_) <;> (try simp only [minL, maxL, pickB, getD_int, getD_sl, getD_bool, len_int, len_sl, len_bool, decide_eq_true_eq, decide_eq_false_iff_not, Bool.and_eq_true, Bool.or_eq_true, Bool.and_eq_false_iff, Bool.or_eq_false_iff, Bool.not_eq_true', Bool.not_eq_false', Bool.true_eq_false, Bool.false_eq_true, Int.toNat_natCast, Int.ofNat_lt, Int.ofNat_le, not_true_eq_false, not_false_eq_true, or_false, false_or, and_true, true_and, or_true, true_or, and_false, false_and] at hb) <;> (try (first | (cases hb; done) | exact absurd hb (by decide) | (exfalso; omega))))
    | ((with_reducible refine And.intro ?_ ?_); (focus ((repeat' (first | (with_reducible rfl) | (with_reducible refine And.intro ?_ ?_) | omega | rfl | exact Or.inl rfl | exact Or.inr rfl | (focus ((try simp only [minL, maxL, pickB, getD_int, getD_sl, getD_bool, len_int, len_sl, len_bool, decide_eq_true_eq, decide_eq_false_iff_not, Bool.and_eq_true, Bool.or_eq_true, Bool.and_eq_false_iff, Bool.or_eq_false_iff, Bool.not_eq_true', Bool.not_eq_false', Bool.true_eq_false, Bool.false_eq_true, Int.toNat_natCast, Int.ofNat_lt, Int.ofNat_le, not_true_eq_false, not_false_eq_true, or_false, false_or, and_true, true_and, or_true, true_or, and_false, false_and, InK, Path.imp, List.length_replicate, List.length_set, List.length_append, List.length_cons, List.length_nil] at *); omega)) | (refine app_le rfl ?_; omega))); done)); (conv => whnf))
    | ((with_reducible refine And.intro (Side.out ?_) ?_); rotate_left; (conv => whnf))
    | (refine retF1 ?_ <;> (conv => whnf) <;> repeat' (first
 | exact trivial
 | (with_reducible rfl)
 | ((with_reducible refine And.intro ?_ ?_) <;> conv => whnf)
 | omega
 | rfl
 | (refine congrArg (SV.arr _) ?_)
 | (refine congrArg (Value.int _) ?_)
 | (refine congrArg Value.bool ?_)))
 | (refine retF2 ?_ <;> (conv => whnf) <;> repeat' (first
 | exact trivial
 | (with_reducible rfl)
 | ((with_reducible refine And.intro ?_ ?_) <;> conv => whnf)
 | omega
 | rfl
 | (refine congrArg (SV.arr _) ?_)
 | (refine congrArg (Value.int _) ?_)
 | (refine congrArg Value.bool ?_)))); all_goals (try unfold Side)
          all_goals try (repeat' (first | (with_reducible rfl) | (with_reducible refine And.intro ?_ ?_) | omega | rfl | exact Or.inl rfl | exact Or.inr rfl | (focus ((try simp only [minL, maxL, pickB, getD_int, getD_sl, getD_bool, len_int, len_sl, len_bool, decide_eq_true_eq, decide_eq_false_iff_not, Bool.and_eq_true, Bool.or_eq_true, Bool.and_eq_false_iff, Bool.or_eq_false_iff, Bool.not_eq_true', Bool.not_eq_false', Bool.true_eq_false, Bool.false_eq_true, Int.toNat_natCast, Int.ofNat_lt, Int.ofNat_le, not_true_eq_false, not_false_eq_true, or_false, false_or, and_true, true_and, or_true, true_or, and_false, false_and, InK, Path.imp, List.length_replicate, List.length_set, List.length_append, List.length_cons, List.length_nil] at *); omega)) | (refine app_le rfl ?_; omega)))
          refine ⟨(k, s + rowV fl gs (g.getD i 0).toNat (k - i)), ⟨⟨hk2, ?_, ?_, ?_⟩, ?_⟩, ?_⟩
          · dsimp only; omega
          · dsimp only; omega
          · dsimp only; omega
          · dsimp only; omega
          · refine subF.ok ?_ <;> (conv => whnf) <;> repeat' (first
 | exact trivial
 | (with_reducible rfl)
 | ((with_reducible refine And.intro ?_ ?_) <;> conv => whnf)
 | omega
 | rfl
 | (refine congrArg (SV.arr _) ?_)
 | (refine congrArg (Value.int _) ?_)
 | (refine congrArg Value.bool ?_))
    · have hie : i = g.length := by omega
      subst hie
      rw [List.drop_length, show aloneL fl gs [] = 0 from rfl] at h4
      repeat' (first
 | refine W.seq ?_
 | refine W.block ?_
 | (refine W.region tys_ok [] ?_; conv => whnf)
 | (refine W.drawAll tys_ok [] mixed rfl ?_; conv => whnf)
 | (refine W.ret ?_; conv => whnf)
 | (refine W.skip ?_; conv => whnf)
 | (refine W.exit ?_; conv => whnf)

    | (refine W.cond rfl (fun hb => ?_) (fun hb => ?_) <;> (try simp only [minL, maxL, pickB, getD_int, getD_sl, getD_bool, len_int, len_sl, len_bool, decide_eq_true_eq, decide_eq_false_iff_not, Bool.and_eq_true, Bool.or_eq_true, Bool.and_eq_false_iff, Bool.or_eq_false_iff, Bool.not_eq_true', Bool.not_eq_false', Bool.true_eq_false, Bool.false_eq_true, Int.toNat_natCast, Int.ofNat_lt, Int.ofNat_le, not_true_eq_false, not_false_eq_true, or_false, false_or, and_true, true_and, or_true, true_or, and_false, false_and] at hb) <;> (try (first | (cases hb; done) | exact absurd hb (by decide) | (exfalso; omega))))
    | ((with_reducible refine And.intro ?_ ?_); (focus ((repeat' (first | (with_reducible rfl) | (with_reducible refine And.intro ?_ ?_) | omega | rfl | exact Or.inl rfl | exact Or.inr rfl | (focus ((try simp only [minL, maxL, pickB, getD_int, getD_sl, getD_bool, len_int, len_sl, len_bool, decide_eq_true_eq, decide_eq_false_iff_not, Bool.and_eq_true, Bool.or_eq_true, Bool.and_eq_false_iff, Bool.or_eq_false_iff, Bool.not_eq_true', Bool.not_eq_false', Bool.true_eq_false, Bool.false_eq_true, Int.toNat_natCast, Int.ofNat_lt, Int.ofNat_le, not_true_eq_false, not_false_eq_true, or_false, false_or, and_true, true_and, or_true, true_or, and_false, false_and, InK, Path.imp, List.length_replicate, List.length_set, List.length_append, List.length_cons, List.length_nil] at *); omega)) | (refine app_le rfl ?_; omega))); done)); (conv => whnf))
    | ((with_reducible refine And.intro (Side.out ?_) ?_); rotate_left; (conv => whnf))
    | (refine retF1 ?_ <;> (conv => whnf) <;> repeat' (first
 | exact trivial
 | (with_reducible rfl)
 | ((with_reducible refine And.intro ?_ ?_) <;> conv => whnf)
 | omega
 | rfl
 | (refine congrArg (SV.arr _) ?_)
 | (refine congrArg (Value.int _) ?_)
 | (refine congrArg Value.bool ?_)))
 | (refine retF2 ?_ <;> (conv => whnf) <;> repeat' (first
 | exact trivial
 | (with_reducible rfl)
 | ((with_reducible refine And.intro ?_ ?_) <;> conv => whnf)
 | omega
 | rfl
 | (refine congrArg (SV.arr _) ?_)
 | (refine congrArg (Value.int _) ?_)
 | (refine congrArg Value.bool ?_)))); all_goals (try unfold Side)
      all_goals try (repeat' (first | (with_reducible rfl) | (with_reducible refine And.intro ?_ ?_) | omega | rfl | exact Or.inl rfl | exact Or.inr rfl | (focus ((try simp only [minL, maxL, pickB, getD_int, getD_sl, getD_bool, len_int, len_sl, len_bool, decide_eq_true_eq, decide_eq_false_iff_not, Bool.and_eq_true, Bool.or_eq_true, Bool.and_eq_false_iff, Bool.or_eq_false_iff, Bool.not_eq_true', Bool.not_eq_false', Bool.true_eq_false, Bool.false_eq_true, Int.toNat_natCast, Int.ofNat_lt, Int.ofNat_le, not_true_eq_false, not_false_eq_true, or_false, false_or, and_true, true_and, or_true, true_or, and_false, false_and, InK, Path.imp, List.length_replicate, List.length_set, List.length_append, List.length_cons, List.length_nil] at *); omega)) | (refine app_le rfl ?_; omega)))
theorem range_grp {n m : Nat} (h : m ≤ n) : Grp n ((List.range m).map fun (i : Nat) => (i : Int)) := by
  have e : ∀ i, i < m → ((List.range m).map fun (i : Nat) => (i : Int)).getD i 0 = i := fun i hi => by
    rw [List.getD_eq_getElem?_getD, List.getElem?_map, List.getElem?_range hi]; rfl
  refine ⟨fun i hi => ?_, fun i hi => ?_⟩
  · simp at hi; rw [e i hi]; omega
  · simp at hi; rw [e i (by omega), e (i + 1) hi]; omega
theorem aloneL_range {fl : List Int} {gs : List (List Int)} {m : Nat} (hm : 0 < m) : aloneL fl gs ((List.range m).map fun (i : Nat) => (i : Int)) = val (fl.take m) (gs.take m) := by
  obtain ⟨g, hg⟩ : ∃ g : List Int, g = (List.range m).map fun (i : Nat) => (i : Int) := ⟨_, rfl⟩
  have hl : g.length = m := by rw [hg]; simp
  have e : ∀ i, i < m → g.getD i 0 = i := fun i hi => by
    rw [hg, List.getD_eq_getElem?_getD, List.getElem?_map, List.getElem?_range hi]; rfl
  rw [← hg]
  have h1 := runT_drop (g := g) (i := 0) (k := m) hm (by omega) fun j h1 h2 => by rw [e j h2, e (j - 1) (by omega)]; omega
  rw [List.drop_of_length_le (by omega : g.length ≤ m)] at h1
  simp only [runT] at h1
  have h2 : g = g.getD 0 0 :: g.drop 1 := by conv => lhs; rw [← List.drop_zero (l := g), drop_getD 0 (by omega)]
  rw [h2, aloneL_cons, h1, e 0 hm, List.drop_drop, List.drop_of_length_le (by omega)]
  simp only [aloneL, aloneF, rowV, List.length_nil]
  rw [show Int.toNat ((0 : Nat) : Int) + (m - 1 - 0 + 0 + 1) = m from by simp; omega, show Int.toNat ((0 : Nat) : Int) = 0 from rfl, List.drop_zero, List.drop_zero]
  omega
theorem aloneL_last {fl : List Int} {gs : List (List Int)} (m : Nat) : aloneL fl gs ((List.range m).map fun (i : Nat) => (i : Int)) = lastV fl gs m := by
  cases m with
  | zero => rfl
  | succ m => exact aloneL_range (by omega)
set_option maxHeartbeats 2000000 in
theorem Shares_ref (fl : List Int) (gs : List (List Int)) (h : Riv fl gs) :
    FnAt Try.prog false 31 [.arr (.int .i64) fl, .arr (.sl (.int .i64)) gs] (.own 0) [(0, .row 3 (.int .i64) true (sharesT fl gs fl.length))] := by
  have hG := h.g
  have hl := h.len
  have hl8 := hG.len
  refine FnAt.of_body tys_ok Try.func31 (by rfl) rfl Try.ntmps31 (by rw [Try.results31]) (by simp) ?_
  
  repeat' (first
 | refine W.seq ?_
 | refine W.block ?_
 | (refine W.region tys_ok [] ?_; conv => whnf)
 | (refine W.drawAll tys_ok [] mixed rfl ?_; conv => whnf)
 | (refine W.ret ?_; conv => whnf)
 | (refine W.skip ?_; conv => whnf)
 | (refine W.exit ?_; conv => whnf)

    | (refine W.cond rfl (fun hb => ?_) (fun hb => ?_) <;> (try simp only [minL, maxL, pickB, getD_int, getD_sl, getD_bool, len_int, len_sl, len_bool, decide_eq_true_eq, decide_eq_false_iff_not, Bool.and_eq_true, Bool.or_eq_true, Bool.and_eq_false_iff, Bool.or_eq_false_iff, Bool.not_eq_true', Bool.not_eq_false', Bool.true_eq_false, Bool.false_eq_true, Int.toNat_natCast, Int.ofNat_lt, Int.ofNat_le, not_true_eq_false, not_false_eq_true, or_false, false_or, and_true, true_and, or_true, true_or, and_false, false_and] at hb) <;> (try (first | (cases hb; done) | exact absurd hb (by decide) | (exfalso; omega))))
    | ((with_reducible refine And.intro ?_ ?_); (focus ((repeat' (first | (with_reducible rfl) | (with_reducible refine And.intro ?_ ?_) | omega | rfl | exact Or.inl rfl | exact Or.inr rfl | (focus ((try simp only [minL, maxL, pickB, getD_int, getD_sl, getD_bool, len_int, len_sl, len_bool, decide_eq_true_eq, decide_eq_false_iff_not, Bool.and_eq_true, Bool.or_eq_true, Bool.and_eq_false_iff, Bool.or_eq_false_iff, Bool.not_eq_true', Bool.not_eq_false', Bool.true_eq_false, Bool.false_eq_true, Int.toNat_natCast, Int.ofNat_lt, Int.ofNat_le, not_true_eq_false, not_false_eq_true, or_false, false_or, and_true, true_and, or_true, true_or, and_false, false_and, InK, Path.imp, List.length_replicate, List.length_set, List.length_append, List.length_cons, List.length_nil] at *); omega)) | (refine app_le rfl ?_; omega))); done)); (conv => whnf))
    | ((with_reducible refine And.intro (Side.out ?_) ?_); rotate_left; (conv => whnf))
    | (refine retF1 ?_ <;> (conv => whnf) <;> repeat' (first
 | exact trivial
 | (with_reducible rfl)
 | ((with_reducible refine And.intro ?_ ?_) <;> conv => whnf)
 | omega
 | rfl
 | (refine congrArg (SV.arr _) ?_)
 | (refine congrArg (Value.int _) ?_)
 | (refine congrArg Value.bool ?_)))
 | (refine retF2 ?_ <;> (conv => whnf) <;> repeat' (first
 | exact trivial
 | (with_reducible rfl)
 | ((with_reducible refine And.intro ?_ ?_) <;> conv => whnf)
 | omega
 | rfl
 | (refine congrArg (SV.arr _) ?_)
 | (refine congrArg (Value.int _) ?_)
 | (refine congrArg Value.bool ?_)))); all_goals (try unfold Side)
  refine W.loop (fun i : Nat => ⟨[(0, .st false (.arr (.int .i64) fl)), (1, .st false (.arr (.sl (.int .i64)) gs)), (5, .own 8000), (6, .lit (.int .i64 i))], [(8000, .row 3 (.int .i64) true (sharesT fl gs i))]⟩)
    (fun i => i ≤ fl.length) (fun i => fl.length - i) 0 ?_ ?_
  · refine ⟨Nat.zero_le _, ?_⟩
    refine subF.ok ?_ <;> (conv => whnf) <;> repeat' (first
 | exact trivial
 | (with_reducible rfl)
 | ((with_reducible refine And.intro ?_ ?_) <;> conv => whnf)
 | omega
 | rfl
 | (refine congrArg (SV.arr _) ?_)
 | (refine congrArg (Value.int _) ?_)
 | (refine congrArg Value.bool ?_))
  · intro i hi
    have hsl := sharesT_len (fl := fl) (gs := gs) (i := i)
    have hb1 := lastV_bound (fl := fl) hG (i := i)
    have hb2 := lastV_bound (fl := fl) hG (i := i + 1)
    by_cases hil : i < fl.length
    · have hf1 := First_at (i + 1) (by omega)
      have hf0 := First_at i (by omega)
      have ha1 := Alone_ref fl gs _ h (range_grp (n := fl.length) (m := i + 1) (by omega))
      have ha0 := Alone_ref fl gs _ h (range_grp (n := fl.length) (m := i) (by omega))
      rw [aloneL_last] at ha1 ha0
      have hsl' : @List.length (Ty.int .i64).T (sharesT fl gs i) = i := hsl
      repeat' (first
 | refine W.seq ?_
 | refine W.block ?_
 | (refine W.region tys_ok [] ?_; conv => whnf)
 | (refine W.drawAll tys_ok [] mixed rfl ?_; conv => whnf)
 | (refine W.ret ?_; conv => whnf)
 | (refine W.skip ?_; conv => whnf)
 | (refine W.exit ?_; conv => whnf)
 | (refine call_at (al := false) (hf1) rfl rfl rfl rfl ?_; conv => whnf)
 | (refine call_at (al := false) (hf0) rfl rfl rfl rfl ?_; conv => whnf)
 | (refine call_at (al := false) (ha1) rfl rfl rfl rfl ?_; conv => whnf)
 | (refine call_at (al := false) (ha0) rfl rfl rfl rfl ?_; conv => whnf)

    | (refine W.cond rfl (fun hb => ?_) (fun hb => ?_) <;> (try simp only [minL, maxL, pickB, getD_int, getD_sl, getD_bool, len_int, len_sl, len_bool, decide_eq_true_eq, decide_eq_false_iff_not, Bool.and_eq_true, Bool.or_eq_true, Bool.and_eq_false_iff, Bool.or_eq_false_iff, Bool.not_eq_true', Bool.not_eq_false', Bool.true_eq_false, Bool.false_eq_true, Int.toNat_natCast, Int.ofNat_lt, Int.ofNat_le, not_true_eq_false, not_false_eq_true, or_false, false_or, and_true, true_and, or_true, true_or, and_false, false_and] at hb) <;> (try (first | (cases hb; done) | exact absurd hb (by decide) | (exfalso; omega))))
    | ((with_reducible refine And.intro ?_ ?_); (focus ((repeat' (first | (with_reducible rfl) | (with_reducible refine And.intro ?_ ?_) | omega | rfl | exact Or.inl rfl | exact Or.inr rfl | (focus ((try simp only [minL, maxL, pickB, getD_int, getD_sl, getD_bool, len_int, len_sl, len_bool, decide_eq_true_eq, decide_eq_false_iff_not, Bool.and_eq_true, Bool.or_eq_true, Bool.and_eq_false_iff, Bool.or_eq_false_iff, Bool.not_eq_true', Bool.not_eq_false', Bool.true_eq_false, Bool.false_eq_true, Int.toNat_natCast, Int.ofNat_lt, Int.ofNat_le, not_true_eq_false, not_false_eq_true, or_false, false_or, and_true, true_and, or_true, true_or, and_false, false_and, InK, Path.imp, List.length_replicate, List.length_set, List.length_append, List.length_cons, List.length_nil] at *); omega)) | (refine app_le rfl ?_; omega))); done)); (conv => whnf))
    | ((with_reducible refine And.intro (Side.out ?_) ?_); rotate_left; (conv => whnf))
    | (refine retF1 ?_ <;> (conv => whnf) <;> repeat' (first
 | exact trivial
 | (with_reducible rfl)
 | ((with_reducible refine And.intro ?_ ?_) <;> conv => whnf)
 | omega
 | rfl
 | (refine congrArg (SV.arr _) ?_)
 | (refine congrArg (Value.int _) ?_)
 | (refine congrArg Value.bool ?_)))
 | (refine retF2 ?_ <;> (conv => whnf) <;> repeat' (first
 | exact trivial
 | (with_reducible rfl)
 | ((with_reducible refine And.intro ?_ ?_) <;> conv => whnf)
 | omega
 | rfl
 | (refine congrArg (SV.arr _) ?_)
 | (refine congrArg (Value.int _) ?_)
 | (refine congrArg Value.bool ?_)))); all_goals (try unfold Side)
      all_goals try (repeat' (first | (with_reducible rfl) | (with_reducible refine And.intro ?_ ?_) | omega | rfl | exact Or.inl rfl | exact Or.inr rfl | (focus ((try simp only [minL, maxL, pickB, getD_int, getD_sl, getD_bool, len_int, len_sl, len_bool, decide_eq_true_eq, decide_eq_false_iff_not, Bool.and_eq_true, Bool.or_eq_true, Bool.and_eq_false_iff, Bool.or_eq_false_iff, Bool.not_eq_true', Bool.not_eq_false', Bool.true_eq_false, Bool.false_eq_true, Int.toNat_natCast, Int.ofNat_lt, Int.ofNat_le, not_true_eq_false, not_false_eq_true, or_false, false_or, and_true, true_and, or_true, true_or, and_false, false_and, InK, Path.imp, List.length_replicate, List.length_set, List.length_append, List.length_cons, List.length_nil] at *); omega)) | (refine app_le rfl ?_; omega)))
      refine ⟨i + 1, ⟨by omega, by omega⟩, ?_⟩
      refine subF.ok ?_ <;> (conv => whnf) <;> repeat' (first
 | exact trivial
 | (with_reducible rfl)
 | ((with_reducible refine And.intro ?_ ?_) <;> conv => whnf)
 | omega
 | rfl
 | (refine congrArg (SV.arr _) ?_)
 | (refine congrArg (Value.int _) ?_)
 | (refine congrArg Value.bool ?_))
    · have hie : i = fl.length := by omega
      subst hie
      repeat' (first
 | refine W.seq ?_
 | refine W.block ?_
 | (refine W.region tys_ok [] ?_; conv => whnf)
 | (refine W.drawAll tys_ok [] mixed rfl ?_; conv => whnf)
 | (refine W.ret ?_; conv => whnf)
 | (refine W.skip ?_; conv => whnf)
 | (refine W.exit ?_; conv => whnf)

    | (refine W.cond rfl (fun hb => ?_) (fun hb => ?_) <;> (try simp only [minL, maxL, pickB, getD_int, getD_sl, getD_bool, len_int, len_sl, len_bool, decide_eq_true_eq, decide_eq_false_iff_not, Bool.and_eq_true, Bool.or_eq_true, Bool.and_eq_false_iff, Bool.or_eq_false_iff, Bool.not_eq_true', Bool.not_eq_false', Bool.true_eq_false, Bool.false_eq_true, Int.toNat_natCast, Int.ofNat_lt, Int.ofNat_le, not_true_eq_false, not_false_eq_true, or_false, false_or, and_true, true_and, or_true, true_or, and_false, false_and] at hb) <;> (try (first | (cases hb; done) | exact absurd hb (by decide) | (exfalso; omega))))
    | ((with_reducible refine And.intro ?_ ?_); (focus ((repeat' (first | (with_reducible rfl) | (with_reducible refine And.intro ?_ ?_) | omega | rfl | exact Or.inl rfl | exact Or.inr rfl | (focus ((try simp only [minL, maxL, pickB, getD_int, getD_sl, getD_bool, len_int, len_sl, len_bool, decide_eq_true_eq, decide_eq_false_iff_not, Bool.and_eq_true, Bool.or_eq_true, Bool.and_eq_false_iff, Bool.or_eq_false_iff, Bool.not_eq_true', Bool.not_eq_false', Bool.true_eq_false, Bool.false_eq_true, Int.toNat_natCast, Int.ofNat_lt, Int.ofNat_le, not_true_eq_false, not_false_eq_true, or_false, false_or, and_true, true_and, or_true, true_or, and_false, false_and, InK, Path.imp, List.length_replicate, List.length_set, List.length_append, List.length_cons, List.length_nil] at *); omega)) | (refine app_le rfl ?_; omega))); done)); (conv => whnf))
    | ((with_reducible refine And.intro (Side.out ?_) ?_); rotate_left; (conv => whnf))
    | (refine retF1 ?_ <;> (conv => whnf) <;> repeat' (first
 | exact trivial
 | (with_reducible rfl)
 | ((with_reducible refine And.intro ?_ ?_) <;> conv => whnf)
 | omega
 | rfl
 | (refine congrArg (SV.arr _) ?_)
 | (refine congrArg (Value.int _) ?_)
 | (refine congrArg Value.bool ?_)))
 | (refine retF2 ?_ <;> (conv => whnf) <;> repeat' (first
 | exact trivial
 | (with_reducible rfl)
 | ((with_reducible refine And.intro ?_ ?_) <;> conv => whnf)
 | omega
 | rfl
 | (refine congrArg (SV.arr _) ?_)
 | (refine congrArg (Value.int _) ?_)
 | (refine congrArg Value.bool ?_)))); all_goals (try unfold Side)
      all_goals try (repeat' (first | (with_reducible rfl) | (with_reducible refine And.intro ?_ ?_) | omega | rfl | exact Or.inl rfl | exact Or.inr rfl | (focus ((try simp only [minL, maxL, pickB, getD_int, getD_sl, getD_bool, len_int, len_sl, len_bool, decide_eq_true_eq, decide_eq_false_iff_not, Bool.and_eq_true, Bool.or_eq_true, Bool.and_eq_false_iff, Bool.or_eq_false_iff, Bool.not_eq_true', Bool.not_eq_false', Bool.true_eq_false, Bool.false_eq_true, Int.toNat_natCast, Int.ofNat_lt, Int.ofNat_le, not_true_eq_false, not_false_eq_true, or_false, false_or, and_true, true_and, or_true, true_or, and_false, false_and, InK, Path.imp, List.length_replicate, List.length_set, List.length_append, List.length_cons, List.length_nil] at *); omega)) | (refine app_le rfl ?_; omega)))
end Go.Proofs.Ytohfemfgnohhdaa
/- A valid river made of any numbers. No condition. -/
namespace Go.Proofs.Ytohfemfgnohhdaa
open Go Go.Vc
set_option linter.unusedVariables false
set_option linter.unusedSimpArgs false

def foldI (v n : Int) : Int := (v.tmod n + n).tmod n
theorem foldI_range {v n : Int} (hn : 0 < n) : 0 ≤ foldI v n ∧ foldI v n < n := by
  have h1 := Int.lt_tmod_of_pos v hn
  have h2 := Int.tmod_lt_of_pos v hn
  have h3 : 0 ≤ v.tmod n + n := by omega
  exact ⟨Int.tmod_nonneg n h3, Int.tmod_lt_of_pos _ hn⟩
theorem foldI_id {v n : Int} (h0 : 0 ≤ v) (hn : v < n) : foldI v n = v := by
  unfold foldI
  rw [Int.tmod_eq_of_lt h0 hn, Int.tmod_eq_emod_of_nonneg (by omega), Int.add_emod_right, Int.emod_eq_of_lt h0 hn]
theorem fold_at (v n : Int) (hn : 0 < n) (hn2 : n ≤ 1000000) : FnAt Try.prog false 25 [.lit (.int .i64 v), .lit (.int .i64 n)] (.lit (.int .i64 (foldI v n))) [] := by
  have h1 := Int.lt_tmod_of_pos v hn
  have h2 := Int.tmod_lt_of_pos v hn
  refine FnAt.of_body tys_ok Try.func25 (by rfl) rfl Try.ntmps25 (by rw [Try.results25]) (by simp) ?_
  
  repeat' (first
 | refine W.seq ?_
 | refine W.block ?_
 | (refine W.region tys_ok [] ?_; conv => whnf)
 | (refine W.drawAll tys_ok [] mixed rfl ?_; conv => whnf)
 | (refine W.ret ?_; conv => whnf)
 | (refine W.skip ?_; conv => whnf)
 | (refine W.exit ?_; conv => whnf)

    | (refine W.cond rfl (fun hb => ?_) (fun hb => ?_) <;> (try simp only [minL, maxL, pickB, getD_int, getD_sl, getD_bool, len_int, len_sl, len_bool, decide_eq_true_eq, decide_eq_false_iff_not, Bool.and_eq_true, Bool.or_eq_true, Bool.and_eq_false_iff, Bool.or_eq_false_iff, Bool.not_eq_true', Bool.not_eq_false', Bool.true_eq_false, Bool.false_eq_true, Int.toNat_natCast, Int.ofNat_lt, Int.ofNat_le, not_true_eq_false, not_false_eq_true, or_false, false_or, and_true, true_and, or_true, true_or, and_false, false_and] at hb) <;> (try (first | (cases hb; done) | exact absurd hb (by decide) | (exfalso; omega))))
    | ((with_reducible refine And.intro ?_ ?_); (focus ((repeat' (first | (with_reducible rfl) | (with_reducible refine And.intro ?_ ?_) | omega | rfl | exact Or.inl rfl | exact Or.inr rfl | (focus ((try simp only [minL, maxL, pickB, getD_int, getD_sl, getD_bool, len_int, len_sl, len_bool, decide_eq_true_eq, decide_eq_false_iff_not, Bool.and_eq_true, Bool.or_eq_true, Bool.and_eq_false_iff, Bool.or_eq_false_iff, Bool.not_eq_true', Bool.not_eq_false', Bool.true_eq_false, Bool.false_eq_true, Int.toNat_natCast, Int.ofNat_lt, Int.ofNat_le, not_true_eq_false, not_false_eq_true, or_false, false_or, and_true, true_and, or_true, true_or, and_false, false_and, InK, Path.imp, List.length_replicate, List.length_set, List.length_append, List.length_cons, List.length_nil] at *); omega)) | (refine app_le rfl ?_; omega))); done)); (conv => whnf))
    | ((with_reducible refine And.intro (Side.out ?_) ?_); rotate_left; (conv => whnf))
    | (refine retF1 ?_ <;> (conv => whnf) <;> repeat' (first
 | exact trivial
 | (with_reducible rfl)
 | ((with_reducible refine And.intro ?_ ?_) <;> conv => whnf)
 | omega
 | rfl
 | (refine congrArg (SV.arr _) ?_)
 | (refine congrArg (Value.int _) ?_)
 | (refine congrArg Value.bool ?_)))
 | (refine retF2 ?_ <;> (conv => whnf) <;> repeat' (first
 | exact trivial
 | (with_reducible rfl)
 | ((with_reducible refine And.intro ?_ ?_) <;> conv => whnf)
 | omega
 | rfl
 | (refine congrArg (SV.arr _) ?_)
 | (refine congrArg (Value.int _) ?_)
 | (refine congrArg Value.bool ?_)))); all_goals (try unfold Side)
  all_goals try (repeat' (first | (with_reducible rfl) | (with_reducible refine And.intro ?_ ?_) | omega | rfl | exact Or.inl rfl | exact Or.inr rfl | (focus ((try simp only [minL, maxL, pickB, getD_int, getD_sl, getD_bool, len_int, len_sl, len_bool, decide_eq_true_eq, decide_eq_false_iff_not, Bool.and_eq_true, Bool.or_eq_true, Bool.and_eq_false_iff, Bool.or_eq_false_iff, Bool.not_eq_true', Bool.not_eq_false', Bool.true_eq_false, Bool.false_eq_true, Int.toNat_natCast, Int.ofNat_lt, Int.ofNat_le, not_true_eq_false, not_false_eq_true, or_false, false_or, and_true, true_and, or_true, true_or, and_false, false_and, InK, Path.imp, List.length_replicate, List.length_set, List.length_append, List.length_cons, List.length_nil] at *); omega)) | (refine app_le rfl ?_; omega)))

/-- The least so far. -/
def runMin (last : Int) : List Int → List Int
  | [] => []
  | x :: r => min last (foldI x 1001) :: runMin (min last (foldI x 1001)) r
def lastMin (last : Int) : List Int → Int
  | [] => last
  | x :: r => lastMin (min last (foldI x 1001)) r
theorem runMin_len : ∀ {l : List Int} {a : Int}, (runMin a l).length = l.length
  | [], _ => rfl
  | x :: r, a => by simp [runMin, runMin_len (l := r)]
theorem runMin_snoc {x : Int} : ∀ {l : List Int} {a : Int}, runMin a (l ++ [x]) = runMin a l ++ [min (lastMin a l) (foldI x 1001)]
  | [], a => rfl
  | y :: r, a => by simp only [List.cons_append, runMin, lastMin, runMin_snoc (l := r)]
theorem lastMin_snoc {x : Int} : ∀ {l : List Int} {a : Int}, lastMin a (l ++ [x]) = min (lastMin a l) (foldI x 1001)
  | [], a => rfl
  | y :: r, a => by simp only [List.cons_append, lastMin, lastMin_snoc (l := r)]
theorem lastMin_range : ∀ {l : List Int} {a : Int}, 0 ≤ a → a ≤ 1000 → 0 ≤ lastMin a l ∧ lastMin a l ≤ 1000
  | [], a, h0, h1 => ⟨h0, h1⟩
  | x :: r, a, h0, h1 => by
    have := foldI_range (v := x) (n := 1001) (by omega)
    exact lastMin_range (l := r) (by omega) (by omega)
theorem runMin_ok : ∀ {l : List Int} {a : Int}, 0 ≤ a → a ≤ 1000 → (∀ j, j < (runMin a l).length → 0 ≤ (runMin a l).getD j 0 ∧ (runMin a l).getD j 0 ≤ a) ∧ ∀ j, j + 1 < (runMin a l).length → (runMin a l).getD (j + 1) 0 ≤ (runMin a l).getD j 0
  | [], a, _, _ => ⟨fun j hj => by simp [runMin] at hj, fun j hj => by simp [runMin] at hj⟩
  | x :: r, a, h0, h1 => by
    have hf := foldI_range (v := x) (n := 1001) (by omega)
    obtain ⟨h2, h3⟩ := runMin_ok (l := r) (a := min a (foldI x 1001)) (by omega) (by omega)
    refine ⟨fun j hj => ?_, fun j hj => ?_⟩
    · cases j with
      | zero => simp only [runMin, List.getD_cons_zero]; omega
      | succ j =>
        simp only [runMin, List.length_cons] at hj
        have := h2 j (by omega)
        simp only [runMin, List.getD_cons_succ]; omega
    · simp only [runMin, List.length_cons] at hj
      cases j with
      | zero =>
        have := h2 0 (by omega)
        simp only [runMin, List.getD_cons_succ, List.getD_cons_zero]; omega
      | succ j =>
        have := h3 j (by omega)
        simp only [runMin, List.getD_cons_succ]; exact this
def madeR (gs : List (List Int)) (i : Nat) : List Int := runMin 1000 ((gs.getD i []).take 20)
def madeG (gs : List (List Int)) (n : Nat) : List (List Int) := (List.range n).map (madeR gs)
def madeV (fl : List Int) (i : Nat) : Int := if i < fl.length then foldI (fl.getD i 0) 31 else 0
def madeF (fl : List Int) (n : Nat) : List Int := (List.range n).map (madeV fl)
theorem madeF_len {fl : List Int} {n : Nat} : (madeF fl n).length = n := by simp [madeF]
theorem madeG_len {gs : List (List Int)} {n : Nat} : (madeG gs n).length = n := by simp [madeG]
theorem madeF_get {fl : List Int} {n i : Nat} (h : i < n) : (madeF fl n).getD i 0 = madeV fl i := by
  rw [madeF, List.getD_eq_getElem?_getD, List.getElem?_map, List.getElem?_range h]; rfl
theorem madeG_get {gs : List (List Int)} {n i : Nat} (h : i < n) : (madeG gs n).getD i [] = madeR gs i := by
  rw [madeG, List.getD_eq_getElem?_getD, List.getElem?_map, List.getElem?_range h]; rfl
theorem madeV_range {fl : List Int} {i : Nat} : 0 ≤ madeV fl i ∧ madeV fl i ≤ 30 := by
  unfold madeV
  split
  · have := foldI_range (v := fl.getD i 0) (n := 31) (by omega); omega
  · omega
theorem made_ok {fl : List Int} {gs : List (List Int)} {n : Nat} (h1 : 1 ≤ n) (h8 : n ≤ 8) : riverOk (madeF fl n) (madeG gs n) = true := by
  have hw : within (madeF fl n) 30 = true := by
    unfold within
    rw [Bool.not_eq_true', List.any_eq_false]
    intro x hx
    obtain ⟨i, _, rfl⟩ := List.mem_map.1 hx
    have := madeV_range (fl := fl) (i := i)
    simp only [Bool.or_eq_true, decide_eq_true_eq]
    omega
  have hg : (madeG gs n).all gOk = true := by
    refine List.all_eq_true.2 fun l hl => ?_
    obtain ⟨i, _, rfl⟩ := List.mem_map.1 hl
    obtain ⟨h2, h3⟩ := runMin_ok (l := (gs.getD i []).take 20) (a := 1000) (by omega) (by omega)
    simp only [gOk, Bool.and_eq_true, decide_eq_true_eq]
    refine ⟨⟨?_, ?_⟩, ?_⟩
    · rw [madeR, runMin_len, List.length_take]; omega
    · unfold within
      rw [Bool.not_eq_true', List.any_eq_false]
      intro x hx
      obtain ⟨j, hj, rfl⟩ := List.getElem_of_mem hx
      have := h2 j hj
      have e : (madeR gs i)[j] = (runMin 1000 ((gs.getD i []).take 20)).getD j 0 := by
        show (madeR gs i)[j] = (madeR gs i).getD j 0
        rw [List.getD_eq_getElem?_getD, List.getElem?_eq_getElem hj]; rfl
      simp only [Bool.or_eq_true, decide_eq_true_eq]
      omega
    · exact desc_iff.2 h3
  simp only [riverOk, madeF_len, madeG_len, hw, hg, Bool.and_true, decide_true, Bool.and_eq_true, decide_eq_true_eq]
  exact ⟨h1, h8⟩
set_option maxHeartbeats 2000000 in
theorem made_at (fl : List Int) (gs : List (List Int)) (most : Nat) (h1 : 1 ≤ most) (h8 : most ≤ 8) :
    FnAt Try.prog false 33 [.agg [.arr (.int .i64) fl, .arr (.sl (.int .i64)) gs], .lit (.int .i64 most)] (.tup [.own 0, .own 1]) [(0, .row 3 (.int .i64) true (madeF fl (max 1 (min fl.length most)))), (1, .row 22 (.sl (.int .i64)) true (madeG gs (max 1 (min fl.length most))))] := by
  obtain ⟨n, hn⟩ : ∃ n : Nat, n = max 1 (min fl.length most) := ⟨_, rfl⟩
  have hn8 : n ≤ 8 := by omega
  rw [← hn]
  refine FnAt.of_body tys_ok Try.func33 (by rfl) rfl Try.ntmps33 (by rw [Try.results33]) (by simp) ?_
  
  repeat' (first
 | refine W.seq ?_
 | refine W.block ?_
 | (refine W.region tys_ok [] ?_; conv => whnf)
 | (refine W.drawAll tys_ok [] mixed rfl ?_; conv => whnf)
 | (refine W.ret ?_; conv => whnf)
 | (refine W.skip ?_; conv => whnf)
 | (refine W.exit ?_; conv => whnf)

    | (refine W.cond rfl (fun hb => ?_) (fun hb => ?_) <;> (try simp only [minL, maxL, pickB, getD_int, getD_sl, getD_bool, len_int, len_sl, len_bool, decide_eq_true_eq, decide_eq_false_iff_not, Bool.and_eq_true, Bool.or_eq_true, Bool.and_eq_false_iff, Bool.or_eq_false_iff, Bool.not_eq_true', Bool.not_eq_false', Bool.true_eq_false, Bool.false_eq_true, Int.toNat_natCast, Int.ofNat_lt, Int.ofNat_le, not_true_eq_false, not_false_eq_true, or_false, false_or, and_true, true_and, or_true, true_or, and_false, false_and] at hb) <;> (try (first | (cases hb; done) | exact absurd hb (by decide) | (exfalso; omega))))
    | ((with_reducible refine And.intro ?_ ?_); (focus ((repeat' (first | (with_reducible rfl) | (with_reducible refine And.intro ?_ ?_) | omega | rfl | exact Or.inl rfl | exact Or.inr rfl | (focus ((try simp only [minL, maxL, pickB, getD_int, getD_sl, getD_bool, len_int, len_sl, len_bool, decide_eq_true_eq, decide_eq_false_iff_not, Bool.and_eq_true, Bool.or_eq_true, Bool.and_eq_false_iff, Bool.or_eq_false_iff, Bool.not_eq_true', Bool.not_eq_false', Bool.true_eq_false, Bool.false_eq_true, Int.toNat_natCast, Int.ofNat_lt, Int.ofNat_le, not_true_eq_false, not_false_eq_true, or_false, false_or, and_true, true_and, or_true, true_or, and_false, false_and, InK, Path.imp, List.length_replicate, List.length_set, List.length_append, List.length_cons, List.length_nil] at *); omega)) | (refine app_le rfl ?_; omega))); done)); (conv => whnf))
    | ((with_reducible refine And.intro (Side.out ?_) ?_); rotate_left; (conv => whnf))
    | (refine retF1 ?_ <;> (conv => whnf) <;> repeat' (first
 | exact trivial
 | (with_reducible rfl)
 | ((with_reducible refine And.intro ?_ ?_) <;> conv => whnf)
 | omega
 | rfl
 | (refine congrArg (SV.arr _) ?_)
 | (refine congrArg (Value.int _) ?_)
 | (refine congrArg Value.bool ?_)))
 | (refine retF2 ?_ <;> (conv => whnf) <;> repeat' (first
 | exact trivial
 | (with_reducible rfl)
 | ((with_reducible refine And.intro ?_ ?_) <;> conv => whnf)
 | omega
 | rfl
 | (refine congrArg (SV.arr _) ?_)
 | (refine congrArg (Value.int _) ?_)
 | (refine congrArg Value.bool ?_)))); all_goals (try unfold Side)
  all_goals try (repeat' (first | (with_reducible rfl) | (with_reducible refine And.intro ?_ ?_) | omega | rfl | exact Or.inl rfl | exact Or.inr rfl | (focus ((try simp only [minL, maxL, pickB, getD_int, getD_sl, getD_bool, len_int, len_sl, len_bool, decide_eq_true_eq, decide_eq_false_iff_not, Bool.and_eq_true, Bool.or_eq_true, Bool.and_eq_false_iff, Bool.or_eq_false_iff, Bool.not_eq_true', Bool.not_eq_false', Bool.true_eq_false, Bool.false_eq_true, Int.toNat_natCast, Int.ofNat_lt, Int.ofNat_le, not_true_eq_false, not_false_eq_true, or_false, false_or, and_true, true_and, or_true, true_or, and_false, false_and, InK, Path.imp, List.length_replicate, List.length_set, List.length_append, List.length_cons, List.length_nil] at *); omega)) | (refine app_le rfl ?_; omega)))
  refine W.loop (fun i : Nat => ⟨[(2, .padr 3000 0), (6, .lit (.int .i64 n)), (7, .own 79000), (8, .own 83000), (9, .lit (.int .i64 i))],
      [(3000, .box [.st false (.arr (.int .i64) fl), .st false (.arr (.sl (.int .i64)) gs)]), (79000, .row 3 (.int .i64) true (madeF fl i)), (83000, .row 22 (.sl (.int .i64)) true (madeG gs i))]⟩)
    (fun i => i ≤ n) (fun i => n - i) 0 ?_ ?_
  · refine ⟨Nat.zero_le _, ?_⟩
    refine subF.ok ?_ <;> (conv => whnf) <;> repeat' (first
 | exact trivial
 | (with_reducible rfl)
 | ((with_reducible refine And.intro ?_ ?_) <;> conv => whnf)
 | omega
 | rfl
 | (refine congrArg (SV.arr _) ?_)
 | (refine congrArg (Value.int _) ?_)
 | (refine congrArg Value.bool ?_))
    show max (1 : Int) (min (fl.length : Int) (most : Int)) = (n : Int)
    omega
  · intro i hi
    have hfl' : @List.length (Ty.int .i64).T (madeF fl i) = i := madeF_len
    have hgl' : @List.length (Ty.sl (.int .i64)).T (madeG gs i) = i := madeG_len
    have hfs : madeF fl (i + 1) = madeF fl i ++ [madeV fl i] := by simp [madeF, List.range_succ]
    have hgs : madeG gs (i + 1) = madeG gs i ++ [madeR gs i] := by simp [madeG, List.range_succ]
    by_cases hin : i < n
    · have hf := fold_at (fl.getD i 0) 31 (by omega) (by omega)
      obtain ⟨r, hr⟩ : ∃ r, r = (gs.getD i []).take 20 := ⟨_, rfl⟩
      have hrm : madeR gs i = runMin 1000 r := by rw [hr]; rfl
      have hrl : r.length = min 20 (gs.getD i []).length := by rw [hr, List.length_take]
      have hro : ¬ i < gs.length → (gs.getD i []).length = 0 := fun h => by rw [List.getD_eq_getElem?_getD, List.getElem?_eq_none (by omega)]; rfl
      repeat' (first
 | refine W.seq ?_
 | refine W.block ?_
 | (refine W.region tys_ok [] ?_; conv => whnf)
 | (refine W.drawAll tys_ok [] mixed rfl ?_; conv => whnf)
 | (refine W.ret ?_; conv => whnf)
 | (refine W.skip ?_; conv => whnf)
 | (refine W.exit ?_; conv => whnf)
 | (refine call_at (al := false) (hf) rfl rfl rfl rfl ?_; conv => whnf)

    | (refine W.cond rfl (fun hb => ?_) (fun hb => ?_) <;> (try simp only [minL, maxL, pickB, getD_int, getD_sl, getD_bool, len_int, len_sl, len_bool, decide_eq_true_eq, decide_eq_false_iff_not, Bool.and_eq_true, Bool.or_eq_true, Bool.and_eq_false_iff, Bool.or_eq_false_iff, Bool.not_eq_true', Bool.not_eq_false', Bool.true_eq_false, Bool.false_eq_true, Int.toNat_natCast, Int.ofNat_lt, Int.ofNat_le, not_true_eq_false, not_false_eq_true, or_false, false_or, and_true, true_and, or_true, true_or, and_false, false_and] at hb) <;> (try (first | (cases hb; done) | exact absurd hb (by decide) | (exfalso; omega))))
    | ((with_reducible refine And.intro ?_ ?_); (focus ((repeat' (first | (with_reducible rfl) | (with_reducible refine And.intro ?_ ?_) | omega | rfl | exact Or.inl rfl | exact Or.inr rfl | (focus ((try simp only [minL, maxL, pickB, getD_int, getD_sl, getD_bool, len_int, len_sl, len_bool, decide_eq_true_eq, decide_eq_false_iff_not, Bool.and_eq_true, Bool.or_eq_true, Bool.and_eq_false_iff, Bool.or_eq_false_iff, Bool.not_eq_true', Bool.not_eq_false', Bool.true_eq_false, Bool.false_eq_true, Int.toNat_natCast, Int.ofNat_lt, Int.ofNat_le, not_true_eq_false, not_false_eq_true, or_false, false_or, and_true, true_and, or_true, true_or, and_false, false_and, InK, Path.imp, List.length_replicate, List.length_set, List.length_append, List.length_cons, List.length_nil] at *); omega)) | (refine app_le rfl ?_; omega))); done)); (conv => whnf))
    | ((with_reducible refine And.intro (Side.out ?_) ?_); rotate_left; (conv => whnf))
    | (refine retF1 ?_ <;> (conv => whnf) <;> repeat' (first
 | exact trivial
 | (with_reducible rfl)
 | ((with_reducible refine And.intro ?_ ?_) <;> conv => whnf)
 | omega
 | rfl
 | (refine congrArg (SV.arr _) ?_)
 | (refine congrArg (Value.int _) ?_)
 | (refine congrArg Value.bool ?_)))
 | (refine retF2 ?_ <;> (conv => whnf) <;> repeat' (first
 | exact trivial
 | (with_reducible rfl)
 | ((with_reducible refine And.intro ?_ ?_) <;> conv => whnf)
 | omega
 | rfl
 | (refine congrArg (SV.arr _) ?_)
 | (refine congrArg (Value.int _) ?_)
 | (refine congrArg Value.bool ?_)))); all_goals (try unfold Side)
      all_goals try (repeat' (first | (with_reducible rfl) | (with_reducible refine And.intro ?_ ?_) | omega | rfl | exact Or.inl rfl | exact Or.inr rfl | (focus ((try simp only [minL, maxL, pickB, getD_int, getD_sl, getD_bool, len_int, len_sl, len_bool, decide_eq_true_eq, decide_eq_false_iff_not, Bool.and_eq_true, Bool.or_eq_true, Bool.and_eq_false_iff, Bool.or_eq_false_iff, Bool.not_eq_true', Bool.not_eq_false', Bool.true_eq_false, Bool.false_eq_true, Int.toNat_natCast, Int.ofNat_lt, Int.ofNat_le, not_true_eq_false, not_false_eq_true, or_false, false_or, and_true, true_and, or_true, true_or, and_false, false_and, InK, Path.imp, List.length_replicate, List.length_set, List.length_append, List.length_cons, List.length_nil] at *); omega)) | (refine app_le rfl ?_; omega)))
      iterate 2
        · rename_i hb
          refine W.loop (fun k : Nat => ⟨[(2, .padr 3000 0), (6, .lit (.int .i64 n)), (7, .own 79000), (8, .own 83000), (9, .lit (.int .i64 i)), (10, .lit (.int .i64 (madeV fl i))), (11, .own 75000), (12, .lit (.int .i64 (lastMin 1000 (r.take k)))), (13, .lit (.int .i64 k))],
              [(3000, .box [.st false (.arr (.int .i64) fl), .st false (.arr (.sl (.int .i64)) gs)]), (79000, .row 3 (.int .i64) true (madeF fl i)), (83000, .row 22 (.sl (.int .i64)) true (madeG gs i)), (75000, .row 3 (.int .i64) true (runMin 1000 (r.take k)))]⟩)
            (fun k => k ≤ r.length) (fun k => r.length - k) 0 ?_ ?_
          · refine ⟨Nat.zero_le _, ?_⟩
            refine subF.ok ?_ <;> (conv => whnf) <;> repeat' (first
 | exact trivial
 | (with_reducible rfl)
 | ((with_reducible refine And.intro ?_ ?_) <;> conv => whnf)
 | omega
 | rfl
 | (refine congrArg (SV.arr _) ?_)
 | (refine congrArg (Value.int _) ?_)
 | (refine congrArg Value.bool ?_))
            simp only [madeV, hb, if_true, if_false]
          · intro k hk
            have hml : @List.length (Ty.int .i64).T (runMin 1000 (r.take k)) = k := by
              show (runMin 1000 (r.take k)).length = k
              rw [runMin_len, List.length_take]; omega
            have hlm := lastMin_range (l := r.take k) (a := 1000) (by omega) (by omega)
            by_cases hkr : k < r.length
            · have hig : i < gs.length := by
                by_cases h : i < gs.length
                · exact h
                · have := hro h; omega
              have hkg : k < (gs.getD i []).length := by omega
              have hf2 := fold_at ((gs.getD i []).getD k 0) 1001 (by omega) (by omega)
              have hrk : r.getD k 0 = (gs.getD i []).getD k 0 := by rw [hr, getD_take (by omega)]
              have hts : r.take (k + 1) = r.take k ++ [(gs.getD i []).getD k 0] := by rw [take_getD (d := 0) hkr, hrk]
              repeat' (first
 | refine W.seq ?_
 | refine W.block ?_
 | (refine W.region tys_ok [] ?_; conv => whnf)
 | (refine W.drawAll tys_ok [] mixed rfl ?_; conv => whnf)
 | (refine W.ret ?_; conv => whnf)
 | (refine W.skip ?_; conv => whnf)
 | (refine W.exit ?_; conv => whnf)
 | (refine call_at (al := false) (hf2) rfl rfl rfl rfl ?_; conv => whnf)

    | (refine W.cond rfl (fun hb => ?_) (fun hb => ?_) <;> (try simp only [minL, maxL, pickB, getD_int, getD_sl, getD_bool, len_int, len_sl, len_bool, decide_eq_true_eq, decide_eq_false_iff_not, Bool.and_eq_true, Bool.or_eq_true, Bool.and_eq_false_iff, Bool.or_eq_false_iff, Bool.not_eq_true', Bool.not_eq_false', Bool.true_eq_false, Bool.false_eq_true, Int.toNat_natCast, Int.ofNat_lt, Int.ofNat_le, not_true_eq_false, not_false_eq_true, or_false, false_or, and_true, true_and, or_true, true_or, and_false, false_and] at hb) <;> (try (first | (cases hb; done) | exact absurd hb (by decide) | (exfalso; omega))))
    | ((with_reducible refine And.intro ?_ ?_); (focus ((repeat' (first | (with_reducible rfl) | (with_reducible refine And.intro ?_ ?_) | omega | rfl | exact Or.inl rfl | exact Or.inr rfl | (focus ((try simp only [minL, maxL, pickB, getD_int, getD_sl, getD_bool, len_int, len_sl, len_bool, decide_eq_true_eq, decide_eq_false_iff_not, Bool.and_eq_true, Bool.or_eq_true, Bool.and_eq_false_iff, Bool.or_eq_false_iff, Bool.not_eq_true', Bool.not_eq_false', Bool.true_eq_false, Bool.false_eq_true, Int.toNat_natCast, Int.ofNat_lt, Int.ofNat_le, not_true_eq_false, not_false_eq_true, or_false, false_or, and_true, true_and, or_true, true_or, and_false, false_and, InK, Path.imp, List.length_replicate, List.length_set, List.length_append, List.length_cons, List.length_nil] at *); omega)) | (refine app_le rfl ?_; omega))); done)); (conv => whnf))
    | ((with_reducible refine And.intro (Side.out ?_) ?_); rotate_left; (conv => whnf))
    | (refine retF1 ?_ <;> (conv => whnf) <;> repeat' (first
 | exact trivial
 | (with_reducible rfl)
 | ((with_reducible refine And.intro ?_ ?_) <;> conv => whnf)
 | omega
 | rfl
 | (refine congrArg (SV.arr _) ?_)
 | (refine congrArg (Value.int _) ?_)
 | (refine congrArg Value.bool ?_)))
 | (refine retF2 ?_ <;> (conv => whnf) <;> repeat' (first
 | exact trivial
 | (with_reducible rfl)
 | ((with_reducible refine And.intro ?_ ?_) <;> conv => whnf)
 | omega
 | rfl
 | (refine congrArg (SV.arr _) ?_)
 | (refine congrArg (Value.int _) ?_)
 | (refine congrArg Value.bool ?_)))); all_goals (try unfold Side)
              all_goals try (repeat' (first | (with_reducible rfl) | (with_reducible refine And.intro ?_ ?_) | omega | rfl | exact Or.inl rfl | exact Or.inr rfl | (focus ((try simp only [minL, maxL, pickB, getD_int, getD_sl, getD_bool, len_int, len_sl, len_bool, decide_eq_true_eq, decide_eq_false_iff_not, Bool.and_eq_true, Bool.or_eq_true, Bool.and_eq_false_iff, Bool.or_eq_false_iff, Bool.not_eq_true', Bool.not_eq_false', Bool.true_eq_false, Bool.false_eq_true, Int.toNat_natCast, Int.ofNat_lt, Int.ofNat_le, not_true_eq_false, not_false_eq_true, or_false, false_or, and_true, true_and, or_true, true_or, and_false, false_and, InK, Path.imp, List.length_replicate, List.length_set, List.length_append, List.length_cons, List.length_nil] at *); omega)) | (refine app_le rfl ?_; omega)))
              refine ⟨k + 1, ⟨by omega, by omega⟩, ?_⟩
              rw [hts, lastMin_snoc, runMin_snoc]
              refine subF.ok ?_ <;> (conv => whnf) <;> repeat' (first
 | exact trivial
 | (with_reducible rfl)
 | ((with_reducible refine And.intro ?_ ?_) <;> conv => whnf)
 | omega
 | rfl
 | (refine congrArg (SV.arr _) ?_)
 | (refine congrArg (Value.int _) ?_)
 | (refine congrArg Value.bool ?_))
            · have hke : k = r.length := by omega
              subst hke
              rw [List.take_length]
              repeat' (first
 | refine W.seq ?_
 | refine W.block ?_
 | (refine W.resub (x := Code.region 15 _ _) (Γ' := ⟨[(2, .padr 3000 0), (6, .lit (.int .i64 n)), (7, .own 79000), (8, .own 83000), (9, .lit (.int .i64 i)), (10, .lit (.int .i64 (madeV fl i))), (11, .st true (.arr (.int .i64) (madeR gs i)))], [(3000, .box [.st false (.arr (.int .i64) fl), .st false (.arr (.sl (.int .i64)) gs)]), (79000, .row 3 (.int .i64) true (madeF fl i)), (83000, .row 22 (.sl (.int .i64)) true (madeG gs i))]⟩) ?_ (W.region tys_ok [] ?_); rotate_left; (conv => whnf))
 | (refine W.region tys_ok [] ?_; conv => whnf)
 | (refine W.drawAll tys_ok [] mixed rfl ?_; conv => whnf)
 | (refine W.ret ?_; conv => whnf)
 | (refine W.skip ?_; conv => whnf)
 | (refine W.exit ?_; conv => whnf)

    | (refine W.cond rfl (fun hb => ?_) (fun hb => ?_) <;> (try simp only [minL, maxL, pickB, getD_int, getD_sl, getD_bool, len_int, len_sl, len_bool, decide_eq_true_eq, decide_eq_false_iff_not, Bool.and_eq_true, Bool.or_eq_true, Bool.and_eq_false_iff, Bool.or_eq_false_iff, Bool.not_eq_true', Bool.not_eq_false', Bool.true_eq_false, Bool.false_eq_true, Int.toNat_natCast, Int.ofNat_lt, Int.ofNat_le, not_true_eq_false, not_false_eq_true, or_false, false_or, and_true, true_and, or_true, true_or, and_false, false_and] at hb) <;> (try (first | (cases hb; done) | exact absurd hb (by decide) | (exfalso; omega))))
    | ((with_reducible refine And.intro ?_ ?_); (focus ((repeat' (first | (with_reducible rfl) | (with_reducible refine And.intro ?_ ?_) | omega | rfl | exact Or.inl rfl | exact Or.inr rfl | (focus ((try simp only [minL, maxL, pickB, getD_int, getD_sl, getD_bool, len_int, len_sl, len_bool, decide_eq_true_eq, decide_eq_false_iff_not, Bool.and_eq_true, Bool.or_eq_true, Bool.and_eq_false_iff, Bool.or_eq_false_iff, Bool.not_eq_true', Bool.not_eq_false', Bool.true_eq_false, Bool.false_eq_true, Int.toNat_natCast, Int.ofNat_lt, Int.ofNat_le, not_true_eq_false, not_false_eq_true, or_false, false_or, and_true, true_and, or_true, true_or, and_false, false_and, InK, Path.imp, List.length_replicate, List.length_set, List.length_append, List.length_cons, List.length_nil] at *); omega)) | (refine app_le rfl ?_; omega))); done)); (conv => whnf))
    | ((with_reducible refine And.intro (Side.out ?_) ?_); rotate_left; (conv => whnf))
    | (refine retF1 ?_ <;> (conv => whnf) <;> repeat' (first
 | exact trivial
 | (with_reducible rfl)
 | ((with_reducible refine And.intro ?_ ?_) <;> conv => whnf)
 | omega
 | rfl
 | (refine congrArg (SV.arr _) ?_)
 | (refine congrArg (Value.int _) ?_)
 | (refine congrArg Value.bool ?_)))
 | (refine retF2 ?_ <;> (conv => whnf) <;> repeat' (first
 | exact trivial
 | (with_reducible rfl)
 | ((with_reducible refine And.intro ?_ ?_) <;> conv => whnf)
 | omega
 | rfl
 | (refine congrArg (SV.arr _) ?_)
 | (refine congrArg (Value.int _) ?_)
 | (refine congrArg Value.bool ?_)))); all_goals (try unfold Side)
              all_goals try (repeat' (first | (with_reducible rfl) | (with_reducible refine And.intro ?_ ?_) | omega | rfl | exact Or.inl rfl | exact Or.inr rfl | (focus ((try simp only [minL, maxL, pickB, getD_int, getD_sl, getD_bool, len_int, len_sl, len_bool, decide_eq_true_eq, decide_eq_false_iff_not, Bool.and_eq_true, Bool.or_eq_true, Bool.and_eq_false_iff, Bool.or_eq_false_iff, Bool.not_eq_true', Bool.not_eq_false', Bool.true_eq_false, Bool.false_eq_true, Int.toNat_natCast, Int.ofNat_lt, Int.ofNat_le, not_true_eq_false, not_false_eq_true, or_false, false_or, and_true, true_and, or_true, true_or, and_false, false_and, InK, Path.imp, List.length_replicate, List.length_set, List.length_append, List.length_cons, List.length_nil] at *); omega)) | (refine app_le rfl ?_; omega)))
              · refine ⟨i + 1, ⟨by omega, by omega⟩, ?_⟩
                rw [hfs, hgs]
                refine subF.ok ?_ <;> (conv => whnf) <;> repeat' (first
 | exact trivial
 | (with_reducible rfl)
 | ((with_reducible refine And.intro ?_ ?_) <;> conv => whnf)
 | omega
 | rfl
 | (refine congrArg (SV.arr _) ?_)
 | (refine congrArg (Value.int _) ?_)
 | (refine congrArg Value.bool ?_))
              · refine subF.ok ?_ <;> (conv => whnf) <;> repeat' (first
 | exact trivial
 | (with_reducible rfl)
 | ((with_reducible refine And.intro ?_ ?_) <;> conv => whnf)
 | omega
 | rfl
 | (refine congrArg (SV.arr _) ?_)
 | (refine congrArg (Value.int _) ?_)
 | (refine congrArg Value.bool ?_))
                exact hrm.symm
    · have hie : i = n := by omega
      subst hie
      repeat' (first
 | refine W.seq ?_
 | refine W.block ?_
 | (refine W.region tys_ok [] ?_; conv => whnf)
 | (refine W.drawAll tys_ok [] mixed rfl ?_; conv => whnf)
 | (refine W.ret ?_; conv => whnf)
 | (refine W.skip ?_; conv => whnf)
 | (refine W.exit ?_; conv => whnf)

    | (refine W.cond rfl (fun hb => ?_) (fun hb => ?_) <;> (try simp only [minL, maxL, pickB, getD_int, getD_sl, getD_bool, len_int, len_sl, len_bool, decide_eq_true_eq, decide_eq_false_iff_not, Bool.and_eq_true, Bool.or_eq_true, Bool.and_eq_false_iff, Bool.or_eq_false_iff, Bool.not_eq_true', Bool.not_eq_false', Bool.true_eq_false, Bool.false_eq_true, Int.toNat_natCast, Int.ofNat_lt, Int.ofNat_le, not_true_eq_false, not_false_eq_true, or_false, false_or, and_true, true_and, or_true, true_or, and_false, false_and] at hb) <;> (try (first | (cases hb; done) | exact absurd hb (by decide) | (exfalso; omega))))
    | ((with_reducible refine And.intro ?_ ?_); (focus ((repeat' (first | (with_reducible rfl) | (with_reducible refine And.intro ?_ ?_) | omega | rfl | exact Or.inl rfl | exact Or.inr rfl | (focus ((try simp only [minL, maxL, pickB, getD_int, getD_sl, getD_bool, len_int, len_sl, len_bool, decide_eq_true_eq, decide_eq_false_iff_not, Bool.and_eq_true, Bool.or_eq_true, Bool.and_eq_false_iff, Bool.or_eq_false_iff, Bool.not_eq_true', Bool.not_eq_false', Bool.true_eq_false, Bool.false_eq_true, Int.toNat_natCast, Int.ofNat_lt, Int.ofNat_le, not_true_eq_false, not_false_eq_true, or_false, false_or, and_true, true_and, or_true, true_or, and_false, false_and, InK, Path.imp, List.length_replicate, List.length_set, List.length_append, List.length_cons, List.length_nil] at *); omega)) | (refine app_le rfl ?_; omega))); done)); (conv => whnf))
    | ((with_reducible refine And.intro (Side.out ?_) ?_); rotate_left; (conv => whnf))
    | (refine retF1 ?_ <;> (conv => whnf) <;> repeat' (first
 | exact trivial
 | (with_reducible rfl)
 | ((with_reducible refine And.intro ?_ ?_) <;> conv => whnf)
 | omega
 | rfl
 | (refine congrArg (SV.arr _) ?_)
 | (refine congrArg (Value.int _) ?_)
 | (refine congrArg Value.bool ?_)))
 | (refine retF2 ?_ <;> (conv => whnf) <;> repeat' (first
 | exact trivial
 | (with_reducible rfl)
 | ((with_reducible refine And.intro ?_ ?_) <;> conv => whnf)
 | omega
 | rfl
 | (refine congrArg (SV.arr _) ?_)
 | (refine congrArg (Value.int _) ?_)
 | (refine congrArg Value.bool ?_)))); all_goals (try unfold Side)
      all_goals try (repeat' (first | (with_reducible rfl) | (with_reducible refine And.intro ?_ ?_) | omega | rfl | exact Or.inl rfl | exact Or.inr rfl | (focus ((try simp only [minL, maxL, pickB, getD_int, getD_sl, getD_bool, len_int, len_sl, len_bool, decide_eq_true_eq, decide_eq_false_iff_not, Bool.and_eq_true, Bool.or_eq_true, Bool.and_eq_false_iff, Bool.or_eq_false_iff, Bool.not_eq_true', Bool.not_eq_false', Bool.true_eq_false, Bool.false_eq_true, Int.toNat_natCast, Int.ofNat_lt, Int.ofNat_le, not_true_eq_false, not_false_eq_true, or_false, false_or, and_true, true_and, or_true, true_or, and_false, false_and, InK, Path.imp, List.length_replicate, List.length_set, List.length_append, List.length_cons, List.length_nil] at *); omega)) | (refine app_le rfl ?_; omega)))
end Go.Proofs.Ytohfemfgnohhdaa
/- A region in whatever order, phase by phase: what floats, then some operations in every order, and so on. No condition. -/
namespace Go.Vc
set_option linter.unusedVariables false
set_option linter.unusedSimpArgs false

theorem wf_range {k : IntKind} {n : Int} (h : (Ty.int k).wf n) : k.min ≤ n ∧ n ≤ k.max := by
  have h : (decide (k.min ≤ n) && decide (n ≤ k.max)) = true := h
  rw [Bool.and_eq_true, decide_eq_true_iff, decide_eq_true_iff] at h
  exact h
theorem wf_u8 {n : Int} (h : (Ty.int .u8).wf n) : 0 ≤ n ∧ n ≤ 255 := by
  have := wf_range h
  simp [IntKind.min, IntKind.max, IntKind.signed, IntKind.bits] at this
  exact this
theorem wf_u16 {n : Int} (h : (Ty.int .u16).wf n) : 0 ≤ n ∧ n ≤ 65535 := by
  have := wf_range h
  simp [IntKind.min, IntKind.max, IntKind.signed, IntKind.bits] at this
  exact this
theorem wf_i64 {n : Int} (h : (Ty.int .i64).wf n) : -9223372036854775808 ≤ n ∧ n ≤ 9223372036854775807 := by
  have := wf_range h
  simp [IntKind.min, IntKind.max, IntKind.signed, IntKind.bits] at this
  exact this
theorem wpAnyH_sub {P : Program} {md : Region.Mode} {ops : Array Oper} {Q : Exit → Act → World → Prop} {S S' : World → Prop} (hS : ∀ w, S' w → S w) :
    ∀ (fuel : Nat) (listed : Array Bool) (a : Act) (w : World), wpAnyH P md ops Q S' fuel listed a w → wpAnyH P md ops Q S fuel listed a w
  | 0, _, _, _, h => h
  | fuel + 1, _, _, _, h => ⟨h.1, fun i hi => wpOp_mono (fun a' w' h' => ⟨hS _ h'.1, wpAnyH_sub hS fuel _ a' w' h'.2⟩) (h.2 i hi)⟩

def tree2 (P : Program) (T : List (Nat × TE)) (F : List Nat) (n : Nat) (ops : Array Oper) (E : List Nat) : Nat → Nat → Sy → (Nat → Sy → Prop) → Prop
  | 0, done, Γ, K => K done Γ
  | k + 1, done, Γ, K => eachP (rdy done E 0) fun i => match ops[i]? with
    | some o => opsVC P T F n (dstsOf ops) [] [o] i 0 Γ fun Γ' => tree2 P T F n ops E k (Nat.lor done (2 ^ i)) Γ' K
    | none => False

theorem tree2_sound {P : Program} {T : List (Nat × TE)} {F : List Nat} (hT : TOk P T) {c : Cx} {ops : Array Oper} {E : List Nat} (hE : dirms ops = E) {K : Nat → Sy → Prop} {Q : Exit → Act → World → Prop} {m : Nat}
    (hQ : ∀ (listed : Array Bool) done Γ' g' a' w', listed.size = ops.size → cnt listed = m → (∀ j, j < ops.size → listed[j]? = some (done.testBit j)) → K done Γ' → St c Γ' g' a' w' → wpAnyH P .any ops Q c.S m listed a' w')
    (hed : ∀ j o, ops[j]? = some o → ∀ e ∈ o.after, Region.binds .any e = true → e.on < j) :
    ∀ (k : Nat) (listed : Array Bool) (done : Nat) (Γ : Sy) (g : Nat → Value) (a : Act) (w : World), listed.size = ops.size → cnt listed = k + m → (∀ j, j < ops.size → listed[j]? = some (done.testBit j)) →
      tree2 P T F c.n ops E k done Γ K → St c Γ g a w → wpAnyH P .any ops Q c.S (k + m) listed a w := by
  intro k
  induction k with
  | zero =>
    intro listed done Γ g a w hsz hc hd h hst
    rw [Nat.zero_add] at hc ⊢
    exact hQ listed done Γ g a w hsz hc hd h hst
  | succ k ih =>
    intro listed done Γ g a w hsz hc hd h hst
    rw [show k + 1 + m = (k + m) + 1 from by omega] at hc ⊢
    refine ⟨fun hrd => ?_, fun i hi => ?_⟩
    · obtain ⟨i, h1, h2⟩ := cnt_pos (listed := listed) (by omega)
      have hi : i < ops.size := by rw [← hsz]; exact (Array.getElem?_eq_some_iff.1 h1).1
      have : i ∈ Region.ready .any ops listed := ready_mem.2 ⟨hi, by simp [Array.getD_eq_getD_getElem?, h1], fun o ho e he hb => by
        have := h2 e.on (hed i o ho e he hb)
        simp [Array.getD_eq_getD_getElem?, this]⟩
      rw [hrd] at this; cases this
    · obtain ⟨h1, h2, h3⟩ := ready_mem.1 hi
      have hoi : ops[i]? = some ops[i] := by simp [h1]
      have hdi : done.testBit i = false := by
        have := hd i h1
        simp only [Array.getD_eq_getD_getElem?, this, Option.getD_some] at h2
        exact h2
      have hEi : E[i]? = some (dirm (ops[i]).after.toList 0) := by
        rw [← hE, dirms, List.getElem?_map]
        simp [h1]
      have hm := rdy_mem (done := done) (i := i) (s := 0) hEi (by rw [Nat.zero_add]; exact hdi) fun j hj => by
        rcases dirm_bit hj with h4 | ⟨e, he, hb, rfl⟩
        · simp at h4
        · have h5 := h3 _ hoi e (by simpa using he) hb
          have h6 := hed i _ hoi e (by simpa using he) hb
          have h7 := hd e.on (by omega)
          simp only [Array.getD_eq_getD_getElem?, h7, Option.getD_some] at h5
          exact h5
      rw [Nat.zero_add] at hm
      have h4 := eachP_mem h i hm
      rw [hoi] at h4
      obtain ⟨Γ', h5, h6⟩ := one_sound hT hoi h4
      have hlf : listed[i]? = some false := by rw [hd i h1, hdi]
      refine h5 Q g a w _ hst fun g' a' w' h7 => ⟨h7.s, ih _ (Nat.lor done (2 ^ i)) Γ' g' a' w' (by simp [hsz]) (by have := cnt_set hlf; omega) (fun j hj => ?_) h6 h7⟩
      show _ = some ((done ||| 2 ^ i).testBit j)
      rw [Nat.testBit_or, Nat.testBit_two_pow]
      by_cases e : i = j
      · subst e
        rw [Array.getElem?_setIfInBounds_self_of_lt (by omega)]
        simp
      · rw [Array.getElem?_setIfInBounds_ne e, hd j hj]
        simp [e]

/-- Which of the first are done, as an array. -/
def arrOf (n done : Nat) : Array Bool := ((List.range n).map fun j => done.testBit j).toArray
theorem arrOf_eq {listed : Array Bool} {n done : Nat} (hsz : listed.size = n) (hd : ∀ j, j < n → listed[j]? = some (done.testBit j)) : listed = arrOf n done := by
  apply Array.ext_getElem?
  intro j
  by_cases h : j < n
  · rw [hd j h, arrOf, List.getElem?_toArray, List.getElem?_map, List.getElem?_range h]; rfl
  · rw [Array.getElem?_eq_none (by omega), arrOf, List.getElem?_toArray, List.getElem?_map, List.getElem?_eq_none (by simp; omega)]; rfl
def addM (done : Nat) : List Nat → Nat
  | [] => done
  | i :: r => addM (Nat.lor done (2 ^ i)) r
theorem addM_bit {j : Nat} : ∀ {L : List Nat} {done : Nat}, (addM done L).testBit j = (memN j L || done.testBit j)
  | [], done => by simp [addM, memN]
  | i :: r, done => by
    have h1 : (Nat.lor done (2 ^ i)).testBit j = (done.testBit j || decide (i = j)) := by
      show (done ||| 2 ^ i).testBit j = _
      rw [Nat.testBit_or, Nat.testBit_two_pow]
    simp only [addM, memN]
    rw [addM_bit, h1]
    have h2 : Nat.beq i j = decide (i = j) := by
      rw [Bool.eq_iff_iff, decide_eq_true_iff]
      exact ⟨Nat.eq_of_beq_eq_true, fun e => by subst e; exact Nat.beq_refl i⟩
    rw [h2]
    cases decide (i = j) <;> cases memN j r <;> cases done.testBit j <;> rfl
/-- The phases: what floats, how many operations come then in every order, and which are done behind them. -/
def phVC (P : Program) (T : List (Nat × TE)) (F : List Nat) (n : Nat) (ops : Array Oper) (E : List Nat) : List (List Nat × Nat × Nat) → Nat → Sy → (Sy → Prop) → Prop
  | [], _, Γ, K => K Γ
  | (L, k, d) :: r, done, Γ, K => floatVC T n ops L Γ fun Γ1 => tree2 P T F n ops E k (addM done L) Γ1 fun d' Γ' => ck (Nat.beq d' d) (phVC P T F n ops E r d Γ' K)
def phOk (ops : Array Oper) : List (List Nat × Nat × Nat) → Nat → Bool
  | [], done => allBelow ops.size fun j => done.testBit j
  | (L, k, d) :: r, done => floatOk ops L (arrOf ops.size done) && listOnce ops.size L && allBelow ops.size (fun j => !(memN j L && done.testBit j)) && Nat.ble (L.length + k) (cnt (arrOf ops.size done)) && phOk ops r d
theorem listOnce_lt {n : Nat} : ∀ {L : List Nat}, listOnce n L = true → ∀ k, memN k L = true → k < n
  | [], _, k, hk => by cases hk
  | i :: r, h1, k, hk => by
    simp only [listOnce, Bool.and_eq_true] at h1
    simp only [memN, Bool.or_eq_true] at hk
    rcases hk with hk | hk
    · rw [← Nat.eq_of_beq_eq_true hk]; exact Nat.le_of_ble_eq_true h1.1.1
    · exact listOnce_lt h1.2 k hk
theorem ph_sound {P : Program} {T : List (Nat × TE)} {F : List Nat} (hT : TOk P T) {ops : Array Oper} {E : List Nat} (hE : dirms ops = E) {K : Sy → Prop} {Q : Exit → Act → World → Prop} (hs : Region.noSelect ops = true) (hQp : ∀ x a w, ¬ Q (.panic x) a w)
    (hed : ∀ j o, ops[j]? = some o → ∀ e ∈ o.after, Region.binds .any e = true → e.on < j) (c0 : Cx) (hQ : ∀ Γ' g' a' w' K', K Γ' → (∀ b x, c0.K b = some x → K' b = some x) → St { c0 with K := K' } Γ' g' a' w' → Q .normal a' w') :
    ∀ (ph : List (List Nat × Nat × Nat)) (K0 : Nat → Option (Array Value × TypeId × (Nat × Nat))) (listed : Array Bool) (done : Nat) (Γ : Sy) (g : Nat → Value) (a : Act) (w : World), (∀ b x, c0.K b = some x → K0 b = some x) → listed.size = ops.size →
      (∀ j, j < ops.size → listed[j]? = some (done.testBit j)) → phOk ops ph done = true → phVC P T F c0.n ops E ph done Γ K → St { c0 with K := K0 } Γ g a w → wpAnyH P .any ops Q (Cx.S { c0 with K := K0 }) (cnt listed) listed a w
  | [], K0, listed, done, Γ, g, a, w, hK0, hsz, hd, hok, h, hst => by
    have hall : ∀ i, i < listed.size → listed[i]? = some true := fun i hi => by
      have := allBelow_get hok i (by omega)
      rw [hd i (by omega), this]
    have hc : cnt listed = 0 := by
      refine Classical.byContradiction fun hne => ?_
      obtain ⟨i, h1, _⟩ := cnt_pos (listed := listed) (by omega)
      have hi := (Array.getElem?_eq_some_iff.1 h1).1
      rw [hall i hi] at h1
      cases h1
    rw [hc]
    refine ⟨List.eq_nil_iff_forall_not_mem.2 fun i hi => ?_, hQ Γ g a w K0 h hK0 hst⟩
    obtain ⟨h1, h2, _⟩ := ready_mem.1 hi
    have := hall i (by omega)
    simp [Array.getD_eq_getD_getElem?, this] at h2
  | (L, k, d) :: r, K0, listed, done, Γ, g, a, w, hK0, hsz, hd, hok, h, hst => by
    simp only [phOk, Bool.and_eq_true] at hok
    obtain ⟨⟨⟨⟨hf, honce⟩, hnew⟩, hle⟩, hrest⟩ := hok
    have harr := arrOf_eq hsz hd
    rw [← harr] at hf hle
    have hle := Nat.le_of_ble_eq_true hle
    obtain ⟨K1, hK1, hK2⟩ := keepAll w (Oset Γ.own g)
    have hsub : ∀ b x, K0 b = some x → K1 b = some x := fun b x hb => hK2 b _ _ _ (hst.kept b x hb).1 (hst.kept b x hb).2
    have hst1 : St { c0 with K := K1 } Γ g a w := ⟨hst.defers, hst.size, hst.keep, hst.o0, hst.tmps, hK1, hst.hp⟩
    refine wpAnyH_sub (S' := Cx.S { c0 with K := K1 }) (fun w' h' b x hb => h' b x (hsub b x hb)) _ _ _ _ ?_
    have hun : ∀ i, memN i L = true → listed[i]? = some false := fun i hi => by
      have hlt := listOnce_lt honce i hi
      have h1 := allBelow_get hnew i hlt
      rw [hd i hlt]
      simp only [hi, Bool.true_and, Bool.not_eq_true'] at h1
      rw [h1]
    have hcn := cnt_listAll (L := L) (l := listed) honce hsz hun
    have hgo := floats (P := P) (c := { c0 with K := K1 }) (w := w) (Q := Q) hT hs hQp hK2 L listed Γ a (cnt (listAll L listed)) rfl hf h hst1
    rw [hcn] at hgo
    refine hgo fun Γ1 a1 h1 hst2 => ?_
    obtain ⟨m, hm⟩ : ∃ m, cnt (listAll L listed) = k + m := ⟨cnt (listAll L listed) - k, by omega⟩
    rw [hm]
    refine tree2_sound (c := { c0 with K := K1 }) hT hE (m := m) (fun listed' done' Γ' g' a' w' hsz' hc' hd' hk' hst' => ?_) hed k _ (addM done L) Γ1 g a1 _ (by rw [listAll_size]; exact hsz) hm (fun j hj => ?_) h1 hst2
    · obtain ⟨h2, h3⟩ := ck_ok hk'
      have h2 := Nat.eq_of_beq_eq_true h2
      rw [h2] at hd'
      have := ph_sound hT hE hs hQp hed c0 hQ r K1 listed' d Γ' g' a' w' (fun b x hb => hsub b x (hK0 b x hb)) hsz' hd' hrest h3 hst'
      rw [hc'] at this
      exact this
    · rw [listAll_get (by omega), addM_bit]
      cases hmm : memN j L with
      | true => simp
      | false => simp [hd j hj]

/-- A region in whatever order, phase by phase. -/
theorem W.drawPhK {P : Program} {n : Nat} {Q : Exit → Sy → Prop} {Γ : Sy} {T : List (Nat × TE)} (hT : TOk P T) (F : List Nat) (hmx : P.follows .mixedOrders = true) (E : List Nat) (ph : List (List Nat × Nat × Nat)) {id : Nat} {ops : Array Oper} {K : Sy → Prop}
    (hK : ∀ c Γ' g' a' w', K Γ' → St c Γ' g' a' w' → ∃ Γ'' g'', Q .normal Γ'' ∧ St c Γ'' g'' a' w')
    (hd : (allBelow ops.size (fun j => match ops[j]? with
      | none => false
      | some o => edgesLt j o.after.toList) && (dirms ops == E) && phOk ops ph 0 && Region.noSelect ops) = true)
    (h : phVC P T F n ops E ph 0 Γ K) : W P n (.region id ops true) Γ Q := by
  simp only [Bool.and_eq_true] at hd
  obtain ⟨⟨⟨hall, hE⟩, hok⟩, hsel⟩ := hd
  have hE : dirms ops = E := by simpa using hE
  have hed : ∀ j o, ops[j]? = some o → ∀ e ∈ o.after, Region.binds .any e = true → e.on < j := by
    intro j o ho
    have hlt := (Array.getElem?_eq_some_iff.1 ho).1
    have h1 := allBelow_get hall j hlt
    rw [ho] at h1
    exact fun e he hb => edgesLt_get h1 (by simpa using he) hb
  refine ⟨fun c g a w hn hst => ?_⟩
  have key : (Code.region id ops true).wp P (fun e a' w' => match e with | .normal => ∃ Γ' g', K Γ' ∧ St c Γ' g' a' w' | _ => False) a w := by
    refine wp_region_held (S := c.S) hmx ?_
    have hcr : cnt (Array.replicate ops.size false) = ops.size := by simp [cnt, List.filter_replicate]
    have hmain := ph_sound (K := K) (Q := fun e a' w' => match e with | .normal => ∃ Γ' g', K Γ' ∧ St c Γ' g' a' w' | _ => False) hT hE hsel (fun _ _ _ h => h) hed c (fun Γ' g' a' w' K' hq hK' hst' =>
      ⟨Γ', g', hq, hst'.defers, hst'.size, hst'.keep, hst'.o0, hst'.tmps, fun b x hb => hst'.kept b x (hK' b x hb), hst'.hp⟩) ph c.K (Array.replicate ops.size false) 0 Γ g a { w with drawn := w.drawn + 1 } (fun _ _ h => h) (by simp) (fun j hj => by simp [hj]) hok (by rw [hn]; exact h) (hst.keepW (Keep.drew w))
    rw [hcr] at hmain
    exact hmain
  refine wp_mono key fun e a' w' hq => ?_
  cases e with
  | normal =>
    obtain ⟨Γ', g', h1, h2⟩ := hq
    exact hK c Γ' g' a' w' h1 h2
  | _ => exact hq.elim
theorem W.drawPh {P : Program} {n : Nat} {Q : Exit → Sy → Prop} {Γ : Sy} {T : List (Nat × TE)} (hT : TOk P T) (F : List Nat) (hmx : P.follows .mixedOrders = true) (E : List Nat) (ph : List (List Nat × Nat × Nat)) {id : Nat} {ops : Array Oper}
    (hd : (allBelow ops.size (fun j => match ops[j]? with
      | none => false
      | some o => edgesLt j o.after.toList) && (dirms ops == E) && phOk ops ph 0 && Region.noSelect ops) = true)
    (h : phVC P T F n ops E ph 0 Γ fun Γ' => Q .normal Γ') : W P n (.region id ops true) Γ Q :=
  W.drawPhK hT F hmx E ph (K := fun Γ' => Q .normal Γ') (fun c Γ' g' a' w' h1 h2 => ⟨Γ', g', h1, h2⟩) hd h
theorem W.drawPhTo {P : Program} {n : Nat} {Q : Exit → Sy → Prop} {Γ : Sy} {T : List (Nat × TE)} (hT : TOk P T) (F : List Nat) (hmx : P.follows .mixedOrders = true) (E : List Nat) (ph : List (List Nat × Nat × Nat)) (Γ2 : Sy) {id : Nat} {ops : Array Oper}
    (hd : (allBelow ops.size (fun j => match ops[j]? with
      | none => false
      | some o => edgesLt j o.after.toList) && (dirms ops == E) && phOk ops ph 0 && Region.noSelect ops) = true)
    (h : phVC P T F n ops E ph 0 Γ fun Γ' => Leaf (Sub Γ' Γ2 (mkRen Γ' Γ2))) (hnext : Q .normal Γ2) : W P n (.region id ops true) Γ Q :=
  W.drawPhK hT F hmx E ph (K := fun Γ' => Leaf (Sub Γ' Γ2 (mkRen Γ' Γ2))) (fun c Γ' g' a' w' h1 h2 => by
    obtain ⟨hs⟩ := h1
    exact ⟨Γ2, _, hnext, hs.st h2⟩) hd h
end Go.Vc
/- Rights by age: the mathematics. No condition. -/
namespace Go.Proofs.Ytohfemfgnohhdaa
open Go Go.Vc
set_option linter.unusedVariables false
set_option linter.unusedSimpArgs false

theorem Rights.ix {fl ri ag : List Int} (h : Rights fl ri ag) {p : Nat} (hp : p < fl.length) : ∃ a : Nat, ag.getD p 0 = (a : Int) ∧ a < fl.length ∧ Go.Proofs.Ytohfemfgnohhdaa.ix ag a = p := by
  have hv := h.va p hp
  refine ⟨(ag.getD p 0).toNat, by omega, by omega, ?_⟩
  obtain ⟨_, h2, h3⟩ := has_spec (h.hs (ag.getD p 0).toNat (by omega))
  exact h.inj _ _ (by rw [h.la] at h2; exact h2) hp (by rw [h3]; omega)
theorem callsT_len {fl ri ag : List Int} : ∀ {a : Nat}, (callsT fl ri ag a).length = fl.length
  | 0 => by simp [callsT]
  | a + 1 => by simp only [callsT, List.length_set]; exact callsT_len
/-- What a place gets is settled when its turn comes. -/
theorem callsT_later {fl ri ag : List Int} (h : Rights fl ri ag) {a : Nat} (ha : a < fl.length) : ∀ {m : Nat}, a + 1 ≤ m → m ≤ fl.length → (callsT fl ri ag m).getD (ix ag a) 0 = (callsT fl ri ag (a + 1)).getD (ix ag a) 0
  | 0, h1, _ => by omega
  | m + 1, h1, h2 => by
    by_cases e : a = m
    · subst e; rfl
    · obtain ⟨_, h3, h4⟩ := has_spec (h.hs a ha)
      obtain ⟨_, h5, h6⟩ := has_spec (h.hs m (by omega))
      have hla := h.la
      have hne : ix ag a ≠ ix ag m := fun e2 => by rw [e2, h6] at h4; omega
      simp only [callsT]
      rw [set_getD (by rw [callsT_len]; omega), if_neg hne]
      exact callsT_later h ha (by omega) (by omega)
theorem callsT_turn {fl ri ag : List Int} (h : Rights fl ri ag) {a : Nat} (ha : a < fl.length) : (callsT fl ri ag (a + 1)).getD (ix ag a) 0 = (top (pIx fl (callsT fl ri ag a) (ix ag a)) (ri.getD (ix ag a) 0).toNat : Nat) := by
  obtain ⟨_, h3, _⟩ := has_spec (h.hs a ha)
  have hla := h.la
  simp only [callsT]
  rw [set_getD (by rw [callsT_len]; omega), if_pos rfl]
theorem callsT_same {fl ri ri' ag : List Int} : ∀ {a : Nat}, (∀ b, b < a → ri.getD (ix ag b) 0 = ri'.getD (ix ag b) 0) → callsT fl ri ag a = callsT fl ri' ag a
  | 0, _ => rfl
  | a + 1, h => by
    simp only [callsT]
    rw [callsT_same fun b hb => h b (by omega), h a (by omega)]
/-- What a place gets. -/
theorem calls_range {fl ri ag : List Int} (h : Rights fl ri ag) {p : Nat} (hp : p < fl.length) : 0 ≤ (callsT fl ri ag fl.length).getD p 0 ∧ (callsT fl ri ag fl.length).getD p 0 ≤ ri.getD p 0 := by
  obtain ⟨a, h1, h2, rfl⟩ := h.ix hp
  have hr := h.vr (ix ag a) hp
  have := top_le (p := pIx fl (callsT fl ri ag a) (ix ag a)) (n := (ri.getD (ix ag a) 0).toNat)
  rw [callsT_later h h2 (by omega) (Nat.le_refl _), callsT_turn h h2]
  omega
/-- It does not depend on the younger ones' rights. -/
theorem calls_younger {fl ri ri' ag : List Int} (h : Rights fl ri ag) (h' : Rights fl ri' ag) {age : Int} (hs : ∀ p, p < fl.length → ag.getD p 0 ≤ age → ri.getD p 0 = ri'.getD p 0) {p : Nat} (hp : p < fl.length) (hpa : ag.getD p 0 ≤ age) :
    (callsT fl ri ag fl.length).getD p 0 = (callsT fl ri' ag fl.length).getD p 0 := by
  obtain ⟨a, h1, h2, rfl⟩ := h.ix hp
  rw [callsT_later h h2 (by omega) (Nat.le_refl _), callsT_later h' h2 (by omega) (Nat.le_refl _), callsT_same (ri' := ri') fun b hb => ?_]
  obtain ⟨_, h5, h6⟩ := has_spec (h.hs b (by omega))
  have hla := h.la
  exact hs _ (by omega) (by rw [h6]; omega)
theorem top_up {p q : Nat → Bool} (h : ∀ k, p k = true → q k = true) (hq : ∀ k, q (k + 1) = true → q k = true) : ∀ {n : Nat}, top p n ≤ top q n
  | 0 => by simp [top]
  | n + 1 => by
    have ih := top_up h hq (n := n)
    simp only [top]
    cases hp : p (n + 1) with
    | true => rw [h _ hp]; simp
    | false =>
      simp only [cond_false]
      have := top_le (p := q) (n := n)
      cases q (n + 1) <;> simp only [cond_true, cond_false] <;> omega
theorem poss_more : ∀ {fl fl' us : List Int} {l l' : Int}, fl.length = fl'.length → l ≤ l' → (∀ i, i < fl.length → fl.getD i 0 ≤ fl'.getD i 0) → poss l fl us = true → poss l' fl' us = true
  | [], [], us, l, l', _, _, _, _ => by cases us <;> rfl
  | [], _ :: _, us, _, _, h, _, _, _ => by simp at h
  | _ :: _, [], us, _, _, h, _, _, _ => by simp at h
  | f :: fl, f' :: fl', [], l, l', _, _, _, _ => rfl
  | f :: fl, f' :: fl', u :: us, l, l', hlen, hl, hf, h => by
    simp only [poss, Bool.and_eq_true, Bool.not_eq_true', decide_eq_false_iff_not] at h ⊢
    have h0 := hf 0 (by simp)
    simp only [List.getD_cons_zero] at h0
    exact ⟨by omega, poss_more (by simpa using hlen) (by omega) (fun i hi => by have := hf (i + 1) (by simpa using hi); simpa using this) h.2⟩
/-- More water anywhere never gives the oldest place less. -/
theorem calls_oldest {fl fl' ri ag : List Int} (h : Rights fl ri ag) (h' : Rights fl' ri ag) (hl : fl.length = fl'.length) (hf : ∀ i, i < fl.length → fl.getD i 0 ≤ fl'.getD i 0) {p : Nat} (hp : p < fl.length) (hp0 : ag.getD p 0 = 0) :
    (callsT fl ri ag fl.length).getD p 0 ≤ (callsT fl' ri ag fl'.length).getD p 0 := by
  obtain ⟨a, h1, h2, rfl⟩ := h.ix hp
  have ha : a = 0 := by omega
  subst ha
  rw [callsT_later h h2 (by omega) (Nat.le_refl _), callsT_later h' (by omega) (by omega) (Nat.le_refl _), callsT_turn h h2, callsT_turn h' (by omega)]
  have e : callsT fl' ri ag 0 = callsT fl ri ag 0 := by simp [callsT, hl]
  rw [e]
  have hlen : (callsT fl ri ag 0).length = fl.length := callsT_len
  have := top_up (p := pIx fl (callsT fl ri ag 0) (ix ag 0)) (q := pIx fl' (callsT fl ri ag 0) (ix ag 0)) (fun k hk => poss_more hl (Int.le_refl 0) hf hk) (fun k hk => pIx_down (by omega) k hk) (n := (ri.getD (ix ag 0) 0).toNat)
  omega
/-- Ages that are those of a turn. -/
theorem has_of {ag : List Int} {a p : Nat} (hp : p < ag.length) (h : ag.getD p 0 = (a : Int)) : has ag a = true := by
  simp only [has, decide_eq_true_eq]
  exact fidx_of hp (by rw [h]; simp)
def ageT (z : Int) (rev : Bool) (n : Nat) : List Int := (List.range n).map fun (i : Nat) => if rev then (n : Int) - 1 - ((i : Int) + z).tmod n else ((i : Int) + z).tmod n
theorem ageT_len {z : Int} {rev : Bool} {n : Nat} : (ageT z rev n).length = n := by simp [ageT]
theorem ageT_get {z : Int} {rev : Bool} {n i : Nat} (hi : i < n) : (ageT z rev n).getD i 0 = if rev then (n : Int) - 1 - ((i : Int) + z).tmod n else ((i : Int) + z).tmod n := by
  rw [ageT, List.getD_eq_getElem?_getD, List.getElem?_map, List.getElem?_range hi]; rfl
theorem turn_at {z : Int} {n : Nat} (hz : 0 ≤ z) {a : Nat} (ha : a < n) : ∃ i : Nat, i < n ∧ ((i : Int) + z).tmod n = a := by
  refine ⟨(((a : Int) - z) % n).toNat, ?_, ?_⟩
  · have h1 := Int.emod_nonneg ((a : Int) - z) (show (n : Int) ≠ 0 by omega)
    have h2 := Int.emod_lt_of_pos ((a : Int) - z) (show (0 : Int) < n by omega)
    omega
  · have h1 := Int.emod_nonneg ((a : Int) - z) (show (n : Int) ≠ 0 by omega)
    rw [show ((((a : Int) - z) % n).toNat : Int) = ((a : Int) - z) % n from by omega, Int.tmod_eq_emod_of_nonneg (by omega), Int.emod_add_emod]
    rw [show (a : Int) - z + z = a from by omega]
    exact Int.emod_eq_of_lt (by omega) (by omega)
theorem age_rights {fl ri : List Int} {z : Int} {rev : Bool} (hz : 0 ≤ z) (h1 : 1 ≤ fl.length) (h8 : fl.length ≤ 8) (hl : ri.length = fl.length) (hf : ∀ i, i < fl.length → 0 ≤ fl.getD i 0 ∧ fl.getD i 0 ≤ 30)
    (hr : ∀ i, i < fl.length → 0 ≤ ri.getD i 0 ∧ ri.getD i 0 ≤ 30) : rightsOk fl ri (ageT z rev fl.length) = true := by
  have hval : ∀ i, i < fl.length → 0 ≤ (ageT z rev fl.length).getD i 0 ∧ (ageT z rev fl.length).getD i 0 ≤ (fl.length : Int) - 1 := fun i hi => by
    rw [ageT_get hi]
    have h2 := Int.tmod_nonneg (fl.length : Int) (show 0 ≤ (i : Int) + z by omega)
    have h3 := Int.tmod_lt_of_pos ((i : Int) + z) (show (0 : Int) < fl.length by omega)
    split <;> omega
  simp only [rightsOk, Bool.and_eq_true, decide_eq_true_eq]
  refine ⟨⟨⟨⟨⟨⟨⟨h1, h8⟩, hl⟩, ageT_len⟩, within_of hf⟩, within_of fun i hi => hr i (by omega)⟩, within_of fun i hi => hval i (by rw [ageT_len] at hi; exact hi)⟩, hasT_of fun a ha => ?_⟩
  cases rev with
  | false =>
    obtain ⟨i, h2, h3⟩ := turn_at (n := fl.length) hz ha
    exact has_of (p := i) (by rw [ageT_len]; exact h2) (by rw [ageT_get h2]; simpa using h3)
  | true =>
    obtain ⟨i, h2, h3⟩ := turn_at (n := fl.length) (a := fl.length - 1 - a) hz (by omega)
    exact has_of (p := i) (by rw [ageT_len]; exact h2) (by rw [ageT_get h2]; simp only [if_true]; omega)
end Go.Proofs.Ytohfemfgnohhdaa
/- WaterOlder: the law returns true. No condition. -/
namespace Go.Vc
theorem W.joinTo {P : Program} {n : Nat} {Q : Exit → Sy → Prop} {Γ : Sy} {t : Nat} {u x y z : Code} (Γ' : Sy) (h1 : W P n (.seq u (.cond (.tmp t) x y)) Γ (thenQ (fun Γ1 => Side (Sub Γ1 Γ' (mkRen Γ1 Γ'))) Q)) (h2 : W P n z Γ' Q) : W P n (.seq (.seq u (.cond (.tmp t) x y)) z) Γ Q := by
  refine W.seq ⟨fun c g a w hn hst => wp_mono (h1.out c g a w hn hst) fun e a' w' hq => ?_⟩
  obtain ⟨Γ1, g', h3, h4⟩ := hq
  cases e with
  | normal => exact ⟨Γ1, g', W.sub h3 h2, h4⟩
  | _ => exact ⟨Γ1, g', h3, h4⟩
end Go.Vc
namespace Go.Proofs.Ytohfemfgnohhdaa
open Go Go.Vc
set_option linter.unusedVariables false
set_option linter.unusedSimpArgs false

theorem Calls_good {fl ri ag : List Int} (hok : rightsOk fl ri ag = true) (h1 : fl.length ≤ 1000) (h2 : ri.length ≤ 1000) (h3 : ag.length ≤ 1000) :
    FnAt Try.prog false 22 [.arr (.int .i64) fl, .arr (.int .i64) ri, .arr (.int .i64) ag] (.tup [.own 0, .lit (.int .i64 0)]) [(0, .row 3 (.int .i64) true (callsT fl ri ag fl.length))] := by
  have h := Calls_ok fl ri ag h1 h2 h3
  rw [hok] at h
  exact h
theorem map_getD {n i : Nat} {f : Nat → Int} (hi : i < n) : ((List.range n).map f).getD i 0 = f i := by
  rw [List.getD_eq_getElem?_getD, List.getElem?_map, List.getElem?_range hi]; rfl
theorem intext {l m : List Int} (hl : l.length = m.length) (h : ∀ i, i < l.length → l.getD i 0 = m.getD i 0) : l = m := by
  refine List.ext_getElem hl fun i h1 h2 => ?_
  have := h i h1
  rw [List.getD_eq_getElem?_getD, List.getD_eq_getElem?_getD, List.getElem?_eq_getElem h1, List.getElem?_eq_getElem h2] at this
  exact this
/-- The ages, turned round up to j. -/
def revT (z : Int) (n j : Nat) : List Int := (List.range n).map fun (i : Nat) => if i < j then (n : Int) - 1 - ((i : Int) + z).tmod n else ((i : Int) + z).tmod n
theorem revT_len {z : Int} {n j : Nat} : (revT z n j).length = n := by simp [revT]
theorem revT_zero {z : Int} {n : Nat} : revT z n 0 = ageT z false n := rfl
theorem revT_all {z : Int} {n : Nat} : revT z n n = ageT z true n := by
  refine intext (by rw [revT_len, ageT_len]) fun i hi => ?_
  rw [revT_len] at hi
  rw [ageT_get hi, revT, map_getD hi, if_pos hi]; rfl
theorem revT_at {z : Int} {n j : Nat} (hj : j < n) : (revT z n j).getD j 0 = ((j : Int) + z).tmod n := by
  rw [revT, map_getD hj, if_neg (Nat.lt_irrefl j)]
theorem revT_step {z : Int} {n j : Nat} (hj : j < n) : (revT z n j).set j ((n : Int) - 1 - (revT z n j).getD j 0) = revT z n (j + 1) := by
  rw [revT_at hj]
  refine intext (by rw [List.length_set, revT_len, revT_len]) fun i hi => ?_
  rw [List.length_set, revT_len] at hi
  rw [set_getD (by rw [revT_len]; exact hj)]
  by_cases h : i = j
  · subst h
    rw [if_pos rfl, revT, map_getD hi, if_pos (Nat.lt_succ_self i)]
  · rw [if_neg h, revT, revT, map_getD hi, map_getD hi]
    by_cases h2 : i < j
    · rw [if_pos h2, if_pos (by omega)]
    · rw [if_neg h2, if_neg (by omega)]
/-- Other rights of the younger places. -/
def otherT (R B : List Int) (g z : Int) (n i : Nat) : List Int := (List.range n).map fun p => if p < i ∧ g < B.getD p 0 then foldI (R.getD p 0 + z) 31 else R.getD p 0
theorem otherT_len {R B : List Int} {g z : Int} {n i : Nat} : (otherT R B g z n i).length = n := by simp [otherT]
theorem otherT_zero {R B : List Int} {g z : Int} {n : Nat} (h : R.length = n) : otherT R B g z n 0 = R := by
  refine intext (by rw [otherT_len, h]) fun i hi => ?_
  rw [otherT_len] at hi
  rw [otherT, map_getD hi, if_neg (by omega)]
theorem otherT_hit {R B : List Int} {g z : Int} {n i : Nat} (hi : i < n) (h : g < B.getD i 0) : (otherT R B g z n i).set i (foldI (R.getD i 0 + z) 31) = otherT R B g z n (i + 1) := by
  refine intext (by rw [List.length_set, otherT_len, otherT_len]) fun p hp => ?_
  rw [List.length_set, otherT_len] at hp
  rw [set_getD (by rw [otherT_len]; exact hi)]
  by_cases hpi : p = i
  · subst hpi
    rw [if_pos rfl, otherT, map_getD hp, if_pos ⟨Nat.lt_succ_self p, h⟩]
  · rw [if_neg hpi, otherT, otherT, map_getD hp, map_getD hp]
    by_cases h2 : p < i
    · by_cases h3 : g < B.getD p 0
      · rw [if_pos ⟨h2, h3⟩, if_pos ⟨by omega, h3⟩]
      · rw [if_neg fun h => h3 h.2, if_neg fun h => h3 h.2]
    · rw [if_neg fun h => h2 h.1, if_neg fun h => by omega]
theorem otherT_miss {R B : List Int} {g z : Int} {n i : Nat} (h : ¬ g < B.getD i 0) : otherT R B g z n i = otherT R B g z n (i + 1) := by
  refine intext (by rw [otherT_len, otherT_len]) fun p hp => ?_
  rw [otherT_len] at hp
  rw [otherT, otherT, map_getD hp, map_getD hp]
  by_cases hpi : p = i
  · subst hpi
    rw [if_neg fun h' => h h'.2, if_neg fun h' => h h'.2]
  · by_cases h2 : p < i
    · by_cases h3 : g < B.getD p 0
      · rw [if_pos ⟨h2, h3⟩, if_pos ⟨by omega, h3⟩]
      · rw [if_neg fun h => h3 h.2, if_neg fun h => h3 h.2]
    · rw [if_neg fun h => h2 h.1, if_neg fun h => by omega]
theorem otherT_get {R B : List Int} {g z : Int} {n p : Nat} (hp : p < n) : (otherT R B g z n n).getD p 0 = if g < B.getD p 0 then foldI (R.getD p 0 + z) 31 else R.getD p 0 := by
  rw [otherT, map_getD hp]
  by_cases h3 : g < B.getD p 0
  · rw [if_pos ⟨hp, h3⟩, if_pos h3]
  · rw [if_neg fun h => h3 h.2, if_neg h3]
/-- Where the oldest place is, as far as i. -/
def oldT (B : List Int) : Nat → Nat
  | 0 => 0
  | i + 1 => if B.getD i 0 = 0 then i else oldT B i
theorem oldT_le {B : List Int} : ∀ {i : Nat}, oldT B i ≤ i
  | 0 => Nat.le_refl _
  | i + 1 => by
    have := oldT_le (B := B) (i := i)
    simp only [oldT]
    split <;> omega
theorem oldT_spec {B : List Int} : ∀ {i p : Nat}, p < i → B.getD p 0 = 0 → oldT B i < i ∧ B.getD (oldT B i) 0 = 0
  | 0, p, h, _ => by omega
  | i + 1, p, h, h0 => by
    simp only [oldT]
    by_cases hi : B.getD i 0 = 0
    · rw [if_pos hi]; exact ⟨by omega, hi⟩
    · rw [if_neg hi]
      have hp : p ≠ i := fun h => hi (h ▸ h0)
      have := oldT_spec (B := B) (i := i) (p := p) (by omega) h0
      exact ⟨by omega, this.2⟩
/-- The plain facts of the law. -/
structure Older (F R B O M U V W : List Int) (n : Nat) (g : Int) : Prop where
  ok : rightsOk F R B = true
  ok2 : rightsOk F O B = true
  ok3 : rightsOk M R B = true
  lu : U.length = n
  lv : V.length = n
  lw : W.length = n
  ps : poss 0 F U = true
  rg : ∀ i, i < n → 0 ≤ U.getD i 0 ∧ U.getD i 0 ≤ R.getD i 0
  yg : ∀ i, i < n → B.getD i 0 ≤ g → U.getD i 0 = V.getD i 0
  od : oldT B n < n ∧ U.getD (oldT B n) 0 ≤ W.getD (oldT B n) 0
theorem older {F R : List Int} {n : Nat} {z g z2 : Int} {rev : Bool} {q : Nat} (hn1 : 1 ≤ n) (hn8 : n ≤ 8) (hF : F.length = n) (hR : R.length = n) (hz : 0 ≤ z) (hf : ∀ i, i < n → 0 ≤ F.getD i 0 ∧ F.getD i 0 ≤ 29) (hr : ∀ i, i < n → 0 ≤ R.getD i 0 ∧ R.getD i 0 ≤ 30) (hq : q < n) :
    Older F R (ageT z rev n) (otherT R (ageT z rev n) g z2 n n) (F.set q (F.getD q 0 + 1)) (callsT F R (ageT z rev n) n) (callsT F (otherT R (ageT z rev n) g z2 n n) (ageT z rev n) n) (callsT (F.set q (F.getD q 0 + 1)) R (ageT z rev n) n) n g := by
  subst hF
  have ok := age_rights (rev := rev) (fl := F) (ri := R) hz hn1 hn8 hR (fun i hi => ⟨(hf i hi).1, by have := hf i hi; omega⟩) hr
  have hol : (otherT R (ageT z rev F.length) g z2 F.length F.length).length = F.length := otherT_len
  have ok2 := age_rights (rev := rev) (fl := F) (ri := otherT R (ageT z rev F.length) g z2 F.length F.length) hz hn1 hn8 hol (fun i hi => ⟨(hf i hi).1, by have := hf i hi; omega⟩) (fun i hi => by
    rw [otherT_get hi]
    have h1 := foldI_range (v := R.getD i 0 + z2) (n := 31) (by omega)
    have h2 := hr i hi
    split <;> omega)
  have hml : (F.set q (F.getD q 0 + 1)).length = F.length := List.length_set
  have hm : ∀ i, i < F.length → F.getD i 0 ≤ (F.set q (F.getD q 0 + 1)).getD i 0 ∧ (F.set q (F.getD q 0 + 1)).getD i 0 ≤ F.getD i 0 + 1 := fun i hi => by
    rw [set_getD hq]
    split
    · rename_i h; subst h; omega
    · omega
  have ok3 := age_rights (rev := rev) (fl := F.set q (F.getD q 0 + 1)) (ri := R) hz (by omega) (by omega) (by omega) (fun i hi => by have := hf i (by omega); have := hm i (by omega); omega) (fun i hi => hr i (by omega))
  rw [hml] at ok3
  have hA := rightsOk.rights ok
  have hB := rightsOk.rights ok2
  have hC := rightsOk.rights ok3
  have g1 := callsT_given hA (Nat.le_refl _)
  have g2 := callsT_given hB (Nat.le_refl _)
  have g3 := callsT_given hC (Nat.le_refl _)
  rw [hml] at g3
  obtain ⟨a, ha1, ha2⟩ := hA.ix (show 0 < F.length by omega)
  obtain ⟨_, h5, h6⟩ := has_spec (hA.hs 0 (by omega))
  have ho := oldT_spec (B := ageT z rev F.length) (i := F.length) (p := ix (ageT z rev F.length) 0) (by have := hA.la; omega) (by rw [h6]; rfl)
  have hod := calls_oldest hA hC hml.symm (fun i hi => (hm i hi).1) ho.1 ho.2
  rw [hml] at hod
  refine ⟨ok, ok2, ok3, g1.len, g2.len, by rw [← hml]; rw [hml]; exact g3.len.trans hml, g1.poss, fun i hi => calls_range hA hi, fun i hi hg => calls_younger hA hB (fun p hp hpg => ?_) hi hg, ho.1, hod⟩
  rw [otherT_get hp, if_neg (by omega)]
end Go.Proofs.Ytohfemfgnohhdaa
/- WaterOlder: the law returns true. No condition. -/
namespace Go.Vc
/-- What is left of a sequence behind its first k parts. -/
def sfx : Nat → Code → Code
  | 0, c => c
  | k + 1, .seq _ c => sfx k c
  | _ + 1, c => c
def bodyOf (f : Func) : Code := match f.body with
  | some c => c
  | none => .skip
end Go.Vc
namespace Go.Proofs.Ytohfemfgnohhdaa
open Go Go.Vc
set_option linter.unusedVariables false
set_option linter.unusedSimpArgs false

set_option maxHeartbeats 16000000 in
theorem older_c {F R B : List Int} {n : Nat} {z0 z1 z2 : Int} (hn1 : 1 ≤ n) (hn8 : n ≤ 8) (hFl : F.length = n) (hRl : R.length = n) (h00 : 0 ≤ z0) (h01 : z0 ≤ 255) (h10 : 0 ≤ z1) (h11 : z1 ≤ 255) (h20 : 0 ≤ z2) (h21 : z2 ≤ 255)
    (hFb : ∀ i, i < n → 0 ≤ F.getD i 0 ∧ F.getD i 0 ≤ 29) (hRb : ∀ i, i < n → 0 ≤ R.getD i 0 ∧ R.getD i 0 ≤ 30) (hB : B = ageT z0 (decide (128 ≤ z0)) n) :
    W Try.prog 247 (sfx 10 (bodyOf Try.f5)) ⟨[(5, .st false (.sadr (.agg [.lit (.int .u8 z0), .lit (.int .u8 z1), .lit (.int .u8 z2)]))), (6, .lit (.bool false)), (7, .lit (.int .i64 n)), (8, .st true (.arr (.int .i64) F)), (9, .st true (.arr (.int .i64) R)), (10, .st true (.arr (.int .i64) B)), (15, .st true (.arr (.int .i64) (callsT F R B n))), (17, .lit (.int .i64 (z1.tmod n))), (18, .lit (.int .i64 (oldT B n))), (19, .own 900019)], [(900019, .row 3 (.int .i64) true (otherT R B (z1.tmod n) z2 n n))]⟩ (bodyQ tys [.tmp 6] (.lit (.bool true)) []) := by
  -- func5 (by rfl)
  have hBl : B.length = n := by rw [hB]; exact ageT_len
  have hg0 : 0 ≤ z1.tmod n := Int.tmod_nonneg _ h10
  have hg1 : z1.tmod n < n := Int.tmod_lt_of_pos _ (by omega)
  have hq0 : 0 ≤ z2.tmod n := Int.tmod_nonneg _ h20
  have hq1 : z2.tmod n < n := Int.tmod_lt_of_pos _ (by omega)
  have hO := older (F := F) (R := R) (n := n) (z := z0) (g := z1.tmod n) (z2 := z2) (rev := decide (128 ≤ z0)) (q := (z2.tmod n).toNat) hn1 hn8 hFl hRl h00 hFb hRb (by omega)
  rw [← hB] at hO
  have hol : ∀ i, @List.length (Ty.int .i64).T (otherT R B (z1.tmod n) z2 n i) = n := fun i => otherT_len
  have hMl : @List.length (Ty.int .i64).T (F.set (z2.tmod n).toNat (F.getD (z2.tmod n).toNat 0 + 1)) = n := by rw [← hFl]; exact List.length_set
  have hqb := hFb (z2.tmod n).toNat (by omega)
  obtain ⟨U, hU⟩ : ∃ U, U = callsT F R B n := ⟨_, rfl⟩
  obtain ⟨V, hV⟩ : ∃ V, V = callsT F (otherT R B (z1.tmod n) z2 n n) B n := ⟨_, rfl⟩
  obtain ⟨Z, hZ⟩ : ∃ W, W = callsT (F.set (z2.tmod n).toNat (F.getD (z2.tmod n).toNat 0 + 1)) R B n := ⟨_, rfl⟩
  rw [← hU, ← hV, ← hZ] at hO
  have hlu' := hO.lu
  have hC1 := Calls_good hO.ok (by omega) (by omega) (by omega)
  rw [hFl, ← hU] at hC1
  have hC2 := Calls_good hO.ok2 (by omega) (by have := hol n; exact Nat.le_trans (Nat.le_of_eq this) (by omega)) (by omega)
  rw [hFl, ← hV] at hC2
  have hC3 := Calls_good hO.ok3 (Nat.le_trans (Nat.le_of_eq hMl) (by omega)) (by omega) (by omega)
  have hMl' : (F.set (z2.tmod n).toNat (F.getD (z2.tmod n).toNat 0 + 1)).length = n := hMl
  rw [hMl', ← hZ] at hC3
  have hlu : @List.length (Ty.int .i64).T U = n := hO.lu
  have hlv : @List.length (Ty.int .i64).T V = n := hO.lv
  have hlw : @List.length (Ty.int .i64).T Z = n := hO.lw
  have hP := possible_ref F U (hlu'.trans hFl.symm) (by rw [hlu']; omega) (fun i hi => by have := hFb i (by omega); omega) (fun i hi => (hO.rg i (hlu' ▸ hi)).1)
  rw [hO.ps] at hP
  obtain ⟨ho1, ho2⟩ := hO.od
  obtain ⟨o, ho⟩ : ∃ o, o = oldT B n := ⟨_, rfl⟩
  rw [← ho] at ho1 ho2
  rw [← hU, ← ho]
  have hlr := hol n
  show W Try.prog 247 (Code.seq _ _) _ _
  repeat' (first
 | refine W.seq ?_
 | refine W.block ?_
 | (refine W.region tys_ok [] ?_; conv => whnf)
 | (refine W.drawAll tys_ok [] mixed rfl ?_; conv => whnf)
 | (refine W.ret ?_; conv => whnf)
 | (refine W.skip ?_; conv => whnf)
 | (refine W.exit ?_; conv => whnf)
 | (refine call_at (al := false) (hC2) rfl rfl rfl rfl ?_; conv => whnf)

    | (refine W.cond rfl (fun hb => ?_) (fun hb => ?_) <;> (try simp only [Int.reduceToNat, List.getD_cons_zero, List.getD_cons_succ, minL, maxL, pickB, getD_int, getD_sl, getD_bool, len_int, len_sl, len_bool, decide_eq_true_eq, decide_eq_false_iff_not, Bool.and_eq_true, Bool.or_eq_true, Bool.and_eq_false_iff, Bool.or_eq_false_iff, Bool.not_eq_true', Bool.not_eq_false', Bool.true_eq_false, Bool.false_eq_true, Int.toNat_natCast, Int.ofNat_lt, Int.ofNat_le, not_true_eq_false, not_false_eq_true, or_false, false_or, and_true, true_and, or_true, true_or, and_false, false_and] at hb) <;> (try (first | (cases hb; done) | exact absurd hb (by decide) | (exfalso; omega))))
    | ((with_reducible refine And.intro ?_ ?_); (focus ((repeat' (first | (with_reducible rfl) | (with_reducible refine And.intro ?_ ?_) | omega | rfl | exact Or.inl rfl | exact Or.inr rfl | exact of_decide_eq_true rfl | exact Path.imp_of (of_decide_eq_true rfl) | (focus ((try simp only [Int.reduceToNat, List.getD_cons_zero, List.getD_cons_succ, minL, maxL, pickB, getD_int, getD_sl, getD_bool, len_int, len_sl, len_bool, decide_eq_true_eq, decide_eq_false_iff_not, Bool.and_eq_true, Bool.or_eq_true, Bool.and_eq_false_iff, Bool.or_eq_false_iff, Bool.not_eq_true', Bool.not_eq_false', Bool.true_eq_false, Bool.false_eq_true, Int.toNat_natCast, Int.ofNat_lt, Int.ofNat_le, not_true_eq_false, not_false_eq_true, or_false, false_or, and_true, true_and, or_true, true_or, and_false, false_and, InK, Path.imp, List.length_replicate, List.length_set, List.length_append, List.length_cons, List.length_nil] at *); omega)) | (refine app_le rfl ?_; omega))); done)); (conv => whnf))
    | ((with_reducible refine And.intro (Side.out ?_) ?_); rotate_left; (conv => whnf))
    | (refine retF1 ?_ <;> (conv => whnf) <;> repeat' (first
 | exact trivial
 | (with_reducible rfl)
 | ((with_reducible refine And.intro ?_ ?_) <;> conv => whnf)
 | omega
 | rfl
 | (refine congrArg (SV.arr _) ?_)
 | (refine congrArg (Value.int _) ?_)
 | (refine congrArg Value.bool ?_)))
 | (refine retF2 ?_ <;> (conv => whnf) <;> repeat' (first
 | exact trivial
 | (with_reducible rfl)
 | ((with_reducible refine And.intro ?_ ?_) <;> conv => whnf)
 | omega
 | rfl
 | (refine congrArg (SV.arr _) ?_)
 | (refine congrArg (Value.int _) ?_)
 | (refine congrArg Value.bool ?_)))); all_goals (try unfold Side)
  all_goals try (repeat' (first | (with_reducible rfl) | (with_reducible refine And.intro ?_ ?_) | omega | rfl | exact Or.inl rfl | exact Or.inr rfl | exact of_decide_eq_true rfl | exact Path.imp_of (of_decide_eq_true rfl) | (focus ((try simp only [Int.reduceToNat, List.getD_cons_zero, List.getD_cons_succ, minL, maxL, pickB, getD_int, getD_sl, getD_bool, len_int, len_sl, len_bool, decide_eq_true_eq, decide_eq_false_iff_not, Bool.and_eq_true, Bool.or_eq_true, Bool.and_eq_false_iff, Bool.or_eq_false_iff, Bool.not_eq_true', Bool.not_eq_false', Bool.true_eq_false, Bool.false_eq_true, Int.toNat_natCast, Int.ofNat_lt, Int.ofNat_le, not_true_eq_false, not_false_eq_true, or_false, false_or, and_true, true_and, or_true, true_or, and_false, false_and, InK, Path.imp, List.length_replicate, List.length_set, List.length_append, List.length_cons, List.length_nil] at *); omega)) | (refine app_le rfl ?_; omega)))
  refine W.loop (fun i : Nat => ⟨[(5, .st false (.sadr (.agg [.lit (.int .u8 z0), .lit (.int .u8 z1), .lit (.int .u8 z2)]))), (6, .lit (.bool false)), (7, .lit (.int .i64 n)), (8, .st true (.arr (.int .i64) F)), (9, .st true (.arr (.int .i64) R)), (10, .st true (.arr (.int .i64) B)), (15, .st true (.arr (.int .i64) U)), (17, .lit (.int .i64 (z1.tmod n))), (18, .lit (.int .i64 o)), (21, .st true (.arr (.int .i64) V)), (23, .lit (.int .i64 i))], []⟩)
    (fun i => i ≤ n) (fun i => n - i) 0 ?_ ?_
  · refine ⟨Nat.zero_le _, ?_⟩
    refine subF.ok ?_ <;> (conv => whnf) <;> repeat' (first
 | exact trivial
 | (with_reducible rfl)
 | ((with_reducible refine And.intro ?_ ?_) <;> conv => whnf)
 | omega
 | rfl
 | (refine congrArg (SV.arr _) ?_)
 | (refine congrArg (Value.int _) ?_)
 | (refine congrArg Value.bool ?_))
  · as_aux_lemma =>
    intro i hi
    by_cases hil : i < n
    · have hyg := hO.yg i hil
      repeat' (first
 | refine W.seq ?_
 | refine W.block ?_
 | (refine W.drawPh (id := 37) tys_ok [] mixed [0, 0, 3, 4, 0, 24, 32, 64, 64, 448, 576, 64, 64, 6208, 8256, 17472, 32832] [([0, 1, 2, 3, 4, 5, 6, 7, 8, 9, 10, 11, 12, 13, 14, 15, 16], 0, 131071)] (by decide +kernel) ?_; conv => whnf)
 | (refine W.region tys_ok [] ?_; conv => whnf)
 | (refine W.drawAll tys_ok [] mixed rfl ?_; conv => whnf)
 | (refine W.ret ?_; conv => whnf)
 | (refine W.skip ?_; conv => whnf)
 | (refine W.exit ?_; conv => whnf)

    | (refine Both.mk ?_ ?_ <;> (conv => whnf))
    | (refine subF.leaf ?_ <;> (conv => whnf) <;> repeat' (first
 | exact trivial
 | (with_reducible rfl)
 | ((with_reducible refine And.intro ?_ ?_) <;> conv => whnf)
 | omega
 | rfl
 | (refine congrArg (SV.arr _) ?_)
 | (refine congrArg (Value.int _) ?_)
 | (refine congrArg Value.bool ?_)))
 | (refine subF.side ?_ <;> (conv => whnf) <;> repeat' (first
 | exact trivial
 | (with_reducible rfl)
 | ((with_reducible refine And.intro ?_ ?_) <;> conv => whnf)
 | omega
 | rfl
 | (refine congrArg (SV.arr _) ?_)
 | (refine congrArg (Value.int _) ?_)
 | (refine congrArg Value.bool ?_)))
 | (refine W.cond rfl (fun hb => ?_) (fun hb => ?_) <;> (try simp only [Int.reduceToNat, List.getD_cons_zero, List.getD_cons_succ, minL, maxL, pickB, getD_int, getD_sl, getD_bool, len_int, len_sl, len_bool, decide_eq_true_eq, decide_eq_false_iff_not, Bool.and_eq_true, Bool.or_eq_true, Bool.and_eq_false_iff, Bool.or_eq_false_iff, Bool.not_eq_true', Bool.not_eq_false', Bool.true_eq_false, Bool.false_eq_true, Int.toNat_natCast, Int.ofNat_lt, Int.ofNat_le, not_true_eq_false, not_false_eq_true, or_false, false_or, and_true, true_and, or_true, true_or, and_false, false_and] at hb) <;> (try (first | (cases hb; done) | exact absurd hb (by decide) | (exfalso; omega))))
 | ((with_reducible refine And.intro ?_ ?_); (focus ((repeat' (first | (with_reducible rfl) | (with_reducible refine And.intro ?_ ?_) | omega | rfl | exact Or.inl rfl | exact Or.inr rfl | exact of_decide_eq_true rfl | exact Path.imp_of (of_decide_eq_true rfl) | (focus ((try simp only [Int.reduceToNat, List.getD_cons_zero, List.getD_cons_succ, minL, maxL, pickB, getD_int, getD_sl, getD_bool, len_int, len_sl, len_bool, decide_eq_true_eq, decide_eq_false_iff_not, Bool.and_eq_true, Bool.or_eq_true, Bool.and_eq_false_iff, Bool.or_eq_false_iff, Bool.not_eq_true', Bool.not_eq_false', Bool.true_eq_false, Bool.false_eq_true, Int.toNat_natCast, Int.ofNat_lt, Int.ofNat_le, not_true_eq_false, not_false_eq_true, or_false, false_or, and_true, true_and, or_true, true_or, and_false, false_and, InK, Path.imp, List.length_replicate, List.length_set, List.length_append, List.length_cons, List.length_nil] at *); omega)) | (refine app_le rfl ?_; omega))); done)); (conv => whnf))
 | ((with_reducible refine And.intro (Side.out ?_) ?_); rotate_left; (conv => whnf))
 | (refine retF1 ?_ <;> (conv => whnf) <;> repeat' (first
 | exact trivial
 | (with_reducible rfl)
 | ((with_reducible refine And.intro ?_ ?_) <;> conv => whnf)
 | omega
 | rfl
 | (refine congrArg (SV.arr _) ?_)
 | (refine congrArg (Value.int _) ?_)
 | (refine congrArg Value.bool ?_)))
 | (refine retF2 ?_ <;> (conv => whnf) <;> repeat' (first
 | exact trivial
 | (with_reducible rfl)
 | ((with_reducible refine And.intro ?_ ?_) <;> conv => whnf)
 | omega
 | rfl
 | (refine congrArg (SV.arr _) ?_)
 | (refine congrArg (Value.int _) ?_)
 | (refine congrArg Value.bool ?_)))); all_goals (try unfold Side)
      all_goals try (repeat' (first | (with_reducible rfl) | (with_reducible refine And.intro ?_ ?_) | omega | rfl | exact Or.inl rfl | exact Or.inr rfl | exact of_decide_eq_true rfl | exact Path.imp_of (of_decide_eq_true rfl) | (focus ((try simp only [Int.reduceToNat, List.getD_cons_zero, List.getD_cons_succ, minL, maxL, pickB, getD_int, getD_sl, getD_bool, len_int, len_sl, len_bool, decide_eq_true_eq, decide_eq_false_iff_not, Bool.and_eq_true, Bool.or_eq_true, Bool.and_eq_false_iff, Bool.or_eq_false_iff, Bool.not_eq_true', Bool.not_eq_false', Bool.true_eq_false, Bool.false_eq_true, Int.toNat_natCast, Int.ofNat_lt, Int.ofNat_le, not_true_eq_false, not_false_eq_true, or_false, false_or, and_true, true_and, or_true, true_or, and_false, false_and, InK, Path.imp, List.length_replicate, List.length_set, List.length_append, List.length_cons, List.length_nil] at *); omega)) | (refine app_le rfl ?_; omega)))
      refine ⟨i + 1, ⟨by omega, by omega⟩, ?_⟩
      refine subF.ok ?_ <;> (conv => whnf) <;> repeat' (first
 | exact trivial
 | (with_reducible rfl)
 | ((with_reducible refine And.intro ?_ ?_) <;> conv => whnf)
 | omega
 | rfl
 | (refine congrArg (SV.arr _) ?_)
 | (refine congrArg (Value.int _) ?_)
 | (refine congrArg Value.bool ?_))
    · have hie : n = i := by omega
      subst hie
      repeat' (first
 | refine W.seq ?_
 | refine W.block ?_
 | (refine W.resub (x := Code.region 40 _ _) (Γ' := ⟨[(5, .st false (.sadr (.agg [.lit (.int .u8 z0), .lit (.int .u8 z1), .lit (.int .u8 z2)]))), (6, .lit (.bool false)), (7, .lit (.int .i64 n)), (8, .st true (.arr (.int .i64) F)), (9, .st true (.arr (.int .i64) R)), (10, .st true (.arr (.int .i64) B)), (15, .st true (.arr (.int .i64) U)), (18, .lit (.int .i64 o)), (24, .own 900024)], [(900024, .row 3 (.int .i64) true F)]⟩) ?_ (W.region tys_ok [] ?_); rotate_left; (conv => whnf))
 | (refine W.region tys_ok [] ?_; conv => whnf)
 | (refine W.drawAll tys_ok [] mixed rfl ?_; conv => whnf)
 | (refine W.ret ?_; conv => whnf)
 | (refine W.skip ?_; conv => whnf)
 | (refine W.exit ?_; conv => whnf)
 | (refine call_at (al := false) (hC3) rfl rfl rfl rfl ?_; conv => whnf)

    | (refine W.cond rfl (fun hb => ?_) (fun hb => ?_) <;> (try simp only [Int.reduceToNat, List.getD_cons_zero, List.getD_cons_succ, minL, maxL, pickB, getD_int, getD_sl, getD_bool, len_int, len_sl, len_bool, decide_eq_true_eq, decide_eq_false_iff_not, Bool.and_eq_true, Bool.or_eq_true, Bool.and_eq_false_iff, Bool.or_eq_false_iff, Bool.not_eq_true', Bool.not_eq_false', Bool.true_eq_false, Bool.false_eq_true, Int.toNat_natCast, Int.ofNat_lt, Int.ofNat_le, not_true_eq_false, not_false_eq_true, or_false, false_or, and_true, true_and, or_true, true_or, and_false, false_and] at hb) <;> (try (first | (cases hb; done) | exact absurd hb (by decide) | (exfalso; omega))))
    | ((with_reducible refine And.intro ?_ ?_); (focus ((repeat' (first | (with_reducible rfl) | (with_reducible refine And.intro ?_ ?_) | omega | rfl | exact Or.inl rfl | exact Or.inr rfl | exact of_decide_eq_true rfl | exact Path.imp_of (of_decide_eq_true rfl) | (focus ((try simp only [Int.reduceToNat, List.getD_cons_zero, List.getD_cons_succ, minL, maxL, pickB, getD_int, getD_sl, getD_bool, len_int, len_sl, len_bool, decide_eq_true_eq, decide_eq_false_iff_not, Bool.and_eq_true, Bool.or_eq_true, Bool.and_eq_false_iff, Bool.or_eq_false_iff, Bool.not_eq_true', Bool.not_eq_false', Bool.true_eq_false, Bool.false_eq_true, Int.toNat_natCast, Int.ofNat_lt, Int.ofNat_le, not_true_eq_false, not_false_eq_true, or_false, false_or, and_true, true_and, or_true, true_or, and_false, false_and, InK, Path.imp, List.length_replicate, List.length_set, List.length_append, List.length_cons, List.length_nil] at *); omega)) | (refine app_le rfl ?_; omega))); done)); (conv => whnf))
    | ((with_reducible refine And.intro (Side.out ?_) ?_); rotate_left; (conv => whnf))
    | (refine retF1 ?_ <;> (conv => whnf) <;> repeat' (first
 | exact trivial
 | (with_reducible rfl)
 | ((with_reducible refine And.intro ?_ ?_) <;> conv => whnf)
 | omega
 | rfl
 | (refine congrArg (SV.arr _) ?_)
 | (refine congrArg (Value.int _) ?_)
 | (refine congrArg Value.bool ?_)))
 | (refine retF2 ?_ <;> (conv => whnf) <;> repeat' (first
 | exact trivial
 | (with_reducible rfl)
 | ((with_reducible refine And.intro ?_ ?_) <;> conv => whnf)
 | omega
 | rfl
 | (refine congrArg (SV.arr _) ?_)
 | (refine congrArg (Value.int _) ?_)
 | (refine congrArg Value.bool ?_)))); all_goals (try unfold Side)
      all_goals try (repeat' (first | (with_reducible rfl) | (with_reducible refine And.intro ?_ ?_) | omega | rfl | exact Or.inl rfl | exact Or.inr rfl | exact of_decide_eq_true rfl | exact Path.imp_of (of_decide_eq_true rfl) | (focus ((try simp only [Int.reduceToNat, List.getD_cons_zero, List.getD_cons_succ, minL, maxL, pickB, getD_int, getD_sl, getD_bool, len_int, len_sl, len_bool, decide_eq_true_eq, decide_eq_false_iff_not, Bool.and_eq_true, Bool.or_eq_true, Bool.and_eq_false_iff, Bool.or_eq_false_iff, Bool.not_eq_true', Bool.not_eq_false', Bool.true_eq_false, Bool.false_eq_true, Int.toNat_natCast, Int.ofNat_lt, Int.ofNat_le, not_true_eq_false, not_false_eq_true, or_false, false_or, and_true, true_and, or_true, true_or, and_false, false_and, InK, Path.imp, List.length_replicate, List.length_set, List.length_append, List.length_cons, List.length_nil] at *); omega)) | (refine app_le rfl ?_; omega)))
      all_goals first | ((refine subF.ok ?_ <;> (conv => whnf) <;> repeat' (first
 | exact trivial
 | (with_reducible rfl)
 | ((with_reducible refine And.intro ?_ ?_) <;> conv => whnf)
 | omega
 | rfl
 | (refine congrArg (SV.arr _) ?_)
 | (refine congrArg (Value.int _) ?_)
 | (refine congrArg Value.bool ?_))); done) | skip

set_option maxHeartbeats 16000000 in
theorem older_b {x y A : List Int} {F R B : List Int} {n : Nat} {z0 z1 z2 : Int} (hn1 : 1 ≤ n) (hn8 : n ≤ 8) (hFl : F.length = n) (hRl : R.length = n) (h00 : 0 ≤ z0) (h01 : z0 ≤ 255) (h10 : 0 ≤ z1) (h11 : z1 ≤ 255) (h20 : 0 ≤ z2) (h21 : z2 ≤ 255)
    (hFb : ∀ i, i < n → 0 ≤ F.getD i 0 ∧ F.getD i 0 ≤ 29) (hRb : ∀ i, i < n → 0 ≤ R.getD i 0 ∧ R.getD i 0 ≤ 30) (hB : B = ageT z0 (decide (128 ≤ z0)) n) (hA : A = ageT z0 false n) :
    W Try.prog 247 (sfx 4 (bodyOf Try.f5)) ⟨[(0, .st false (.arr (.int .i64) x)), (1, .st false (.arr (.int .i64) y)), (5, .st false (.sadr (.agg [.lit (.int .u8 z0), .lit (.int .u8 z1), .lit (.int .u8 z2)]))), (6, .lit (.bool false)), (7, .lit (.int .i64 n)), (8, .own 900008), (9, .own 900009), (10, .own 900010)], [(900008, .row 3 (.int .i64) true F), (900009, .row 3 (.int .i64) true R), (900010, .row 3 (.int .i64) true A)]⟩ (bodyQ tys [.tmp 6] (.lit (.bool true)) []) := by
  -- func5 (by rfl)
  have hBl : B.length = n := by rw [hB]; exact ageT_len
  have hAl : A.length = n := by rw [hA]; exact ageT_len
  have hg0 : 0 ≤ z1.tmod n := Int.tmod_nonneg _ h10
  have hg1 : z1.tmod n < n := Int.tmod_lt_of_pos _ (by omega)
  have hq0 : 0 ≤ z2.tmod n := Int.tmod_nonneg _ h20
  have hq1 : z2.tmod n < n := Int.tmod_lt_of_pos _ (by omega)
  have hO := older (F := F) (R := R) (n := n) (z := z0) (g := z1.tmod n) (z2 := z2) (rev := decide (128 ≤ z0)) (q := (z2.tmod n).toNat) hn1 hn8 hFl hRl h00 hFb hRb (by omega)
  rw [← hB] at hO
  have hol : ∀ i, @List.length (Ty.int .i64).T (otherT R B (z1.tmod n) z2 n i) = n := fun i => otherT_len
  have hMl : @List.length (Ty.int .i64).T (F.set (z2.tmod n).toNat (F.getD (z2.tmod n).toNat 0 + 1)) = n := by rw [← hFl]; exact List.length_set
  have hqb := hFb (z2.tmod n).toNat (by omega)
  obtain ⟨U, hU⟩ : ∃ U, U = callsT F R B n := ⟨_, rfl⟩
  obtain ⟨V, hV⟩ : ∃ V, V = callsT F (otherT R B (z1.tmod n) z2 n n) B n := ⟨_, rfl⟩
  obtain ⟨Z, hZ⟩ : ∃ W, W = callsT (F.set (z2.tmod n).toNat (F.getD (z2.tmod n).toNat 0 + 1)) R B n := ⟨_, rfl⟩
  rw [← hU, ← hV, ← hZ] at hO
  have hlu' := hO.lu
  have hC1 := Calls_good hO.ok (by omega) (by omega) (by omega)
  rw [hFl, ← hU] at hC1
  have hC2 := Calls_good hO.ok2 (by omega) (by have := hol n; exact Nat.le_trans (Nat.le_of_eq this) (by omega)) (by omega)
  rw [hFl, ← hV] at hC2
  have hC3 := Calls_good hO.ok3 (Nat.le_trans (Nat.le_of_eq hMl) (by omega)) (by omega) (by omega)
  have hMl' : (F.set (z2.tmod n).toNat (F.getD (z2.tmod n).toNat 0 + 1)).length = n := hMl
  rw [hMl', ← hZ] at hC3
  have hlu : @List.length (Ty.int .i64).T U = n := hO.lu
  have hlv : @List.length (Ty.int .i64).T V = n := hO.lv
  have hlw : @List.length (Ty.int .i64).T Z = n := hO.lw
  have hP := possible_ref F U (hlu'.trans hFl.symm) (by rw [hlu']; omega) (fun i hi => by have := hFb i (by omega); omega) (fun i hi => (hO.rg i (hlu' ▸ hi)).1)
  rw [hO.ps] at hP
  show W Try.prog 247 (Code.seq _ _) _ _
  repeat' (first
 | refine W.joinTo (t := 77) ⟨[(5, .st false (.sadr (.agg [.lit (.int .u8 z0), .lit (.int .u8 z1), .lit (.int .u8 z2)]))), (6, .lit (.bool false)), (7, .lit (.int .i64 n)), (8, .st true (.arr (.int .i64) F)), (9, .st true (.arr (.int .i64) R)), (10, .st true (.arr (.int .i64) B))], []⟩ ?_ ?_
 | refine W.seq ?_
 | refine W.block ?_
 | (refine W.region tys_ok [] ?_; conv => whnf)
 | (refine W.drawAll tys_ok [] mixed rfl ?_; conv => whnf)
 | (refine W.ret ?_; conv => whnf)
 | (refine W.skip ?_; conv => whnf)
 | (refine W.exit ?_; conv => whnf)
 | (refine call_at (al := false) (hC1) rfl rfl rfl rfl ?_; conv => whnf)
 | (refine call_at (al := false) (hP) rfl rfl rfl rfl ?_; conv => whnf)
 | (refine call_at (al := false) (lives_at) rfl rfl rfl rfl ?_; conv => whnf)

    | (refine Both.mk ?_ ?_ <;> (conv => whnf))
    | (refine subF.leaf ?_ <;> (conv => whnf) <;> repeat' (first
 | exact trivial
 | (with_reducible rfl)
 | ((with_reducible refine And.intro ?_ ?_) <;> conv => whnf)
 | omega
 | rfl
 | (refine congrArg (SV.arr _) ?_)
 | (refine congrArg (Value.int _) ?_)
 | (refine congrArg Value.bool ?_)))
 | (refine subF.side ?_ <;> (conv => whnf) <;> repeat' (first
 | exact trivial
 | (with_reducible rfl)
 | ((with_reducible refine And.intro ?_ ?_) <;> conv => whnf)
 | omega
 | rfl
 | (refine congrArg (SV.arr _) ?_)
 | (refine congrArg (Value.int _) ?_)
 | (refine congrArg Value.bool ?_)))
 | (refine W.cond rfl (fun hb => ?_) (fun hb => ?_) <;> (try simp only [Int.reduceToNat, List.getD_cons_zero, List.getD_cons_succ, minL, maxL, pickB, getD_int, getD_sl, getD_bool, len_int, len_sl, len_bool, decide_eq_true_eq, decide_eq_false_iff_not, Bool.and_eq_true, Bool.or_eq_true, Bool.and_eq_false_iff, Bool.or_eq_false_iff, Bool.not_eq_true', Bool.not_eq_false', Bool.true_eq_false, Bool.false_eq_true, Int.toNat_natCast, Int.ofNat_lt, Int.ofNat_le, not_true_eq_false, not_false_eq_true, or_false, false_or, and_true, true_and, or_true, true_or, and_false, false_and] at hb) <;> (try (first | (cases hb; done) | exact absurd hb (by decide) | (exfalso; omega))))
 | ((with_reducible refine And.intro ?_ ?_); (focus ((repeat' (first | (with_reducible rfl) | (with_reducible refine And.intro ?_ ?_) | omega | rfl | exact Or.inl rfl | exact Or.inr rfl | exact of_decide_eq_true rfl | exact Path.imp_of (of_decide_eq_true rfl) | (focus ((try simp only [Int.reduceToNat, List.getD_cons_zero, List.getD_cons_succ, minL, maxL, pickB, getD_int, getD_sl, getD_bool, len_int, len_sl, len_bool, decide_eq_true_eq, decide_eq_false_iff_not, Bool.and_eq_true, Bool.or_eq_true, Bool.and_eq_false_iff, Bool.or_eq_false_iff, Bool.not_eq_true', Bool.not_eq_false', Bool.true_eq_false, Bool.false_eq_true, Int.toNat_natCast, Int.ofNat_lt, Int.ofNat_le, not_true_eq_false, not_false_eq_true, or_false, false_or, and_true, true_and, or_true, true_or, and_false, false_and, InK, Path.imp, List.length_replicate, List.length_set, List.length_append, List.length_cons, List.length_nil] at *); omega)) | (refine app_le rfl ?_; omega))); done)); (conv => whnf))
 | ((with_reducible refine And.intro (Side.out ?_) ?_); rotate_left; (conv => whnf))
 | (refine retF1 ?_ <;> (conv => whnf) <;> repeat' (first
 | exact trivial
 | (with_reducible rfl)
 | ((with_reducible refine And.intro ?_ ?_) <;> conv => whnf)
 | omega
 | rfl
 | (refine congrArg (SV.arr _) ?_)
 | (refine congrArg (Value.int _) ?_)
 | (refine congrArg Value.bool ?_)))
 | (refine retF2 ?_ <;> (conv => whnf) <;> repeat' (first
 | exact trivial
 | (with_reducible rfl)
 | ((with_reducible refine And.intro ?_ ?_) <;> conv => whnf)
 | omega
 | rfl
 | (refine congrArg (SV.arr _) ?_)
 | (refine congrArg (Value.int _) ?_)
 | (refine congrArg Value.bool ?_)))); all_goals (try unfold Side)
  all_goals try (repeat' (first | (with_reducible rfl) | (with_reducible refine And.intro ?_ ?_) | omega | rfl | exact Or.inl rfl | exact Or.inr rfl | exact of_decide_eq_true rfl | exact Path.imp_of (of_decide_eq_true rfl) | (focus ((try simp only [Int.reduceToNat, List.getD_cons_zero, List.getD_cons_succ, minL, maxL, pickB, getD_int, getD_sl, getD_bool, len_int, len_sl, len_bool, decide_eq_true_eq, decide_eq_false_iff_not, Bool.and_eq_true, Bool.or_eq_true, Bool.and_eq_false_iff, Bool.or_eq_false_iff, Bool.not_eq_true', Bool.not_eq_false', Bool.true_eq_false, Bool.false_eq_true, Int.toNat_natCast, Int.ofNat_lt, Int.ofNat_le, not_true_eq_false, not_false_eq_true, or_false, false_or, and_true, true_and, or_true, true_or, and_false, false_and, InK, Path.imp, List.length_replicate, List.length_set, List.length_append, List.length_cons, List.length_nil] at *); omega)) | (refine app_le rfl ?_; omega)))
  · refine W.loop (fun j : Nat => ⟨[(5, .st false (.sadr (.agg [.lit (.int .u8 z0), .lit (.int .u8 z1), .lit (.int .u8 z2)]))), (6, .lit (.bool false)), (7, .lit (.int .i64 n)), (8, .own 900008), (9, .own 900009), (10, .own 900010), (14, .lit (.int .i64 j))],
        [(900008, .row 3 (.int .i64) true F), (900009, .row 3 (.int .i64) true R), (900010, .row 3 (.int .i64) true (revT z0 n j))]⟩)
      (fun j => j ≤ n) (fun j => n - j) 0 ?_ ?_
    · refine ⟨Nat.zero_le _, ?_⟩
      refine subF.ok ?_ <;> (conv => whnf) <;> repeat' (first
 | exact trivial
 | (with_reducible rfl)
 | ((with_reducible refine And.intro ?_ ?_) <;> conv => whnf)
 | omega
 | rfl
 | (refine congrArg (SV.arr _) ?_)
 | (refine congrArg (Value.int _) ?_)
 | (refine congrArg Value.bool ?_))
      · exact hA.trans revT_zero.symm
    · as_aux_lemma =>
      intro j hj
      have hlr : @List.length (Ty.int .i64).T (revT z0 n j) = n := revT_len
      by_cases hjl : j < n
      · have hst := revT_step (z := z0) hjl
        have hat := revT_at (z := z0) hjl
        have hb0 := Int.tmod_nonneg (n : Int) (show 0 ≤ (j : Int) + z0 by omega)
        have hb1 := Int.tmod_lt_of_pos ((j : Int) + z0) (show (0 : Int) < n by omega)
        repeat' (first
 | refine W.seq ?_
 | refine W.block ?_
 | (refine W.region tys_ok [] ?_; conv => whnf)
 | (refine W.drawAll tys_ok [] mixed rfl ?_; conv => whnf)
 | (refine W.ret ?_; conv => whnf)
 | (refine W.skip ?_; conv => whnf)
 | (refine W.exit ?_; conv => whnf)

    | (refine W.cond rfl (fun hb => ?_) (fun hb => ?_) <;> (try simp only [Int.reduceToNat, List.getD_cons_zero, List.getD_cons_succ, minL, maxL, pickB, getD_int, getD_sl, getD_bool, len_int, len_sl, len_bool, decide_eq_true_eq, decide_eq_false_iff_not, Bool.and_eq_true, Bool.or_eq_true, Bool.and_eq_false_iff, Bool.or_eq_false_iff, Bool.not_eq_true', Bool.not_eq_false', Bool.true_eq_false, Bool.false_eq_true, Int.toNat_natCast, Int.ofNat_lt, Int.ofNat_le, not_true_eq_false, not_false_eq_true, or_false, false_or, and_true, true_and, or_true, true_or, and_false, false_and] at hb) <;> (try (first | (cases hb; done) | exact absurd hb (by decide) | (exfalso; omega))))
    | ((with_reducible refine And.intro ?_ ?_); (focus ((repeat' (first | (with_reducible rfl) | (with_reducible refine And.intro ?_ ?_) | omega | rfl | exact Or.inl rfl | exact Or.inr rfl | exact of_decide_eq_true rfl | exact Path.imp_of (of_decide_eq_true rfl) | (focus ((try simp only [Int.reduceToNat, List.getD_cons_zero, List.getD_cons_succ, minL, maxL, pickB, getD_int, getD_sl, getD_bool, len_int, len_sl, len_bool, decide_eq_true_eq, decide_eq_false_iff_not, Bool.and_eq_true, Bool.or_eq_true, Bool.and_eq_false_iff, Bool.or_eq_false_iff, Bool.not_eq_true', Bool.not_eq_false', Bool.true_eq_false, Bool.false_eq_true, Int.toNat_natCast, Int.ofNat_lt, Int.ofNat_le, not_true_eq_false, not_false_eq_true, or_false, false_or, and_true, true_and, or_true, true_or, and_false, false_and, InK, Path.imp, List.length_replicate, List.length_set, List.length_append, List.length_cons, List.length_nil] at *); omega)) | (refine app_le rfl ?_; omega))); done)); (conv => whnf))
    | ((with_reducible refine And.intro (Side.out ?_) ?_); rotate_left; (conv => whnf))
    | (refine retF1 ?_ <;> (conv => whnf) <;> repeat' (first
 | exact trivial
 | (with_reducible rfl)
 | ((with_reducible refine And.intro ?_ ?_) <;> conv => whnf)
 | omega
 | rfl
 | (refine congrArg (SV.arr _) ?_)
 | (refine congrArg (Value.int _) ?_)
 | (refine congrArg Value.bool ?_)))
 | (refine retF2 ?_ <;> (conv => whnf) <;> repeat' (first
 | exact trivial
 | (with_reducible rfl)
 | ((with_reducible refine And.intro ?_ ?_) <;> conv => whnf)
 | omega
 | rfl
 | (refine congrArg (SV.arr _) ?_)
 | (refine congrArg (Value.int _) ?_)
 | (refine congrArg Value.bool ?_)))); all_goals (try unfold Side)
        all_goals try (repeat' (first | (with_reducible rfl) | (with_reducible refine And.intro ?_ ?_) | omega | rfl | exact Or.inl rfl | exact Or.inr rfl | exact of_decide_eq_true rfl | exact Path.imp_of (of_decide_eq_true rfl) | (focus ((try simp only [Int.reduceToNat, List.getD_cons_zero, List.getD_cons_succ, minL, maxL, pickB, getD_int, getD_sl, getD_bool, len_int, len_sl, len_bool, decide_eq_true_eq, decide_eq_false_iff_not, Bool.and_eq_true, Bool.or_eq_true, Bool.and_eq_false_iff, Bool.or_eq_false_iff, Bool.not_eq_true', Bool.not_eq_false', Bool.true_eq_false, Bool.false_eq_true, Int.toNat_natCast, Int.ofNat_lt, Int.ofNat_le, not_true_eq_false, not_false_eq_true, or_false, false_or, and_true, true_and, or_true, true_or, and_false, false_and, InK, Path.imp, List.length_replicate, List.length_set, List.length_append, List.length_cons, List.length_nil] at *); omega)) | (refine app_le rfl ?_; omega)))
        refine ⟨j + 1, ⟨by omega, by omega⟩, ?_⟩
        refine subF.ok ?_ <;> (conv => whnf) <;> repeat' (first
 | exact trivial
 | (with_reducible rfl)
 | ((with_reducible refine And.intro ?_ ?_) <;> conv => whnf)
 | omega
 | rfl
 | (refine congrArg (SV.arr _) ?_)
 | (refine congrArg (Value.int _) ?_)
 | (refine congrArg Value.bool ?_))
        · exact hst
      · have hje : n = j := by omega
        subst hje
        have hz8 : decide (128 ≤ z0) = true := decide_eq_true (by omega)
        have hBr : revT z0 n n = B := by rw [hB, hz8]; exact revT_all
        repeat' (first
 | refine W.seq ?_
 | refine W.block ?_
 | (refine W.region tys_ok [] ?_; conv => whnf)
 | (refine W.drawAll tys_ok [] mixed rfl ?_; conv => whnf)
 | (refine W.ret ?_; conv => whnf)
 | (refine W.skip ?_; conv => whnf)
 | (refine W.exit ?_; conv => whnf)

    | (refine W.cond rfl (fun hb => ?_) (fun hb => ?_) <;> (try simp only [Int.reduceToNat, List.getD_cons_zero, List.getD_cons_succ, minL, maxL, pickB, getD_int, getD_sl, getD_bool, len_int, len_sl, len_bool, decide_eq_true_eq, decide_eq_false_iff_not, Bool.and_eq_true, Bool.or_eq_true, Bool.and_eq_false_iff, Bool.or_eq_false_iff, Bool.not_eq_true', Bool.not_eq_false', Bool.true_eq_false, Bool.false_eq_true, Int.toNat_natCast, Int.ofNat_lt, Int.ofNat_le, not_true_eq_false, not_false_eq_true, or_false, false_or, and_true, true_and, or_true, true_or, and_false, false_and] at hb) <;> (try (first | (cases hb; done) | exact absurd hb (by decide) | (exfalso; omega))))
    | ((with_reducible refine And.intro ?_ ?_); (focus ((repeat' (first | (with_reducible rfl) | (with_reducible refine And.intro ?_ ?_) | omega | rfl | exact Or.inl rfl | exact Or.inr rfl | exact of_decide_eq_true rfl | exact Path.imp_of (of_decide_eq_true rfl) | (focus ((try simp only [Int.reduceToNat, List.getD_cons_zero, List.getD_cons_succ, minL, maxL, pickB, getD_int, getD_sl, getD_bool, len_int, len_sl, len_bool, decide_eq_true_eq, decide_eq_false_iff_not, Bool.and_eq_true, Bool.or_eq_true, Bool.and_eq_false_iff, Bool.or_eq_false_iff, Bool.not_eq_true', Bool.not_eq_false', Bool.true_eq_false, Bool.false_eq_true, Int.toNat_natCast, Int.ofNat_lt, Int.ofNat_le, not_true_eq_false, not_false_eq_true, or_false, false_or, and_true, true_and, or_true, true_or, and_false, false_and, InK, Path.imp, List.length_replicate, List.length_set, List.length_append, List.length_cons, List.length_nil] at *); omega)) | (refine app_le rfl ?_; omega))); done)); (conv => whnf))
    | ((with_reducible refine And.intro (Side.out ?_) ?_); rotate_left; (conv => whnf))
    | (refine retF1 ?_ <;> (conv => whnf) <;> repeat' (first
 | exact trivial
 | (with_reducible rfl)
 | ((with_reducible refine And.intro ?_ ?_) <;> conv => whnf)
 | omega
 | rfl
 | (refine congrArg (SV.arr _) ?_)
 | (refine congrArg (Value.int _) ?_)
 | (refine congrArg Value.bool ?_)))
 | (refine retF2 ?_ <;> (conv => whnf) <;> repeat' (first
 | exact trivial
 | (with_reducible rfl)
 | ((with_reducible refine And.intro ?_ ?_) <;> conv => whnf)
 | omega
 | rfl
 | (refine congrArg (SV.arr _) ?_)
 | (refine congrArg (Value.int _) ?_)
 | (refine congrArg Value.bool ?_)))); all_goals (try unfold Side)
        all_goals first | trivial | (refine (fT_ok (K := True) ?_).1 <;> (conv => whnf) <;> repeat' (first
 | exact trivial
 | (with_reducible rfl)
 | ((with_reducible refine And.intro ?_ ?_) <;> conv => whnf)
 | omega
 | rfl
 | (refine congrArg (SV.arr _) ?_)
 | (refine congrArg (Value.int _) ?_)
 | (refine congrArg Value.bool ?_)))
        all_goals exact hBr
  · have hz8 : decide (128 ≤ z0) = false := decide_eq_false (by omega)
    rw [hB, hz8]
    exact hA
  refine W.loop (fun i : Nat => ⟨[(5, .st false (.sadr (.agg [.lit (.int .u8 z0), .lit (.int .u8 z1), .lit (.int .u8 z2)]))), (6, .lit (.bool false)), (7, .lit (.int .i64 n)), (8, .st true (.arr (.int .i64) F)), (9, .st true (.arr (.int .i64) R)), (10, .st true (.arr (.int .i64) B)), (15, .st true (.arr (.int .i64) U)), (17, .lit (.int .i64 (z1.tmod n))), (18, .lit (.int .i64 (oldT B i))), (19, .own 900019), (20, .lit (.int .i64 i))],
      [(900019, .row 3 (.int .i64) true (otherT R B (z1.tmod n) z2 n i))]⟩)
    (fun i => i ≤ n) (fun i => n - i) 0 ?_ ?_
  · refine ⟨Nat.zero_le _, ?_⟩
    refine subF.ok ?_ <;> (conv => whnf) <;> repeat' (first
 | exact trivial
 | (with_reducible rfl)
 | ((with_reducible refine And.intro ?_ ?_) <;> conv => whnf)
 | omega
 | rfl
 | (refine congrArg (SV.arr _) ?_)
 | (refine congrArg (Value.int _) ?_)
 | (refine congrArg Value.bool ?_))
    · exact (otherT_zero hRl).symm
  · as_aux_lemma =>
    intro i hi
    have hli := hol i
    have hle := oldT_le (B := B) (i := i)
    by_cases hil : i < n
    · have hrg := hO.rg i hil
      have hrb := hRb i hil
      have o1 : B.getD i 0 = 0 → oldT B (i + 1) = i := fun h => by simp only [oldT, if_pos h]
      have o2 : ¬ B.getD i 0 = 0 → oldT B (i + 1) = oldT B i := fun h => by simp only [oldT, if_neg h]
      have hfo := fold_at (R.getD i 0 + z2) 31 (by omega) (by omega)
      repeat' (first
 | refine W.joinTo (t := 152) ⟨[(5, .st false (.sadr (.agg [.lit (.int .u8 z0), .lit (.int .u8 z1), .lit (.int .u8 z2)]))), (6, .lit (.bool false)), (7, .lit (.int .i64 n)), (8, .st true (.arr (.int .i64) F)), (9, .st true (.arr (.int .i64) R)), (10, .st true (.arr (.int .i64) B)), (15, .st true (.arr (.int .i64) U)), (17, .lit (.int .i64 (z1.tmod n))), (18, .lit (.int .i64 (oldT B i))), (19, .own 900019), (20, .lit (.int .i64 i))],
      [(900019, .row 3 (.int .i64) true (otherT R B (z1.tmod n) z2 n (i + 1)))]⟩ ?_ ?_
    | refine W.seq ?_
    | refine W.block ?_
    | (refine W.drawPh (id := 25) tys_ok [] mixed [0, 0, 3, 4, 8, 16, 32, 32, 224, 288, 32, 32, 3104, 4128, 8736, 16416] [([0, 1, 2, 3, 4, 5, 6, 7, 8, 9, 10, 11, 12, 13, 14, 15], 0, 65535)] (by decide +kernel) ?_; conv => whnf)
    | (refine W.drawPh (id := 28) tys_ok [] mixed [0, 0, 0, 0, 12, 16, 0, 64, 128, 288, 512, 2047, 4095] [([0, 1, 2, 3, 4, 5, 6, 7, 8, 9], 1, 2047), ([11], 1, 8191)] (by decide +kernel) ?_; conv => whnf)
    | (refine W.region tys_ok [] ?_; conv => whnf)
    | (refine W.drawAll tys_ok [] mixed rfl ?_; conv => whnf)
    | (refine W.ret ?_; conv => whnf)
    | (refine W.skip ?_; conv => whnf)
    | (refine W.exit ?_; conv => whnf)
    | (refine call_at (al := false) (hfo) rfl rfl rfl rfl ?_; conv => whnf)

    | (refine Both.mk ?_ ?_ <;> (conv => whnf))
    | (refine subF.leaf ?_ <;> (conv => whnf) <;> repeat' (first
 | exact trivial
 | (with_reducible rfl)
 | ((with_reducible refine And.intro ?_ ?_) <;> conv => whnf)
 | omega
 | rfl
 | (refine congrArg (SV.arr _) ?_)
 | (refine congrArg (Value.int _) ?_)
 | (refine congrArg Value.bool ?_)))
 | (refine subF.side ?_ <;> (conv => whnf) <;> repeat' (first
 | exact trivial
 | (with_reducible rfl)
 | ((with_reducible refine And.intro ?_ ?_) <;> conv => whnf)
 | omega
 | rfl
 | (refine congrArg (SV.arr _) ?_)
 | (refine congrArg (Value.int _) ?_)
 | (refine congrArg Value.bool ?_)))
 | (refine W.cond rfl (fun hb => ?_) (fun hb => ?_) <;> (try simp only [Int.reduceToNat, List.getD_cons_zero, List.getD_cons_succ, minL, maxL, pickB, getD_int, getD_sl, getD_bool, len_int, len_sl, len_bool, decide_eq_true_eq, decide_eq_false_iff_not, Bool.and_eq_true, Bool.or_eq_true, Bool.and_eq_false_iff, Bool.or_eq_false_iff, Bool.not_eq_true', Bool.not_eq_false', Bool.true_eq_false, Bool.false_eq_true, Int.toNat_natCast, Int.ofNat_lt, Int.ofNat_le, not_true_eq_false, not_false_eq_true, or_false, false_or, and_true, true_and, or_true, true_or, and_false, false_and] at hb) <;> (try (first | (cases hb; done) | exact absurd hb (by decide) | (exfalso; omega))))
 | ((with_reducible refine And.intro ?_ ?_); (focus ((repeat' (first | (with_reducible rfl) | (with_reducible refine And.intro ?_ ?_) | omega | rfl | exact Or.inl rfl | exact Or.inr rfl | exact of_decide_eq_true rfl | exact Path.imp_of (of_decide_eq_true rfl) | (focus ((try simp only [Int.reduceToNat, List.getD_cons_zero, List.getD_cons_succ, minL, maxL, pickB, getD_int, getD_sl, getD_bool, len_int, len_sl, len_bool, decide_eq_true_eq, decide_eq_false_iff_not, Bool.and_eq_true, Bool.or_eq_true, Bool.and_eq_false_iff, Bool.or_eq_false_iff, Bool.not_eq_true', Bool.not_eq_false', Bool.true_eq_false, Bool.false_eq_true, Int.toNat_natCast, Int.ofNat_lt, Int.ofNat_le, not_true_eq_false, not_false_eq_true, or_false, false_or, and_true, true_and, or_true, true_or, and_false, false_and, InK, Path.imp, List.length_replicate, List.length_set, List.length_append, List.length_cons, List.length_nil] at *); omega)) | (refine app_le rfl ?_; omega))); done)); (conv => whnf))
 | ((with_reducible refine And.intro (Side.out ?_) ?_); rotate_left; (conv => whnf))
 | (refine retF1 ?_ <;> (conv => whnf) <;> repeat' (first
 | exact trivial
 | (with_reducible rfl)
 | ((with_reducible refine And.intro ?_ ?_) <;> conv => whnf)
 | omega
 | rfl
 | (refine congrArg (SV.arr _) ?_)
 | (refine congrArg (Value.int _) ?_)
 | (refine congrArg Value.bool ?_)))
 | (refine retF2 ?_ <;> (conv => whnf) <;> repeat' (first
 | exact trivial
 | (with_reducible rfl)
 | ((with_reducible refine And.intro ?_ ?_) <;> conv => whnf)
 | omega
 | rfl
 | (refine congrArg (SV.arr _) ?_)
 | (refine congrArg (Value.int _) ?_)
 | (refine congrArg Value.bool ?_)))); all_goals (try unfold Side)
      all_goals try (repeat' (first | (with_reducible rfl) | (with_reducible refine And.intro ?_ ?_) | omega | rfl | exact Or.inl rfl | exact Or.inr rfl | exact of_decide_eq_true rfl | exact Path.imp_of (of_decide_eq_true rfl) | (focus ((try simp only [Int.reduceToNat, List.getD_cons_zero, List.getD_cons_succ, minL, maxL, pickB, getD_int, getD_sl, getD_bool, len_int, len_sl, len_bool, decide_eq_true_eq, decide_eq_false_iff_not, Bool.and_eq_true, Bool.or_eq_true, Bool.and_eq_false_iff, Bool.or_eq_false_iff, Bool.not_eq_true', Bool.not_eq_false', Bool.true_eq_false, Bool.false_eq_true, Int.toNat_natCast, Int.ofNat_lt, Int.ofNat_le, not_true_eq_false, not_false_eq_true, or_false, false_or, and_true, true_and, or_true, true_or, and_false, false_and, InK, Path.imp, List.length_replicate, List.length_set, List.length_append, List.length_cons, List.length_nil] at *); omega)) | (refine app_le rfl ?_; omega)))
      · exact otherT_hit hil (by omega)
      · exact otherT_miss (by omega)
      · refine ⟨i + 1, ⟨by omega, by omega⟩, ?_⟩
        refine subF.ok ?_ <;> (conv => whnf) <;> repeat' (first
 | exact trivial
 | (with_reducible rfl)
 | ((with_reducible refine And.intro ?_ ?_) <;> conv => whnf)
 | omega
 | rfl
 | (refine congrArg (SV.arr _) ?_)
 | (refine congrArg (Value.int _) ?_)
 | (refine congrArg Value.bool ?_))
      · refine ⟨i + 1, ⟨by omega, by omega⟩, ?_⟩
        refine subF.ok ?_ <;> (conv => whnf) <;> repeat' (first
 | exact trivial
 | (with_reducible rfl)
 | ((with_reducible refine And.intro ?_ ?_) <;> conv => whnf)
 | omega
 | rfl
 | (refine congrArg (SV.arr _) ?_)
 | (refine congrArg (Value.int _) ?_)
 | (refine congrArg Value.bool ?_))
    · have hie : n = i := by omega
      subst hie
      repeat' (first
 | refine W.resub (x := Code.seq (Code.region 31 _ _) _) ?_ (older_c hn1 hn8 hFl hRl h00 h01 h10 h11 h20 h21 hFb hRb hB)
 | refine W.seq ?_
 | refine W.block ?_
 | (refine W.region tys_ok [] ?_; conv => whnf)
 | (refine W.drawAll tys_ok [] mixed rfl ?_; conv => whnf)
 | (refine W.ret ?_; conv => whnf)
 | (refine W.skip ?_; conv => whnf)
 | (refine W.exit ?_; conv => whnf)

    | (refine Both.mk ?_ ?_ <;> (conv => whnf))
    | (refine subF.leaf ?_ <;> (conv => whnf) <;> repeat' (first
 | exact trivial
 | (with_reducible rfl)
 | ((with_reducible refine And.intro ?_ ?_) <;> conv => whnf)
 | omega
 | rfl
 | (refine congrArg (SV.arr _) ?_)
 | (refine congrArg (Value.int _) ?_)
 | (refine congrArg Value.bool ?_)))
 | (refine subF.side ?_ <;> (conv => whnf) <;> repeat' (first
 | exact trivial
 | (with_reducible rfl)
 | ((with_reducible refine And.intro ?_ ?_) <;> conv => whnf)
 | omega
 | rfl
 | (refine congrArg (SV.arr _) ?_)
 | (refine congrArg (Value.int _) ?_)
 | (refine congrArg Value.bool ?_)))
 | (refine W.cond rfl (fun hb => ?_) (fun hb => ?_) <;> (try simp only [Int.reduceToNat, List.getD_cons_zero, List.getD_cons_succ, minL, maxL, pickB, getD_int, getD_sl, getD_bool, len_int, len_sl, len_bool, decide_eq_true_eq, decide_eq_false_iff_not, Bool.and_eq_true, Bool.or_eq_true, Bool.and_eq_false_iff, Bool.or_eq_false_iff, Bool.not_eq_true', Bool.not_eq_false', Bool.true_eq_false, Bool.false_eq_true, Int.toNat_natCast, Int.ofNat_lt, Int.ofNat_le, not_true_eq_false, not_false_eq_true, or_false, false_or, and_true, true_and, or_true, true_or, and_false, false_and] at hb) <;> (try (first | (cases hb; done) | exact absurd hb (by decide) | (exfalso; omega))))
 | ((with_reducible refine And.intro ?_ ?_); (focus ((repeat' (first | (with_reducible rfl) | (with_reducible refine And.intro ?_ ?_) | omega | rfl | exact Or.inl rfl | exact Or.inr rfl | exact of_decide_eq_true rfl | exact Path.imp_of (of_decide_eq_true rfl) | (focus ((try simp only [Int.reduceToNat, List.getD_cons_zero, List.getD_cons_succ, minL, maxL, pickB, getD_int, getD_sl, getD_bool, len_int, len_sl, len_bool, decide_eq_true_eq, decide_eq_false_iff_not, Bool.and_eq_true, Bool.or_eq_true, Bool.and_eq_false_iff, Bool.or_eq_false_iff, Bool.not_eq_true', Bool.not_eq_false', Bool.true_eq_false, Bool.false_eq_true, Int.toNat_natCast, Int.ofNat_lt, Int.ofNat_le, not_true_eq_false, not_false_eq_true, or_false, false_or, and_true, true_and, or_true, true_or, and_false, false_and, InK, Path.imp, List.length_replicate, List.length_set, List.length_append, List.length_cons, List.length_nil] at *); omega)) | (refine app_le rfl ?_; omega))); done)); (conv => whnf))
 | ((with_reducible refine And.intro (Side.out ?_) ?_); rotate_left; (conv => whnf))
 | (refine retF1 ?_ <;> (conv => whnf) <;> repeat' (first
 | exact trivial
 | (with_reducible rfl)
 | ((with_reducible refine And.intro ?_ ?_) <;> conv => whnf)
 | omega
 | rfl
 | (refine congrArg (SV.arr _) ?_)
 | (refine congrArg (Value.int _) ?_)
 | (refine congrArg Value.bool ?_)))
 | (refine retF2 ?_ <;> (conv => whnf) <;> repeat' (first
 | exact trivial
 | (with_reducible rfl)
 | ((with_reducible refine And.intro ?_ ?_) <;> conv => whnf)
 | omega
 | rfl
 | (refine congrArg (SV.arr _) ?_)
 | (refine congrArg (Value.int _) ?_)
 | (refine congrArg Value.bool ?_)))); all_goals (try unfold Side)
      all_goals trivial
  

set_option maxHeartbeats 16000000 in
theorem WaterOlder_at (x y : List Int) (z0 z1 z2 : Int) (h00 : 0 ≤ z0) (h01 : z0 ≤ 255) (h10 : 0 ≤ z1) (h11 : z1 ≤ 255) (h20 : 0 ≤ z2) (h21 : z2 ≤ 255) :
    FnAt Try.prog false 5 [.arr (.int .i64) x, .arr (.int .i64) y, .agg [.lit (.int .u8 z0), .lit (.int .u8 z1), .lit (.int .u8 z2)]] (.lit (.bool true)) [] := by
  obtain ⟨n, hn⟩ : ∃ n : Nat, n = max 1 (min x.length 8) := ⟨_, rfl⟩
  have hn1 : 1 ≤ n := by omega
  have hn8 : n ≤ 8 := by omega
  have hmm : maxL 1 [minL (@List.length (Ty.int .i64).T x : Int) [8]] = (n : Int) := by
    simp only [maxL, minL]
    show max (1 : Int) (min (x.length : Int) 8) = n
    omega
  obtain ⟨F, hF⟩ : ∃ F : List Int, F = (List.range n).map fun i => if i < x.length then foldI (x.getD i 0) 30 else 0 := ⟨_, rfl⟩
  obtain ⟨R, hR⟩ : ∃ F : List Int, F = (List.range n).map fun i => if i < y.length then foldI (y.getD i 0) 31 else 0 := ⟨_, rfl⟩
  obtain ⟨A, hA⟩ : ∃ A, A = ageT z0 false n := ⟨_, rfl⟩
  have hFl : F.length = n := by rw [hF]; simp
  have hRl : R.length = n := by rw [hR]; simp
  have hAl : A.length = n := by rw [hA]; exact ageT_len
  have hF1 : ∀ i, i < n → i < x.length → F.getD i 0 = foldI (x.getD i 0) 30 := fun i hi h => by rw [hF, map_getD hi, if_pos h]
  have hF2 : ∀ i, i < n → ¬ i < x.length → F.getD i 0 = 0 := fun i hi h => by rw [hF, map_getD hi, if_neg h]
  have hR1 : ∀ i, i < n → i < y.length → R.getD i 0 = foldI (y.getD i 0) 31 := fun i hi h => by rw [hR, map_getD hi, if_pos h]
  have hR2 : ∀ i, i < n → ¬ i < y.length → R.getD i 0 = 0 := fun i hi h => by rw [hR, map_getD hi, if_neg h]
  have hFb : ∀ i, i < n → 0 ≤ F.getD i 0 ∧ F.getD i 0 ≤ 29 := fun i hi => by
    have := foldI_range (v := x.getD i 0) (n := 30) (by omega)
    by_cases h : i < x.length
    · rw [hF1 i hi h]; omega
    · rw [hF2 i hi h]; omega
  have hRb : ∀ i, i < n → 0 ≤ R.getD i 0 ∧ R.getD i 0 ≤ 30 := fun i hi => by
    have := foldI_range (v := y.getD i 0) (n := 31) (by omega)
    by_cases h : i < y.length
    · rw [hR1 i hi h]; omega
    · rw [hR2 i hi h]; omega
  have hAg : ∀ i, i < n → A.getD i 0 = ((i : Int) + z0).tmod n := fun i hi => by rw [hA, ageT_get hi]; rfl
  obtain ⟨B, hB⟩ : ∃ B, B = ageT z0 (decide (128 ≤ z0)) n := ⟨_, rfl⟩
  have hBl : B.length = n := by rw [hB]; exact ageT_len
  clear hF hR
  refine FnAt.of_body tys_ok Try.func5 (by rfl) rfl Try.ntmps5 (by rw [Try.results5]) (by simp) ?_
  
  repeat' (first
 | refine W.seq ?_
 | refine W.block ?_
 | (refine W.region tys_ok [] ?_; conv => whnf)
 | (refine W.drawAll tys_ok [] mixed rfl ?_; conv => whnf)
 | (refine W.ret ?_; conv => whnf)
 | (refine W.skip ?_; conv => whnf)
 | (refine W.exit ?_; conv => whnf)

    | (refine W.cond rfl (fun hb => ?_) (fun hb => ?_) <;> (try simp only [Int.reduceToNat, List.getD_cons_zero, List.getD_cons_succ, minL, maxL, pickB, getD_int, getD_sl, getD_bool, len_int, len_sl, len_bool, decide_eq_true_eq, decide_eq_false_iff_not, Bool.and_eq_true, Bool.or_eq_true, Bool.and_eq_false_iff, Bool.or_eq_false_iff, Bool.not_eq_true', Bool.not_eq_false', Bool.true_eq_false, Bool.false_eq_true, Int.toNat_natCast, Int.ofNat_lt, Int.ofNat_le, not_true_eq_false, not_false_eq_true, or_false, false_or, and_true, true_and, or_true, true_or, and_false, false_and] at hb) <;> (try (first | (cases hb; done) | exact absurd hb (by decide) | (exfalso; omega))))
    | ((with_reducible refine And.intro ?_ ?_); (focus ((repeat' (first | (with_reducible rfl) | (with_reducible refine And.intro ?_ ?_) | omega | rfl | exact Or.inl rfl | exact Or.inr rfl | exact of_decide_eq_true rfl | exact Path.imp_of (of_decide_eq_true rfl) | (focus ((try simp only [Int.reduceToNat, List.getD_cons_zero, List.getD_cons_succ, minL, maxL, pickB, getD_int, getD_sl, getD_bool, len_int, len_sl, len_bool, decide_eq_true_eq, decide_eq_false_iff_not, Bool.and_eq_true, Bool.or_eq_true, Bool.and_eq_false_iff, Bool.or_eq_false_iff, Bool.not_eq_true', Bool.not_eq_false', Bool.true_eq_false, Bool.false_eq_true, Int.toNat_natCast, Int.ofNat_lt, Int.ofNat_le, not_true_eq_false, not_false_eq_true, or_false, false_or, and_true, true_and, or_true, true_or, and_false, false_and, InK, Path.imp, List.length_replicate, List.length_set, List.length_append, List.length_cons, List.length_nil] at *); omega)) | (refine app_le rfl ?_; omega))); done)); (conv => whnf))
    | ((with_reducible refine And.intro (Side.out ?_) ?_); rotate_left; (conv => whnf))
    | (refine retF1 ?_ <;> (conv => whnf) <;> repeat' (first
 | exact trivial
 | (with_reducible rfl)
 | ((with_reducible refine And.intro ?_ ?_) <;> conv => whnf)
 | omega
 | rfl
 | (refine congrArg (SV.arr _) ?_)
 | (refine congrArg (Value.int _) ?_)
 | (refine congrArg Value.bool ?_)))
 | (refine retF2 ?_ <;> (conv => whnf) <;> repeat' (first
 | exact trivial
 | (with_reducible rfl)
 | ((with_reducible refine And.intro ?_ ?_) <;> conv => whnf)
 | omega
 | rfl
 | (refine congrArg (SV.arr _) ?_)
 | (refine congrArg (Value.int _) ?_)
 | (refine congrArg Value.bool ?_)))); all_goals (try unfold Side)
  all_goals try (repeat' (first | (with_reducible rfl) | (with_reducible refine And.intro ?_ ?_) | omega | rfl | exact Or.inl rfl | exact Or.inr rfl | exact of_decide_eq_true rfl | exact Path.imp_of (of_decide_eq_true rfl) | (focus ((try simp only [Int.reduceToNat, List.getD_cons_zero, List.getD_cons_succ, minL, maxL, pickB, getD_int, getD_sl, getD_bool, len_int, len_sl, len_bool, decide_eq_true_eq, decide_eq_false_iff_not, Bool.and_eq_true, Bool.or_eq_true, Bool.and_eq_false_iff, Bool.or_eq_false_iff, Bool.not_eq_true', Bool.not_eq_false', Bool.true_eq_false, Bool.false_eq_true, Int.toNat_natCast, Int.ofNat_lt, Int.ofNat_le, not_true_eq_false, not_false_eq_true, or_false, false_or, and_true, true_and, or_true, true_or, and_false, false_and, InK, Path.imp, List.length_replicate, List.length_set, List.length_append, List.length_cons, List.length_nil] at *); omega)) | (refine app_le rfl ?_; omega)))
  refine W.loop (fun i : Nat => ⟨[(0, .st false (.arr (.int .i64) x)), (1, .st false (.arr (.int .i64) y)), (5, .st false (.sadr (.agg [.lit (.int .u8 z0), .lit (.int .u8 z1), .lit (.int .u8 z2)]))), (6, .lit (.bool false)), (7, .lit (.int .i64 n)), (8, .own 900008), (9, .own 900009), (10, .own 900010), (11, .lit (.int .i64 i))],
      [(900008, .row 3 (.int .i64) true (F.take i)), (900009, .row 3 (.int .i64) true (R.take i)), (900010, .row 3 (.int .i64) true (A.take i))]⟩)
    (fun i => i ≤ n) (fun i => n - i) 0 ?_ ?_
  · refine ⟨Nat.zero_le _, ?_⟩
    refine subF.ok ?_ <;> (conv => whnf) <;> repeat' (first
 | exact trivial
 | (with_reducible rfl)
 | ((with_reducible refine And.intro ?_ ?_) <;> conv => whnf)
 | omega
 | rfl
 | (refine congrArg (SV.arr _) ?_)
 | (refine congrArg (Value.int _) ?_)
 | (refine congrArg Value.bool ?_))
  · as_aux_lemma =>
    intro i hi
    have hl8 : @List.length (Ty.int .i64).T (F.take i) ≤ i := by
      show (F.take i).length ≤ i
      rw [List.length_take]; omega
    have hl9 : @List.length (Ty.int .i64).T (R.take i) ≤ i := by
      show (R.take i).length ≤ i
      rw [List.length_take]; omega
    have hl10 : @List.length (Ty.int .i64).T (A.take i) ≤ i := by
      show (A.take i).length ≤ i
      rw [List.length_take]; omega
    by_cases hil : i < n
    · have eF1 := hF1 i hil
      have eF2 := hF2 i hil
      have eR1 := hR1 i hil
      have eR2 := hR2 i hil
      have hf := fold_at (x.getD i 0) 30 (by omega) (by omega)
      have hr := fold_at (y.getD i 0) 31 (by omega) (by omega)
      have tF : F.take (i + 1) = F.take i ++ [F.getD i 0] := take_getD (by omega)
      have tR : R.take (i + 1) = R.take i ++ [R.getD i 0] := take_getD (by omega)
      have tA : A.take (i + 1) = A.take i ++ [((i : Int) + z0).tmod n] := by rw [← hAg i hil]; exact take_getD (by omega)
      repeat' (first
 | refine W.joinTo (t := 42) ⟨[(0, .st false (.arr (.int .i64) x)), (1, .st false (.arr (.int .i64) y)), (5, .st false (.sadr (.agg [.lit (.int .u8 z0), .lit (.int .u8 z1), .lit (.int .u8 z2)]))), (6, .lit (.bool false)), (7, .lit (.int .i64 n)), (8, .own 900008), (9, .own 900009), (10, .own 900010), (11, .lit (.int .i64 i)), (12, .lit (.int .i64 (F.getD i 0))), (13, .lit (.int .i64 0))],
      [(900008, .row 3 (.int .i64) true (F.take i)), (900009, .row 3 (.int .i64) true (R.take i)), (900010, .row 3 (.int .i64) true (A.take i))]⟩ ?_ ?_
    | refine W.joinTo (t := 51) ⟨[(0, .st false (.arr (.int .i64) x)), (1, .st false (.arr (.int .i64) y)), (5, .st false (.sadr (.agg [.lit (.int .u8 z0), .lit (.int .u8 z1), .lit (.int .u8 z2)]))), (6, .lit (.bool false)), (7, .lit (.int .i64 n)), (8, .own 900008), (9, .own 900009), (10, .own 900010), (11, .lit (.int .i64 i)), (12, .lit (.int .i64 (F.getD i 0))), (13, .lit (.int .i64 (R.getD i 0)))],
      [(900008, .row 3 (.int .i64) true (F.take i)), (900009, .row 3 (.int .i64) true (R.take i)), (900010, .row 3 (.int .i64) true (A.take i))]⟩ ?_ ?_
    | refine W.seq ?_
    | refine W.block ?_
    | (refine W.drawPhTo (id := 11) tys_ok [] mixed [0, 0, 2, 5, 0, 0, 32, 88, 0, 0, 0, 1024, 2048, 4608, 0, 24576, 32768, 65920, 131087, 262399, 1048575] [([0, 1, 4, 5, 8, 9, 10, 11, 12, 13, 14, 15], 5, 131071), ([], 1, 262143), ([18, 19, 20], 0, 2097151)] ⟨[(0, .st false (.arr (.int .i64) x)), (1, .st false (.arr (.int .i64) y)), (5, .st false (.sadr (.agg [.lit (.int .u8 z0), .lit (.int .u8 z1), .lit (.int .u8 z2)]))), (6, .lit (.bool false)), (7, .lit (.int .i64 n)), (8, .own 900008), (9, .own 900009), (10, .own 900010), (11, .lit (.int .i64 i))],
      [(900008, .row 3 (.int .i64) true (F.take i ++ [F.getD i 0])), (900009, .row 3 (.int .i64) true (R.take i ++ [R.getD i 0])), (900010, .row 3 (.int .i64) true (A.take i ++ [((i : Int) + z0).tmod n]))]⟩ (by decide +kernel) ?_ ?_ <;> (conv => whnf))
    | (refine W.region tys_ok [] ?_; conv => whnf)
    | (refine W.drawAll tys_ok [] mixed rfl ?_; conv => whnf)
    | (refine W.ret ?_; conv => whnf)
    | (refine W.skip ?_; conv => whnf)
    | (refine W.exit ?_; conv => whnf)
    | (refine call_at (al := false) (hf) rfl rfl rfl rfl ?_; conv => whnf)
    | (refine call_at (al := false) (hr) rfl rfl rfl rfl ?_; conv => whnf)

    | (refine Both.mk ?_ ?_ <;> (conv => whnf))
    | (refine subF.leaf ?_ <;> (conv => whnf) <;> repeat' (first
 | exact trivial
 | (with_reducible rfl)
 | ((with_reducible refine And.intro ?_ ?_) <;> conv => whnf)
 | omega
 | rfl
 | (refine congrArg (SV.arr _) ?_)
 | (refine congrArg (Value.int _) ?_)
 | (refine congrArg Value.bool ?_)))
 | (refine subF.side ?_ <;> (conv => whnf) <;> repeat' (first
 | exact trivial
 | (with_reducible rfl)
 | ((with_reducible refine And.intro ?_ ?_) <;> conv => whnf)
 | omega
 | rfl
 | (refine congrArg (SV.arr _) ?_)
 | (refine congrArg (Value.int _) ?_)
 | (refine congrArg Value.bool ?_)))
 | (refine W.cond rfl (fun hb => ?_) (fun hb => ?_) <;> (try simp only [Int.reduceToNat, List.getD_cons_zero, List.getD_cons_succ, minL, maxL, pickB, getD_int, getD_sl, getD_bool, len_int, len_sl, len_bool, decide_eq_true_eq, decide_eq_false_iff_not, Bool.and_eq_true, Bool.or_eq_true, Bool.and_eq_false_iff, Bool.or_eq_false_iff, Bool.not_eq_true', Bool.not_eq_false', Bool.true_eq_false, Bool.false_eq_true, Int.toNat_natCast, Int.ofNat_lt, Int.ofNat_le, not_true_eq_false, not_false_eq_true, or_false, false_or, and_true, true_and, or_true, true_or, and_false, false_and] at hb) <;> (try (first | (cases hb; done) | exact absurd hb (by decide) | (exfalso; omega))))
 | ((with_reducible refine And.intro ?_ ?_); (focus ((repeat' (first | (with_reducible rfl) | (with_reducible refine And.intro ?_ ?_) | omega | rfl | exact Or.inl rfl | exact Or.inr rfl | exact of_decide_eq_true rfl | exact Path.imp_of (of_decide_eq_true rfl) | (focus ((try simp only [Int.reduceToNat, List.getD_cons_zero, List.getD_cons_succ, minL, maxL, pickB, getD_int, getD_sl, getD_bool, len_int, len_sl, len_bool, decide_eq_true_eq, decide_eq_false_iff_not, Bool.and_eq_true, Bool.or_eq_true, Bool.and_eq_false_iff, Bool.or_eq_false_iff, Bool.not_eq_true', Bool.not_eq_false', Bool.true_eq_false, Bool.false_eq_true, Int.toNat_natCast, Int.ofNat_lt, Int.ofNat_le, not_true_eq_false, not_false_eq_true, or_false, false_or, and_true, true_and, or_true, true_or, and_false, false_and, InK, Path.imp, List.length_replicate, List.length_set, List.length_append, List.length_cons, List.length_nil] at *); omega)) | (refine app_le rfl ?_; omega))); done)); (conv => whnf))
 | ((with_reducible refine And.intro (Side.out ?_) ?_); rotate_left; (conv => whnf))
 | (refine retF1 ?_ <;> (conv => whnf) <;> repeat' (first
 | exact trivial
 | (with_reducible rfl)
 | ((with_reducible refine And.intro ?_ ?_) <;> conv => whnf)
 | omega
 | rfl
 | (refine congrArg (SV.arr _) ?_)
 | (refine congrArg (Value.int _) ?_)
 | (refine congrArg Value.bool ?_)))
 | (refine retF2 ?_ <;> (conv => whnf) <;> repeat' (first
 | exact trivial
 | (with_reducible rfl)
 | ((with_reducible refine And.intro ?_ ?_) <;> conv => whnf)
 | omega
 | rfl
 | (refine congrArg (SV.arr _) ?_)
 | (refine congrArg (Value.int _) ?_)
 | (refine congrArg Value.bool ?_)))); all_goals (try unfold Side)
      all_goals try (repeat' (first | (with_reducible rfl) | (with_reducible refine And.intro ?_ ?_) | omega | rfl | exact Or.inl rfl | exact Or.inr rfl | exact of_decide_eq_true rfl | exact Path.imp_of (of_decide_eq_true rfl) | (focus ((try simp only [Int.reduceToNat, List.getD_cons_zero, List.getD_cons_succ, minL, maxL, pickB, getD_int, getD_sl, getD_bool, len_int, len_sl, len_bool, decide_eq_true_eq, decide_eq_false_iff_not, Bool.and_eq_true, Bool.or_eq_true, Bool.and_eq_false_iff, Bool.or_eq_false_iff, Bool.not_eq_true', Bool.not_eq_false', Bool.true_eq_false, Bool.false_eq_true, Int.toNat_natCast, Int.ofNat_lt, Int.ofNat_le, not_true_eq_false, not_false_eq_true, or_false, false_or, and_true, true_and, or_true, true_or, and_false, false_and, InK, Path.imp, List.length_replicate, List.length_set, List.length_append, List.length_cons, List.length_nil] at *); omega)) | (refine app_le rfl ?_; omega)))
      refine ⟨i + 1, ⟨by omega, by omega⟩, ?_⟩
      refine subF.ok ?_ <;> (conv => whnf) <;> repeat' (first
 | exact trivial
 | (with_reducible rfl)
 | ((with_reducible refine And.intro ?_ ?_) <;> conv => whnf)
 | omega
 | rfl
 | (refine congrArg (SV.arr _) ?_)
 | (refine congrArg (Value.int _) ?_)
 | (refine congrArg Value.bool ?_))
      · exact tF.symm
      · exact tR.symm
      · exact tA.symm
    · have hie : n = i := by omega
      subst hie
      have t1 : @List.take (Ty.int .i64).T n F = F := by rw [← hFl]; exact List.take_length
      have t2 : @List.take (Ty.int .i64).T n R = R := by rw [← hRl]; exact List.take_length
      have t3 : @List.take (Ty.int .i64).T n A = A := by rw [← hAl]; exact List.take_length
      rw [t1, t2, t3]
      clear hl8 hl9 hl10 t1 t2 t3 hF1 hF2 hR1 hR2
      repeat' (first
 | refine W.resub (x := Code.seq (Code.seq (Code.region 12 _ _) _) _) ?_ (older_b (x := x) (y := y) (A := A) hn1 hn8 hFl hRl h00 h01 h10 h11 h20 h21 hFb hRb hB hA)
 | refine W.seq ?_
 | refine W.block ?_
 | (refine W.region tys_ok [] ?_; conv => whnf)
 | (refine W.drawAll tys_ok [] mixed rfl ?_; conv => whnf)
 | (refine W.ret ?_; conv => whnf)
 | (refine W.skip ?_; conv => whnf)
 | (refine W.exit ?_; conv => whnf)

    | (refine Both.mk ?_ ?_ <;> (conv => whnf))
    | (refine subF.leaf ?_ <;> (conv => whnf) <;> repeat' (first
 | exact trivial
 | (with_reducible rfl)
 | ((with_reducible refine And.intro ?_ ?_) <;> conv => whnf)
 | omega
 | rfl
 | (refine congrArg (SV.arr _) ?_)
 | (refine congrArg (Value.int _) ?_)
 | (refine congrArg Value.bool ?_)))
 | (refine subF.side ?_ <;> (conv => whnf) <;> repeat' (first
 | exact trivial
 | (with_reducible rfl)
 | ((with_reducible refine And.intro ?_ ?_) <;> conv => whnf)
 | omega
 | rfl
 | (refine congrArg (SV.arr _) ?_)
 | (refine congrArg (Value.int _) ?_)
 | (refine congrArg Value.bool ?_)))
 | (refine W.cond rfl (fun hb => ?_) (fun hb => ?_) <;> (try simp only [Int.reduceToNat, List.getD_cons_zero, List.getD_cons_succ, minL, maxL, pickB, getD_int, getD_sl, getD_bool, len_int, len_sl, len_bool, decide_eq_true_eq, decide_eq_false_iff_not, Bool.and_eq_true, Bool.or_eq_true, Bool.and_eq_false_iff, Bool.or_eq_false_iff, Bool.not_eq_true', Bool.not_eq_false', Bool.true_eq_false, Bool.false_eq_true, Int.toNat_natCast, Int.ofNat_lt, Int.ofNat_le, not_true_eq_false, not_false_eq_true, or_false, false_or, and_true, true_and, or_true, true_or, and_false, false_and] at hb) <;> (try (first | (cases hb; done) | exact absurd hb (by decide) | (exfalso; omega))))
 | ((with_reducible refine And.intro ?_ ?_); (focus ((repeat' (first | (with_reducible rfl) | (with_reducible refine And.intro ?_ ?_) | omega | rfl | exact Or.inl rfl | exact Or.inr rfl | exact of_decide_eq_true rfl | exact Path.imp_of (of_decide_eq_true rfl) | (focus ((try simp only [Int.reduceToNat, List.getD_cons_zero, List.getD_cons_succ, minL, maxL, pickB, getD_int, getD_sl, getD_bool, len_int, len_sl, len_bool, decide_eq_true_eq, decide_eq_false_iff_not, Bool.and_eq_true, Bool.or_eq_true, Bool.and_eq_false_iff, Bool.or_eq_false_iff, Bool.not_eq_true', Bool.not_eq_false', Bool.true_eq_false, Bool.false_eq_true, Int.toNat_natCast, Int.ofNat_lt, Int.ofNat_le, not_true_eq_false, not_false_eq_true, or_false, false_or, and_true, true_and, or_true, true_or, and_false, false_and, InK, Path.imp, List.length_replicate, List.length_set, List.length_append, List.length_cons, List.length_nil] at *); omega)) | (refine app_le rfl ?_; omega))); done)); (conv => whnf))
 | ((with_reducible refine And.intro (Side.out ?_) ?_); rotate_left; (conv => whnf))
 | (refine retF1 ?_ <;> (conv => whnf) <;> repeat' (first
 | exact trivial
 | (with_reducible rfl)
 | ((with_reducible refine And.intro ?_ ?_) <;> conv => whnf)
 | omega
 | rfl
 | (refine congrArg (SV.arr _) ?_)
 | (refine congrArg (Value.int _) ?_)
 | (refine congrArg Value.bool ?_)))
 | (refine retF2 ?_ <;> (conv => whnf) <;> repeat' (first
 | exact trivial
 | (with_reducible rfl)
 | ((with_reducible refine And.intro ?_ ?_) <;> conv => whnf)
 | omega
 | rfl
 | (refine congrArg (SV.arr _) ?_)
 | (refine congrArg (Value.int _) ?_)
 | (refine congrArg Value.bool ?_)))); all_goals (try unfold Side)
      all_goals trivial
end Go.Proofs.Ytohfemfgnohhdaa