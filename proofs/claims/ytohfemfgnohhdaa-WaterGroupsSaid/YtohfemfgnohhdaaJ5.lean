/- Joined of: W26 W27 Vc24 Vc25 W28 W29. No condition. -/
import Derived.Test.YtohfemfgnohhdaaJ4
import Derived.Test.YtohfemfgnohhdaaJ2

/- The document's worth alone of a group, shares, prices. No condition. -/
namespace Go.Proofs.Ytohfemfgnohhdaa
open Go Go.Vc
set_option linter.unusedVariables false
set_option linter.unusedSimpArgs false

theorem app_le {a b N : Nat} (hb : b = 1) (h : a + 1 ≤ N) : a + b ≤ N := by omega
/-- How many numbers follow, each by one. -/
def runT (a : Int) : List Int → Nat
  | [] => 0
  | b :: r => if b = a + 1 then runT b r + 1 else 0
theorem runT_le : ∀ {a : Int} {r : List Int}, runT a r ≤ r.length
  | _, [] => Nat.le_refl _
  | a, b :: r => by
    simp only [runT]
    split
    · have := runT_le (a := b) (r := r); simp only [List.length_cons]; omega
    · omega
/-- The worth of places that follow each other. -/
def rowV (fl : List Int) (gs : List (List Int)) (a : Nat) (n : Nat) : Int := val ((fl.take (a + n)).drop a) ((gs.take (a + n)).drop a)
def aloneF (fl : List Int) (gs : List (List Int)) : Nat → List Int → Int
  | 0, _ => 0
  | _ + 1, [] => 0
  | k + 1, a :: r => rowV fl gs a.toNat (runT a r + 1) + aloneF fl gs k (r.drop (runT a r))
def aloneL (fl : List Int) (gs : List (List Int)) (g : List Int) : Int := aloneF fl gs g.length g
/-- Numbers that rise, each a place. -/
structure Grp (n : Nat) (g : List Int) : Prop where
  val : ∀ i, i < g.length → 0 ≤ g.getD i 0 ∧ g.getD i 0 < n
  rise : ∀ i, i + 1 < g.length → g.getD i 0 < g.getD (i + 1) 0

theorem Grp.mono {n : Nat} {g : List Int} (h : Grp n g) : ∀ {i j : Nat}, i < j → j < g.length → g.getD i 0 + ((j : Int) - i) ≤ g.getD j 0
  | i, 0, h1, _ => by omega
  | i, j + 1, h1, h2 => by
    have h3 := h.rise j h2
    by_cases e : i = j
    · subst e; omega
    · have := h.mono (i := i) (j := j) (by omega) (by omega); omega
theorem Grp.len {n : Nat} {g : List Int} (h : Grp n g) : g.length ≤ n := by
  by_cases e : g.length = 0
  · omega
  · have h1 := h.val 0 (by omega)
    have h2 := h.val (g.length - 1) (by omega)
    by_cases e2 : g.length = 1
    · omega
    · have := h.mono (i := 0) (j := g.length - 1) (by omega) (by omega); omega
theorem First_at (n : Nat) (hn : n ≤ 1000) : FnAt Try.prog false 54 [.lit (.int .i64 n)] (.own 0) [(0, .row 3 (.int .i64) true ((List.range n).map fun (i : Nat) => (i : Int)))] := by
  refine FnAt.of_body tys_ok Try.func54 (by rfl) rfl Try.ntmps54 (by rw [Try.results54]) (by simp) ?_
  
  repeat' (first
    | refine W.seq ?_
    | refine W.block ?_
    | (refine W.region tys_ok [] ?_; conv => whnf)
    | (refine W.drawAll tys_ok [] mixed rfl ?_; conv => whnf)
    | (refine W.ret ?_; conv => whnf)
    | (refine W.skip ?_; conv => whnf)
    | (refine W.exit ?_; conv => whnf)
    | (refine W.cond rfl (fun hb => ?_) (fun hb => ?_) <;> (try simp only [minL, maxL, pickB, getD_int, getD_sl, getD_bool, len_int, len_sl, len_bool, decide_eq_true_eq, decide_eq_false_iff_not, Bool.and_eq_true, Bool.or_eq_true, Bool.and_eq_false_iff, Bool.or_eq_false_iff, Bool.not_eq_true', Bool.not_eq_false', Int.toNat_natCast, Int.ofNat_lt, Int.ofNat_le, not_true_eq_false, not_false_eq_true, or_false, false_or, and_true, true_and, or_true, true_or, and_false, false_and] at hb) <;> (try (first | (cases hb; done) | exact absurd hb (by decide) | (exfalso; omega))))
    | ((with_reducible refine And.intro ?_ ?_); (focus ((repeat' (first | (with_reducible rfl) | (with_reducible refine And.intro ?_ ?_) | omega | rfl | exact Or.inl rfl | exact Or.inr rfl | (focus ((try simp only [minL, maxL, pickB, getD_int, getD_sl, getD_bool, len_int, len_sl, len_bool, decide_eq_true_eq, decide_eq_false_iff_not, Bool.and_eq_true, Bool.or_eq_true, Bool.and_eq_false_iff, Bool.or_eq_false_iff, Bool.not_eq_true', Bool.not_eq_false', Int.toNat_natCast, Int.ofNat_lt, Int.ofNat_le, not_true_eq_false, not_false_eq_true, or_false, false_or, and_true, true_and, or_true, true_or, and_false, false_and, InK, Path.imp, List.length_replicate, List.length_set, List.length_append, List.length_cons, List.length_nil] at *); omega)) | (refine app_le rfl ?_; omega))); done)); (conv => whnf))
    | ((with_reducible refine And.intro (Side.out ?_) ?_); rotate_left; (conv => whnf))
    | (refine Exists.intro _ (And.intro rfl (And.intro rfl (And.intro ?_ ?_))) <;> (conv => whnf) <;> repeat' (first
    | exact trivial
    | rfl
    | (refine And.intro (fun h => h) (Or.inl ?_))
    | (refine And.intro (fun _ => rfl) (Or.inl ?_))
    | (refine And.intro (fun h => Bool.noConfusion h) (Or.inl ?_))
    | (with_reducible refine And.intro (fun _ => rfl) ?_)
    | ((with_reducible refine And.intro ?_ ?_) <;> conv => whnf)
    | (refine congrArg (Value.int _) ?_)
    | (refine congrArg (SV.arr _) ?_)
    | (refine congrArg Value.bool ?_)))); all_goals (try unfold Side)
  refine W.loop (fun i : Nat => ⟨[(0, .lit (.int .i64 n)), (3, .own 6000), (4, .lit (.int .i64 i))], [(6000, .row 3 (.int .i64) true ((List.range i).map fun (i : Nat) => (i : Int)))]⟩)
    (fun i => i ≤ n) (fun i => n - i) 0 ?_ ?_
  · refine ⟨by simp, ?_⟩
    refine ⟨rfl, ?_, ?_⟩ <;> (conv => whnf) <;> repeat' (first
    | exact trivial
    | rfl
    | (refine And.intro (fun h => h) (Or.inl ?_))
    | (refine And.intro (fun _ => rfl) (Or.inl ?_))
    | (refine And.intro (fun h => Bool.noConfusion h) (Or.inl ?_))
    | (with_reducible refine And.intro (fun _ => rfl) ?_)
    | ((with_reducible refine And.intro ?_ ?_) <;> conv => whnf)
    | (refine congrArg (Value.int _) ?_)
    | (refine congrArg (SV.arr _) ?_)
    | (refine congrArg Value.bool ?_))
  · intro i hi
    have hl : @List.length (Ty.int .i64).T ((List.range i).map fun (i : Nat) => (i : Int)) = i := by
      show ((List.range i).map fun (i : Nat) => (i : Int)).length = i
      simp
    by_cases hin : i < n
    · repeat' (first
    | refine W.seq ?_
    | refine W.block ?_
    | (refine W.region tys_ok [] ?_; conv => whnf)
    | (refine W.drawAll tys_ok [] mixed rfl ?_; conv => whnf)
    | (refine W.ret ?_; conv => whnf)
    | (refine W.skip ?_; conv => whnf)
    | (refine W.exit ?_; conv => whnf)
    | (refine W.cond rfl (fun hb => ?_) (fun hb => ?_) <;> (try simp only [minL, maxL, pickB, getD_int, getD_sl, getD_bool, len_int, len_sl, len_bool, decide_eq_true_eq, decide_eq_false_iff_not, Bool.and_eq_true, Bool.or_eq_true, Bool.and_eq_false_iff, Bool.or_eq_false_iff, Bool.not_eq_true', Bool.not_eq_false', Int.toNat_natCast, Int.ofNat_lt, Int.ofNat_le, not_true_eq_false, not_false_eq_true, or_false, false_or, and_true, true_and, or_true, true_or, and_false, false_and] at hb) <;> (try (first | (cases hb; done) | exact absurd hb (by decide) | (exfalso; omega))))
    | ((with_reducible refine And.intro ?_ ?_); (focus ((repeat' (first | (with_reducible rfl) | (with_reducible refine And.intro ?_ ?_) | omega | rfl | exact Or.inl rfl | exact Or.inr rfl | (focus ((try simp only [minL, maxL, pickB, getD_int, getD_sl, getD_bool, len_int, len_sl, len_bool, decide_eq_true_eq, decide_eq_false_iff_not, Bool.and_eq_true, Bool.or_eq_true, Bool.and_eq_false_iff, Bool.or_eq_false_iff, Bool.not_eq_true', Bool.not_eq_false', Int.toNat_natCast, Int.ofNat_lt, Int.ofNat_le, not_true_eq_false, not_false_eq_true, or_false, false_or, and_true, true_and, or_true, true_or, and_false, false_and, InK, Path.imp, List.length_replicate, List.length_set, List.length_append, List.length_cons, List.length_nil] at *); omega)) | (refine app_le rfl ?_; omega))); done)); (conv => whnf))
    | ((with_reducible refine And.intro (Side.out ?_) ?_); rotate_left; (conv => whnf))
    | (refine Exists.intro _ (And.intro rfl (And.intro rfl (And.intro ?_ ?_))) <;> (conv => whnf) <;> repeat' (first
    | exact trivial
    | rfl
    | (refine And.intro (fun h => h) (Or.inl ?_))
    | (refine And.intro (fun _ => rfl) (Or.inl ?_))
    | (refine And.intro (fun h => Bool.noConfusion h) (Or.inl ?_))
    | (with_reducible refine And.intro (fun _ => rfl) ?_)
    | ((with_reducible refine And.intro ?_ ?_) <;> conv => whnf)
    | (refine congrArg (Value.int _) ?_)
    | (refine congrArg (SV.arr _) ?_)
    | (refine congrArg Value.bool ?_)))); all_goals (try unfold Side)
      all_goals try (repeat' (first | (with_reducible rfl) | (with_reducible refine And.intro ?_ ?_) | omega | rfl | exact Or.inl rfl | exact Or.inr rfl | (focus ((try simp only [minL, maxL, pickB, getD_int, getD_sl, getD_bool, len_int, len_sl, len_bool, decide_eq_true_eq, decide_eq_false_iff_not, Bool.and_eq_true, Bool.or_eq_true, Bool.and_eq_false_iff, Bool.or_eq_false_iff, Bool.not_eq_true', Bool.not_eq_false', Int.toNat_natCast, Int.ofNat_lt, Int.ofNat_le, not_true_eq_false, not_false_eq_true, or_false, false_or, and_true, true_and, or_true, true_or, and_false, false_and, InK, Path.imp, List.length_replicate, List.length_set, List.length_append, List.length_cons, List.length_nil] at *); omega)) | (refine app_le rfl ?_; omega)))
      refine ⟨i + 1, ⟨by omega, by omega⟩, ?_⟩
      refine ⟨rfl, ?_, ?_⟩ <;> (conv => whnf) <;> repeat' (first
    | exact trivial
    | rfl
    | (refine And.intro (fun h => h) (Or.inl ?_))
    | (refine And.intro (fun _ => rfl) (Or.inl ?_))
    | (refine And.intro (fun h => Bool.noConfusion h) (Or.inl ?_))
    | (with_reducible refine And.intro (fun _ => rfl) ?_)
    | ((with_reducible refine And.intro ?_ ?_) <;> conv => whnf)
    | (refine congrArg (Value.int _) ?_)
    | (refine congrArg (SV.arr _) ?_)
    | (refine congrArg Value.bool ?_))
      show ((List.range i).map fun (i : Nat) => (i : Int)) ++ [(i : Int)] = (List.range (i + 1)).map fun (i : Nat) => (i : Int)
      rw [List.range_succ, List.map_append]; rfl
    · have hin' : i = n := by omega
      subst hin'
      repeat' (first
    | refine W.seq ?_
    | refine W.block ?_
    | (refine W.region tys_ok [] ?_; conv => whnf)
    | (refine W.drawAll tys_ok [] mixed rfl ?_; conv => whnf)
    | (refine W.ret ?_; conv => whnf)
    | (refine W.skip ?_; conv => whnf)
    | (refine W.exit ?_; conv => whnf)
    | (refine W.cond rfl (fun hb => ?_) (fun hb => ?_) <;> (try simp only [minL, maxL, pickB, getD_int, getD_sl, getD_bool, len_int, len_sl, len_bool, decide_eq_true_eq, decide_eq_false_iff_not, Bool.and_eq_true, Bool.or_eq_true, Bool.and_eq_false_iff, Bool.or_eq_false_iff, Bool.not_eq_true', Bool.not_eq_false', Int.toNat_natCast, Int.ofNat_lt, Int.ofNat_le, not_true_eq_false, not_false_eq_true, or_false, false_or, and_true, true_and, or_true, true_or, and_false, false_and] at hb) <;> (try (first | (cases hb; done) | exact absurd hb (by decide) | (exfalso; omega))))
    | ((with_reducible refine And.intro ?_ ?_); (focus ((repeat' (first | (with_reducible rfl) | (with_reducible refine And.intro ?_ ?_) | omega | rfl | exact Or.inl rfl | exact Or.inr rfl | (focus ((try simp only [minL, maxL, pickB, getD_int, getD_sl, getD_bool, len_int, len_sl, len_bool, decide_eq_true_eq, decide_eq_false_iff_not, Bool.and_eq_true, Bool.or_eq_true, Bool.and_eq_false_iff, Bool.or_eq_false_iff, Bool.not_eq_true', Bool.not_eq_false', Int.toNat_natCast, Int.ofNat_lt, Int.ofNat_le, not_true_eq_false, not_false_eq_true, or_false, false_or, and_true, true_and, or_true, true_or, and_false, false_and, InK, Path.imp, List.length_replicate, List.length_set, List.length_append, List.length_cons, List.length_nil] at *); omega)) | (refine app_le rfl ?_; omega))); done)); (conv => whnf))
    | ((with_reducible refine And.intro (Side.out ?_) ?_); rotate_left; (conv => whnf))
    | (refine Exists.intro _ (And.intro rfl (And.intro rfl (And.intro ?_ ?_))) <;> (conv => whnf) <;> repeat' (first
    | exact trivial
    | rfl
    | (refine And.intro (fun h => h) (Or.inl ?_))
    | (refine And.intro (fun _ => rfl) (Or.inl ?_))
    | (refine And.intro (fun h => Bool.noConfusion h) (Or.inl ?_))
    | (with_reducible refine And.intro (fun _ => rfl) ?_)
    | ((with_reducible refine And.intro ?_ ?_) <;> conv => whnf)
    | (refine congrArg (Value.int _) ?_)
    | (refine congrArg (SV.arr _) ?_)
    | (refine congrArg Value.bool ?_)))); all_goals (try unfold Side)
      all_goals try (repeat' (first | (with_reducible rfl) | (with_reducible refine And.intro ?_ ?_) | omega | rfl | exact Or.inl rfl | exact Or.inr rfl | (focus ((try simp only [minL, maxL, pickB, getD_int, getD_sl, getD_bool, len_int, len_sl, len_bool, decide_eq_true_eq, decide_eq_false_iff_not, Bool.and_eq_true, Bool.or_eq_true, Bool.and_eq_false_iff, Bool.or_eq_false_iff, Bool.not_eq_true', Bool.not_eq_false', Int.toNat_natCast, Int.ofNat_lt, Int.ofNat_le, not_true_eq_false, not_false_eq_true, or_false, false_or, and_true, true_and, or_true, true_or, and_false, false_and, InK, Path.imp, List.length_replicate, List.length_set, List.length_append, List.length_cons, List.length_nil] at *); omega)) | (refine app_le rfl ?_; omega)))

theorem runT_drop {g : List Int} {i : Nat} : ∀ {k : Nat}, i < k → k ≤ g.length → (∀ j, i < j → j < k → g.getD j 0 = g.getD (j - 1) 0 + 1) → runT (g.getD i 0) (g.drop (i + 1)) = (k - 1 - i) + runT (g.getD (k - 1) 0) (g.drop k)
  | 0, h, _, _ => by omega
  | k + 1, h, hk, hj => by
    by_cases e : i = k
    · subst e; simp
    · rw [runT_drop (k := k) (by omega) (by omega) fun j h1 h2 => hj j h1 (by omega), drop_getD 0 (by omega : k < g.length)]
      simp only [runT]
      rw [if_pos (hj k (by omega) (by omega))]
      simp only [Nat.add_sub_cancel]
      omega
theorem runT_stop {g : List Int} {k : Nat} {a : Int} (h : ¬ (k < g.length ∧ g.getD k 0 = a + 1)) : runT a (g.drop k) = 0 := by
  by_cases hk : k < g.length
  · rw [drop_getD 0 hk]
    simp only [runT]
    rw [if_neg fun e => h ⟨hk, e⟩]
  · rw [List.drop_of_length_le (by omega)]; rfl
theorem aloneF_fuel {fl : List Int} {gs : List (List Int)} : ∀ {k m : Nat} {g : List Int}, g.length ≤ k → g.length ≤ m → aloneF fl gs k g = aloneF fl gs m g
  | k, m, [], _, _ => by cases k <;> cases m <;> rfl
  | 0, _, a :: r, h, _ => by simp at h
  | _, 0, a :: r, _, h => by simp at h
  | k + 1, m + 1, a :: r, h1, h2 => by
    simp only [aloneF]
    simp only [List.length_cons] at h1 h2
    rw [aloneF_fuel (k := k) (m := m) (by rw [List.length_drop]; omega) (by rw [List.length_drop]; omega)]
theorem aloneL_cons {fl : List Int} {gs : List (List Int)} {a : Int} {r : List Int} : aloneL fl gs (a :: r) = rowV fl gs a.toNat (runT a r + 1) + aloneL fl gs (r.drop (runT a r)) := by
  simp only [aloneL, aloneF, List.length_cons]
  rw [aloneF_fuel (k := r.length) (m := (r.drop (runT a r)).length) (by rw [List.length_drop]; omega) (Nat.le_refl _)]
theorem OkG.part {gs : List (List Int)} (h : OkG gs) (a b : Nat) : OkG ((gs.take b).drop a) := (h.take b).drop a
theorem Riv.part {fl : List Int} {gs : List (List Int)} (h : Riv fl gs) (a b : Nat) : Riv ((fl.take b).drop a) ((gs.take b).drop a) := by
  refine ⟨h.g.part a b, fun i hi => ?_, by simp [h.len], fun i hi => ?_⟩
  · rw [List.length_drop, List.length_take] at hi
    rw [getD_drop, getD_take (by omega)]
    exact h.d _ (by omega)
  · rw [List.length_drop, List.length_take] at hi
    rw [getD_drop, getD_take (by omega)]
    exact h.val _ (by omega)
theorem rowV_bound {fl : List Int} {gs : List (List Int)} (h : OkG gs) (a n : Nat) : 0 ≤ rowV fl gs a n ∧ rowV fl gs a n ≤ 160000 := by
  have h1 := worth_bound (gs := (gs.take (a + n)).drop a) (us := bestL ((fl.take (a + n)).drop a) ((gs.take (a + n)).drop a)) (h.part _ _)
  have h2 := (h.part a (a + n)).len
  simp only [rowV, val]
  omega
theorem aloneF_bound {fl : List Int} {gs : List (List Int)} (h : OkG gs) : ∀ {k : Nat} {g : List Int}, 0 ≤ aloneF fl gs k g ∧ aloneF fl gs k g ≤ 160000 * g.length
  | 0, g => by simp only [aloneF]; omega
  | k + 1, [] => by simp [aloneF]
  | k + 1, a :: r => by
    have h1 := rowV_bound (fl := fl) h a.toNat (runT a r + 1)
    have h2 := aloneF_bound (fl := fl) h (k := k) (g := r.drop (runT a r))
    rw [List.length_drop] at h2
    simp only [aloneF, List.length_cons]
    omega
set_option maxHeartbeats 2000000 in
theorem Alone_ref (fl : List Int) (gs : List (List Int)) (g : List Int) (h : Riv fl gs) (hg : Grp fl.length g) :
    FnAt Try.prog false 37 [.arr (.int .i64) fl, .arr (.sl (.int .i64)) gs, .arr (.int .i64) g] (.lit (.int .i64 (aloneL fl gs g))) [] := by
  have hG := h.g
  have hl := h.len
  have hl8 := hG.len
  have hgl : g.length ≤ fl.length := hg.len
  refine FnAt.of_body tys_ok Try.func37 (by rfl) rfl Try.ntmps37 (by rw [Try.results37]) (by simp) ?_
  
  repeat' (first
    | refine W.seq ?_
    | refine W.block ?_
    | (refine W.region tys_ok [] ?_; conv => whnf)
    | (refine W.drawAll tys_ok [] mixed rfl ?_; conv => whnf)
    | (refine W.ret ?_; conv => whnf)
    | (refine W.skip ?_; conv => whnf)
    | (refine W.exit ?_; conv => whnf)
    | (refine W.cond rfl (fun hb => ?_) (fun hb => ?_) <;> (try simp only [minL, maxL, pickB, getD_int, getD_sl, getD_bool, len_int, len_sl, len_bool, decide_eq_true_eq, decide_eq_false_iff_not, Bool.and_eq_true, Bool.or_eq_true, Bool.and_eq_false_iff, Bool.or_eq_false_iff, Bool.not_eq_true', Bool.not_eq_false', Int.toNat_natCast, Int.ofNat_lt, Int.ofNat_le, not_true_eq_false, not_false_eq_true, or_false, false_or, and_true, true_and, or_true, true_or, and_false, false_and] at hb) <;> (try (first | (cases hb; done) | exact absurd hb (by decide) | (exfalso; omega))))
    | ((with_reducible refine And.intro ?_ ?_); (focus ((repeat' (first | (with_reducible rfl) | (with_reducible refine And.intro ?_ ?_) | omega | rfl | exact Or.inl rfl | exact Or.inr rfl | (focus ((try simp only [minL, maxL, pickB, getD_int, getD_sl, getD_bool, len_int, len_sl, len_bool, decide_eq_true_eq, decide_eq_false_iff_not, Bool.and_eq_true, Bool.or_eq_true, Bool.and_eq_false_iff, Bool.or_eq_false_iff, Bool.not_eq_true', Bool.not_eq_false', Int.toNat_natCast, Int.ofNat_lt, Int.ofNat_le, not_true_eq_false, not_false_eq_true, or_false, false_or, and_true, true_and, or_true, true_or, and_false, false_and, InK, Path.imp, List.length_replicate, List.length_set, List.length_append, List.length_cons, List.length_nil] at *); omega)) | (refine app_le rfl ?_; omega))); done)); (conv => whnf))
    | ((with_reducible refine And.intro (Side.out ?_) ?_); rotate_left; (conv => whnf))
    | (refine Exists.intro _ (And.intro rfl (And.intro rfl (And.intro ?_ ?_))) <;> (conv => whnf) <;> repeat' (first
    | exact trivial
    | rfl
    | (refine And.intro (fun h => h) (Or.inl ?_))
    | (refine And.intro (fun _ => rfl) (Or.inl ?_))
    | (refine And.intro (fun h => Bool.noConfusion h) (Or.inl ?_))
    | (with_reducible refine And.intro (fun _ => rfl) ?_)
    | ((with_reducible refine And.intro ?_ ?_) <;> conv => whnf)
    | (refine congrArg (Value.int _) ?_)
    | (refine congrArg (SV.arr _) ?_)
    | (refine congrArg Value.bool ?_)))); all_goals (try unfold Side)
  refine W.loop (fun x : Nat × Int => ⟨[(0, .st false (.arr (.int .i64) fl)), (1, .st false (.arr (.sl (.int .i64)) gs)), (2, .st false (.arr (.int .i64) g)), (7, .lit (.int .i64 x.2)), (8, .lit (.int .i64 x.1))], []⟩)
    (fun x => x.1 ≤ g.length ∧ 0 ≤ x.2 ∧ x.2 ≤ 160000 * x.1 ∧ x.2 + aloneL fl gs (g.drop x.1) = aloneL fl gs g) (fun x => g.length - x.1) (0, 0) ?_ ?_
  · refine ⟨⟨Nat.zero_le _, Int.le_refl _, Int.le_refl _, by simp⟩, ?_⟩
    refine ⟨rfl, ?_, ?_⟩ <;> (conv => whnf) <;> repeat' (first
    | exact trivial
    | rfl
    | (refine And.intro (fun h => h) (Or.inl ?_))
    | (refine And.intro (fun _ => rfl) (Or.inl ?_))
    | (refine And.intro (fun h => Bool.noConfusion h) (Or.inl ?_))
    | (with_reducible refine And.intro (fun _ => rfl) ?_)
    | ((with_reducible refine And.intro ?_ ?_) <;> conv => whnf)
    | (refine congrArg (Value.int _) ?_)
    | (refine congrArg (SV.arr _) ?_)
    | (refine congrArg Value.bool ?_))
  · rintro ⟨i, s⟩ ⟨h1, h2, h3, h4⟩
    dsimp only at h1 h2 h3 h4 ⊢
    by_cases hi : i < g.length
    · repeat' (first
    | refine W.seq ?_
    | refine W.block ?_
    | (refine W.region tys_ok [] ?_; conv => whnf)
    | (refine W.drawAll tys_ok [] mixed rfl ?_; conv => whnf)
    | (refine W.ret ?_; conv => whnf)
    | (refine W.skip ?_; conv => whnf)
    | (refine W.exit ?_; conv => whnf)
    | (refine W.cond rfl (fun hb => ?_) (fun hb => ?_) <;> (try simp only [minL, maxL, pickB, getD_int, getD_sl, getD_bool, len_int, len_sl, len_bool, decide_eq_true_eq, decide_eq_false_iff_not, Bool.and_eq_true, Bool.or_eq_true, Bool.and_eq_false_iff, Bool.or_eq_false_iff, Bool.not_eq_true', Bool.not_eq_false', Int.toNat_natCast, Int.ofNat_lt, Int.ofNat_le, not_true_eq_false, not_false_eq_true, or_false, false_or, and_true, true_and, or_true, true_or, and_false, false_and] at hb) <;> (try (first | (cases hb; done) | exact absurd hb (by decide) | (exfalso; omega))))
    | ((with_reducible refine And.intro ?_ ?_); (focus ((repeat' (first | (with_reducible rfl) | (with_reducible refine And.intro ?_ ?_) | omega | rfl | exact Or.inl rfl | exact Or.inr rfl | (focus ((try simp only [minL, maxL, pickB, getD_int, getD_sl, getD_bool, len_int, len_sl, len_bool, decide_eq_true_eq, decide_eq_false_iff_not, Bool.and_eq_true, Bool.or_eq_true, Bool.and_eq_false_iff, Bool.or_eq_false_iff, Bool.not_eq_true', Bool.not_eq_false', Int.toNat_natCast, Int.ofNat_lt, Int.ofNat_le, not_true_eq_false, not_false_eq_true, or_false, false_or, and_true, true_and, or_true, true_or, and_false, false_and, InK, Path.imp, List.length_replicate, List.length_set, List.length_append, List.length_cons, List.length_nil] at *); omega)) | (refine app_le rfl ?_; omega))); done)); (conv => whnf))
    | ((with_reducible refine And.intro (Side.out ?_) ?_); rotate_left; (conv => whnf))
    | (refine Exists.intro _ (And.intro rfl (And.intro rfl (And.intro ?_ ?_))) <;> (conv => whnf) <;> repeat' (first
    | exact trivial
    | rfl
    | (refine And.intro (fun h => h) (Or.inl ?_))
    | (refine And.intro (fun _ => rfl) (Or.inl ?_))
    | (refine And.intro (fun h => Bool.noConfusion h) (Or.inl ?_))
    | (with_reducible refine And.intro (fun _ => rfl) ?_)
    | ((with_reducible refine And.intro ?_ ?_) <;> conv => whnf)
    | (refine congrArg (Value.int _) ?_)
    | (refine congrArg (SV.arr _) ?_)
    | (refine congrArg Value.bool ?_)))); all_goals (try unfold Side)
      all_goals try (repeat' (first | (with_reducible rfl) | (with_reducible refine And.intro ?_ ?_) | omega | rfl | exact Or.inl rfl | exact Or.inr rfl | (focus ((try simp only [minL, maxL, pickB, getD_int, getD_sl, getD_bool, len_int, len_sl, len_bool, decide_eq_true_eq, decide_eq_false_iff_not, Bool.and_eq_true, Bool.or_eq_true, Bool.and_eq_false_iff, Bool.or_eq_false_iff, Bool.not_eq_true', Bool.not_eq_false', Int.toNat_natCast, Int.ofNat_lt, Int.ofNat_le, not_true_eq_false, not_false_eq_true, or_false, false_or, and_true, true_and, or_true, true_or, and_false, false_and, InK, Path.imp, List.length_replicate, List.length_set, List.length_append, List.length_cons, List.length_nil] at *); omega)) | (refine app_le rfl ?_; omega)))
      refine W.loop (fun k : Nat => ⟨[(0, .st false (.arr (.int .i64) fl)), (1, .st false (.arr (.sl (.int .i64)) gs)), (2, .st false (.arr (.int .i64) g)), (7, .lit (.int .i64 s)), (8, .lit (.int .i64 i)), (9, .lit (.int .i64 k))], []⟩)
        (fun k => i < k ∧ k ≤ g.length ∧ ∀ j, i < j → j < k → g.getD j 0 = g.getD (j - 1) 0 + 1) (fun k => g.length - k) (i + 1) ?_ ?_
      · refine ⟨⟨by omega, by omega, fun j h1 h2 => by omega⟩, ?_⟩
        refine ⟨rfl, ?_, ?_⟩ <;> (conv => whnf) <;> repeat' (first
    | exact trivial
    | rfl
    | (refine And.intro (fun h => h) (Or.inl ?_))
    | (refine And.intro (fun _ => rfl) (Or.inl ?_))
    | (refine And.intro (fun h => Bool.noConfusion h) (Or.inl ?_))
    | (with_reducible refine And.intro (fun _ => rfl) ?_)
    | ((with_reducible refine And.intro ?_ ?_) <;> conv => whnf)
    | (refine congrArg (Value.int _) ?_)
    | (refine congrArg (SV.arr _) ?_)
    | (refine congrArg Value.bool ?_))
      · rintro k ⟨hk1, hk2, hk3⟩
        have e1 : ((k : Int) - 1).toNat = k - 1 := by omega
        have hv1 := hg.val (k - 1) (by omega)
        have hv1' := hv1
        rw [← e1] at hv1'
        have hvi := hg.val i (by omega)
        by_cases hc : k < g.length ∧ g.getD k 0 = g.getD ((k : Int) - 1).toNat 0 + 1
        · obtain ⟨hc1, hc2⟩ := hc
          repeat' (first
    | refine W.seq ?_
    | refine W.block ?_
    | (refine W.region tys_ok [] ?_; conv => whnf)
    | (refine W.drawAll tys_ok [] mixed rfl ?_; conv => whnf)
    | (refine W.ret ?_; conv => whnf)
    | (refine W.skip ?_; conv => whnf)
    | (refine W.exit ?_; conv => whnf)
    | (refine W.cond rfl (fun hb => ?_) (fun hb => ?_) <;> (try simp only [minL, maxL, pickB, getD_int, getD_sl, getD_bool, len_int, len_sl, len_bool, decide_eq_true_eq, decide_eq_false_iff_not, Bool.and_eq_true, Bool.or_eq_true, Bool.and_eq_false_iff, Bool.or_eq_false_iff, Bool.not_eq_true', Bool.not_eq_false', Int.toNat_natCast, Int.ofNat_lt, Int.ofNat_le, not_true_eq_false, not_false_eq_true, or_false, false_or, and_true, true_and, or_true, true_or, and_false, false_and] at hb) <;> (try (first | (cases hb; done) | exact absurd hb (by decide) | (exfalso; omega))))
    | ((with_reducible refine And.intro ?_ ?_); (focus ((repeat' (first | (with_reducible rfl) | (with_reducible refine And.intro ?_ ?_) | omega | rfl | exact Or.inl rfl | exact Or.inr rfl | (focus ((try simp only [minL, maxL, pickB, getD_int, getD_sl, getD_bool, len_int, len_sl, len_bool, decide_eq_true_eq, decide_eq_false_iff_not, Bool.and_eq_true, Bool.or_eq_true, Bool.and_eq_false_iff, Bool.or_eq_false_iff, Bool.not_eq_true', Bool.not_eq_false', Int.toNat_natCast, Int.ofNat_lt, Int.ofNat_le, not_true_eq_false, not_false_eq_true, or_false, false_or, and_true, true_and, or_true, true_or, and_false, false_and, InK, Path.imp, List.length_replicate, List.length_set, List.length_append, List.length_cons, List.length_nil] at *); omega)) | (refine app_le rfl ?_; omega))); done)); (conv => whnf))
    | ((with_reducible refine And.intro (Side.out ?_) ?_); rotate_left; (conv => whnf))
    | (refine Exists.intro _ (And.intro rfl (And.intro rfl (And.intro ?_ ?_))) <;> (conv => whnf) <;> repeat' (first
    | exact trivial
    | rfl
    | (refine And.intro (fun h => h) (Or.inl ?_))
    | (refine And.intro (fun _ => rfl) (Or.inl ?_))
    | (refine And.intro (fun h => Bool.noConfusion h) (Or.inl ?_))
    | (with_reducible refine And.intro (fun _ => rfl) ?_)
    | ((with_reducible refine And.intro ?_ ?_) <;> conv => whnf)
    | (refine congrArg (Value.int _) ?_)
    | (refine congrArg (SV.arr _) ?_)
    | (refine congrArg Value.bool ?_)))); all_goals (try unfold Side)
          all_goals try (repeat' (first | (with_reducible rfl) | (with_reducible refine And.intro ?_ ?_) | omega | rfl | exact Or.inl rfl | exact Or.inr rfl | (focus ((try simp only [minL, maxL, pickB, getD_int, getD_sl, getD_bool, len_int, len_sl, len_bool, decide_eq_true_eq, decide_eq_false_iff_not, Bool.and_eq_true, Bool.or_eq_true, Bool.and_eq_false_iff, Bool.or_eq_false_iff, Bool.not_eq_true', Bool.not_eq_false', Int.toNat_natCast, Int.ofNat_lt, Int.ofNat_le, not_true_eq_false, not_false_eq_true, or_false, false_or, and_true, true_and, or_true, true_or, and_false, false_and, InK, Path.imp, List.length_replicate, List.length_set, List.length_append, List.length_cons, List.length_nil] at *); omega)) | (refine app_le rfl ?_; omega)))
          refine ⟨k + 1, ⟨⟨by omega, by omega, fun j h1 h2 => ?_⟩, by omega⟩, ?_⟩
          · by_cases e : j = k
            · subst e; rw [← e1]; exact hc2
            · exact hk3 j h1 (by omega)
          · refine ⟨rfl, ?_, ?_⟩ <;> (conv => whnf) <;> repeat' (first
    | exact trivial
    | rfl
    | (refine And.intro (fun h => h) (Or.inl ?_))
    | (refine And.intro (fun _ => rfl) (Or.inl ?_))
    | (refine And.intro (fun h => Bool.noConfusion h) (Or.inl ?_))
    | (with_reducible refine And.intro (fun _ => rfl) ?_)
    | ((with_reducible refine And.intro ?_ ?_) <;> conv => whnf)
    | (refine congrArg (Value.int _) ?_)
    | (refine congrArg (SV.arr _) ?_)
    | (refine congrArg Value.bool ?_))
        · have hrun := runT_drop hk1 hk2 hk3
          rw [runT_stop (a := g.getD (k - 1) 0) (by rw [← e1]; exact hc)] at hrun
          have hB := Best_ref ((fl.take (g.getD ((k : Int) - 1).toNat 0 + 1).toNat).drop (g.getD i 0).toNat) ((gs.take (g.getD ((k : Int) - 1).toNat 0 + 1).toNat).drop (g.getD i 0).toNat) (h.part _ _)
          have hrb := rowV_bound (fl := fl) hG (g.getD i 0).toNat (k - i)
          have hmono : g.getD i 0 + ((k - i : Nat) : Int) = g.getD (k - 1) 0 + 1 := by
            have : ∀ m, i ≤ m → m < k → g.getD m 0 = g.getD i 0 + ((m - i : Nat) : Int) := by
              intro m
              induction m with
              | zero => intro h1 h2; have : i = 0 := by omega
                        subst this; simp
              | succ m ih =>
                intro h1 h2
                by_cases e : i = m + 1
                · subst e; simp
                · have h5 := hk3 (m + 1) (by omega) h2
                  have h6 := ih (by omega) (by omega)
                  simp only [Nat.add_sub_cancel] at h5
                  omega
            have := this (k - 1) (by omega) (by omega)
            omega
          have hmono' := hmono
          rw [← e1] at hmono'
          have e2 : val ((fl.take (g.getD ((k : Int) - 1).toNat 0 + 1).toNat).drop (g.getD i 0).toNat) ((gs.take (g.getD ((k : Int) - 1).toNat 0 + 1).toNat).drop (g.getD i 0).toNat) = rowV fl gs (g.getD i 0).toNat (k - i) := by
            rw [e1, rowV, show (g.getD i 0).toNat + (k - i) = (g.getD (k - 1) 0 + 1).toNat from by omega]
          rw [e2] at hB
          have h4' : rowV fl gs (g.getD i 0).toNat (k - i) + aloneL fl gs (g.drop k) = aloneL fl gs (g.drop i) := by
            rw [drop_getD 0 hi, aloneL_cons, hrun, List.drop_drop, show k - 1 - i + 0 + 1 = k - i from by omega, show i + 1 + (k - 1 - i + 0) = k from by omega]
          repeat' (first
    | refine W.seq ?_
    | refine W.block ?_
    | (refine W.region tys_ok [] ?_; conv => whnf)
    | (refine W.drawAll tys_ok [] mixed rfl ?_; conv => whnf)
    | (refine W.ret ?_; conv => whnf)
    | (refine W.skip ?_; conv => whnf)
    | (refine W.exit ?_; conv => whnf)
    | (refine ⟨false, _, _, _, _, rfl, Path.imp_of (hB), rfl, rfl, rfl, ?_⟩; conv => whnf)
    | (refine W.cond rfl (fun hb => ?_) (fun hb => ?_) <;> (try simp only [minL, maxL, pickB, getD_int, getD_sl, getD_bool, len_int, len_sl, len_bool, decide_eq_true_eq, decide_eq_false_iff_not, Bool.and_eq_true, Bool.or_eq_true, Bool.and_eq_false_iff, Bool.or_eq_false_iff, Bool.not_eq_true', Bool.not_eq_false', Int.toNat_natCast, Int.ofNat_lt, Int.ofNat_le, not_true_eq_false, not_false_eq_true, or_false, false_or, and_true, true_and, or_true, true_or, and_false, false_and] at hb) <;> (try (first | (cases hb; done) | exact absurd hb (by decide) | (exfalso; omega))))
    | ((with_reducible refine And.intro ?_ ?_); (focus ((repeat' (first | (with_reducible rfl) | (with_reducible refine And.intro ?_ ?_) | omega | rfl | exact Or.inl rfl | exact Or.inr rfl | (focus ((try simp only [minL, maxL, pickB, getD_int, getD_sl, getD_bool, len_int, len_sl, len_bool, decide_eq_true_eq, decide_eq_false_iff_not, Bool.and_eq_true, Bool.or_eq_true, Bool.and_eq_false_iff, Bool.or_eq_false_iff, Bool.not_eq_true', Bool.not_eq_false', Int.toNat_natCast, Int.ofNat_lt, Int.ofNat_le, not_true_eq_false, not_false_eq_true, or_false, false_or, and_true, true_and, or_true, true_or, and_false, false_and, InK, Path.imp, List.length_replicate, List.length_set, List.length_append, List.length_cons, List.length_nil] at *); omega)) | (refine app_le rfl ?_; omega))); done)); (conv => whnf))
    | ((with_reducible refine And.intro (Side.out ?_) ?_); rotate_left; (conv => whnf))
    | (refine Exists.intro _ (And.intro rfl (And.intro rfl (And.intro ?_ ?_))) <;> (conv => whnf) <;> repeat' (first
    | exact trivial
    | rfl
    | (refine And.intro (fun h => h) (Or.inl ?_))
    | (refine And.intro (fun _ => rfl) (Or.inl ?_))
    | (refine And.intro (fun h => Bool.noConfusion h) (Or.inl ?_))
    | (with_reducible refine And.intro (fun _ => rfl) ?_)
    | ((with_reducible refine And.intro ?_ ?_) <;> conv => whnf)
    | (refine congrArg (Value.int _) ?_)
    | (refine congrArg (SV.arr _) ?_)
    | (refine congrArg Value.bool ?_)))); all_goals (try unfold Side)
          all_goals try (repeat' (first | (with_reducible rfl) | (with_reducible refine And.intro ?_ ?_) | omega | rfl | exact Or.inl rfl | exact Or.inr rfl | (focus ((try simp only [minL, maxL, pickB, getD_int, getD_sl, getD_bool, len_int, len_sl, len_bool, decide_eq_true_eq, decide_eq_false_iff_not, Bool.and_eq_true, Bool.or_eq_true, Bool.and_eq_false_iff, Bool.or_eq_false_iff, Bool.not_eq_true', Bool.not_eq_false', Int.toNat_natCast, Int.ofNat_lt, Int.ofNat_le, not_true_eq_false, not_false_eq_true, or_false, false_or, and_true, true_and, or_true, true_or, and_false, false_and, InK, Path.imp, List.length_replicate, List.length_set, List.length_append, List.length_cons, List.length_nil] at *); omega)) | (refine app_le rfl ?_; omega)))
          refine ⟨(k, s + rowV fl gs (g.getD i 0).toNat (k - i)), ⟨⟨hk2, ?_, ?_, ?_⟩, ?_⟩, ?_⟩
          · dsimp only; omega
          · dsimp only; omega
          · dsimp only; omega
          · dsimp only; omega
          · refine ⟨rfl, ?_, ?_⟩ <;> (conv => whnf) <;> repeat' (first
    | exact trivial
    | rfl
    | (refine And.intro (fun h => h) (Or.inl ?_))
    | (refine And.intro (fun _ => rfl) (Or.inl ?_))
    | (refine And.intro (fun h => Bool.noConfusion h) (Or.inl ?_))
    | (with_reducible refine And.intro (fun _ => rfl) ?_)
    | ((with_reducible refine And.intro ?_ ?_) <;> conv => whnf)
    | (refine congrArg (Value.int _) ?_)
    | (refine congrArg (SV.arr _) ?_)
    | (refine congrArg Value.bool ?_))
    · have hie : i = g.length := by omega
      subst hie
      rw [List.drop_length, show aloneL fl gs [] = 0 from rfl] at h4
      repeat' (first
    | refine W.seq ?_
    | refine W.block ?_
    | (refine W.region tys_ok [] ?_; conv => whnf)
    | (refine W.drawAll tys_ok [] mixed rfl ?_; conv => whnf)
    | (refine W.ret ?_; conv => whnf)
    | (refine W.skip ?_; conv => whnf)
    | (refine W.exit ?_; conv => whnf)
    | (refine W.cond rfl (fun hb => ?_) (fun hb => ?_) <;> (try simp only [minL, maxL, pickB, getD_int, getD_sl, getD_bool, len_int, len_sl, len_bool, decide_eq_true_eq, decide_eq_false_iff_not, Bool.and_eq_true, Bool.or_eq_true, Bool.and_eq_false_iff, Bool.or_eq_false_iff, Bool.not_eq_true', Bool.not_eq_false', Int.toNat_natCast, Int.ofNat_lt, Int.ofNat_le, not_true_eq_false, not_false_eq_true, or_false, false_or, and_true, true_and, or_true, true_or, and_false, false_and] at hb) <;> (try (first | (cases hb; done) | exact absurd hb (by decide) | (exfalso; omega))))
    | ((with_reducible refine And.intro ?_ ?_); (focus ((repeat' (first | (with_reducible rfl) | (with_reducible refine And.intro ?_ ?_) | omega | rfl | exact Or.inl rfl | exact Or.inr rfl | (focus ((try simp only [minL, maxL, pickB, getD_int, getD_sl, getD_bool, len_int, len_sl, len_bool, decide_eq_true_eq, decide_eq_false_iff_not, Bool.and_eq_true, Bool.or_eq_true, Bool.and_eq_false_iff, Bool.or_eq_false_iff, Bool.not_eq_true', Bool.not_eq_false', Int.toNat_natCast, Int.ofNat_lt, Int.ofNat_le, not_true_eq_false, not_false_eq_true, or_false, false_or, and_true, true_and, or_true, true_or, and_false, false_and, InK, Path.imp, List.length_replicate, List.length_set, List.length_append, List.length_cons, List.length_nil] at *); omega)) | (refine app_le rfl ?_; omega))); done)); (conv => whnf))
    | ((with_reducible refine And.intro (Side.out ?_) ?_); rotate_left; (conv => whnf))
    | (refine Exists.intro _ (And.intro rfl (And.intro rfl (And.intro ?_ ?_))) <;> (conv => whnf) <;> repeat' (first
    | exact trivial
    | rfl
    | (refine And.intro (fun h => h) (Or.inl ?_))
    | (refine And.intro (fun _ => rfl) (Or.inl ?_))
    | (refine And.intro (fun h => Bool.noConfusion h) (Or.inl ?_))
    | (with_reducible refine And.intro (fun _ => rfl) ?_)
    | ((with_reducible refine And.intro ?_ ?_) <;> conv => whnf)
    | (refine congrArg (Value.int _) ?_)
    | (refine congrArg (SV.arr _) ?_)
    | (refine congrArg Value.bool ?_)))); all_goals (try unfold Side)
      all_goals try (repeat' (first | (with_reducible rfl) | (with_reducible refine And.intro ?_ ?_) | omega | rfl | exact Or.inl rfl | exact Or.inr rfl | (focus ((try simp only [minL, maxL, pickB, getD_int, getD_sl, getD_bool, len_int, len_sl, len_bool, decide_eq_true_eq, decide_eq_false_iff_not, Bool.and_eq_true, Bool.or_eq_true, Bool.and_eq_false_iff, Bool.or_eq_false_iff, Bool.not_eq_true', Bool.not_eq_false', Int.toNat_natCast, Int.ofNat_lt, Int.ofNat_le, not_true_eq_false, not_false_eq_true, or_false, false_or, and_true, true_and, or_true, true_or, and_false, false_and, InK, Path.imp, List.length_replicate, List.length_set, List.length_append, List.length_cons, List.length_nil] at *); omega)) | (refine app_le rfl ?_; omega)))
theorem range_grp {n m : Nat} (h : m ≤ n) : Grp n ((List.range m).map fun (i : Nat) => (i : Int)) := by
  have e : ∀ i, i < m → ((List.range m).map fun (i : Nat) => (i : Int)).getD i 0 = i := fun i hi => by
    rw [List.getD_eq_getElem?_getD, List.getElem?_map, List.getElem?_range hi]; rfl
  refine ⟨fun i hi => ?_, fun i hi => ?_⟩
  · simp at hi; rw [e i hi]; omega
  · simp at hi; rw [e i (by omega), e (i + 1) hi]; omega
theorem aloneL_range {fl : List Int} {gs : List (List Int)} {m : Nat} (hm : 0 < m) : aloneL fl gs ((List.range m).map fun (i : Nat) => (i : Int)) = val (fl.take m) (gs.take m) := by
  obtain ⟨g, hg⟩ : ∃ g : List Int, g = (List.range m).map fun (i : Nat) => (i : Int) := ⟨_, rfl⟩
  have hl : g.length = m := by rw [hg]; simp
  have e : ∀ i, i < m → g.getD i 0 = i := fun i hi => by
    rw [hg, List.getD_eq_getElem?_getD, List.getElem?_map, List.getElem?_range hi]; rfl
  rw [← hg]
  have h1 := runT_drop (g := g) (i := 0) (k := m) hm (by omega) fun j h1 h2 => by rw [e j h2, e (j - 1) (by omega)]; omega
  rw [List.drop_of_length_le (by omega : g.length ≤ m)] at h1
  simp only [runT] at h1
  have h2 : g = g.getD 0 0 :: g.drop 1 := by conv => lhs; rw [← List.drop_zero (l := g), drop_getD 0 (by omega)]
  rw [h2, aloneL_cons, h1, e 0 hm, List.drop_drop, List.drop_of_length_le (by omega)]
  simp only [aloneL, aloneF, rowV, List.length_nil]
  rw [show Int.toNat ((0 : Nat) : Int) + (m - 1 - 0 + 0 + 1) = m from by simp; omega, show Int.toNat ((0 : Nat) : Int) = 0 from rfl, List.drop_zero, List.drop_zero]
  omega
theorem aloneL_last {fl : List Int} {gs : List (List Int)} (m : Nat) : aloneL fl gs ((List.range m).map fun (i : Nat) => (i : Int)) = lastV fl gs m := by
  cases m with
  | zero => rfl
  | succ m => exact aloneL_range (by omega)
set_option maxHeartbeats 2000000 in
theorem Shares_ref (fl : List Int) (gs : List (List Int)) (h : Riv fl gs) :
    FnAt Try.prog false 31 [.arr (.int .i64) fl, .arr (.sl (.int .i64)) gs] (.own 0) [(0, .row 3 (.int .i64) true (sharesT fl gs fl.length))] := by
  have hG := h.g
  have hl := h.len
  have hl8 := hG.len
  refine FnAt.of_body tys_ok Try.func31 (by rfl) rfl Try.ntmps31 (by rw [Try.results31]) (by simp) ?_
  
  repeat' (first
    | refine W.seq ?_
    | refine W.block ?_
    | (refine W.region tys_ok [] ?_; conv => whnf)
    | (refine W.drawAll tys_ok [] mixed rfl ?_; conv => whnf)
    | (refine W.ret ?_; conv => whnf)
    | (refine W.skip ?_; conv => whnf)
    | (refine W.exit ?_; conv => whnf)
    | (refine W.cond rfl (fun hb => ?_) (fun hb => ?_) <;> (try simp only [minL, maxL, pickB, getD_int, getD_sl, getD_bool, len_int, len_sl, len_bool, decide_eq_true_eq, decide_eq_false_iff_not, Bool.and_eq_true, Bool.or_eq_true, Bool.and_eq_false_iff, Bool.or_eq_false_iff, Bool.not_eq_true', Bool.not_eq_false', Int.toNat_natCast, Int.ofNat_lt, Int.ofNat_le, not_true_eq_false, not_false_eq_true, or_false, false_or, and_true, true_and, or_true, true_or, and_false, false_and] at hb) <;> (try (first | (cases hb; done) | exact absurd hb (by decide) | (exfalso; omega))))
    | ((with_reducible refine And.intro ?_ ?_); (focus ((repeat' (first | (with_reducible rfl) | (with_reducible refine And.intro ?_ ?_) | omega | rfl | exact Or.inl rfl | exact Or.inr rfl | (focus ((try simp only [minL, maxL, pickB, getD_int, getD_sl, getD_bool, len_int, len_sl, len_bool, decide_eq_true_eq, decide_eq_false_iff_not, Bool.and_eq_true, Bool.or_eq_true, Bool.and_eq_false_iff, Bool.or_eq_false_iff, Bool.not_eq_true', Bool.not_eq_false', Int.toNat_natCast, Int.ofNat_lt, Int.ofNat_le, not_true_eq_false, not_false_eq_true, or_false, false_or, and_true, true_and, or_true, true_or, and_false, false_and, InK, Path.imp, List.length_replicate, List.length_set, List.length_append, List.length_cons, List.length_nil] at *); omega)) | (refine app_le rfl ?_; omega))); done)); (conv => whnf))
    | ((with_reducible refine And.intro (Side.out ?_) ?_); rotate_left; (conv => whnf))
    | (refine Exists.intro _ (And.intro rfl (And.intro rfl (And.intro ?_ ?_))) <;> (conv => whnf) <;> repeat' (first
    | exact trivial
    | rfl
    | (refine And.intro (fun h => h) (Or.inl ?_))
    | (refine And.intro (fun _ => rfl) (Or.inl ?_))
    | (refine And.intro (fun h => Bool.noConfusion h) (Or.inl ?_))
    | (with_reducible refine And.intro (fun _ => rfl) ?_)
    | ((with_reducible refine And.intro ?_ ?_) <;> conv => whnf)
    | (refine congrArg (Value.int _) ?_)
    | (refine congrArg (SV.arr _) ?_)
    | (refine congrArg Value.bool ?_)))); all_goals (try unfold Side)
  refine W.loop (fun i : Nat => ⟨[(0, .st false (.arr (.int .i64) fl)), (1, .st false (.arr (.sl (.int .i64)) gs)), (5, .own 8000), (6, .lit (.int .i64 i))], [(8000, .row 3 (.int .i64) true (sharesT fl gs i))]⟩)
    (fun i => i ≤ fl.length) (fun i => fl.length - i) 0 ?_ ?_
  · refine ⟨Nat.zero_le _, ?_⟩
    refine ⟨rfl, ?_, ?_⟩ <;> (conv => whnf) <;> repeat' (first
    | exact trivial
    | rfl
    | (refine And.intro (fun h => h) (Or.inl ?_))
    | (refine And.intro (fun _ => rfl) (Or.inl ?_))
    | (refine And.intro (fun h => Bool.noConfusion h) (Or.inl ?_))
    | (with_reducible refine And.intro (fun _ => rfl) ?_)
    | ((with_reducible refine And.intro ?_ ?_) <;> conv => whnf)
    | (refine congrArg (Value.int _) ?_)
    | (refine congrArg (SV.arr _) ?_)
    | (refine congrArg Value.bool ?_))
  · intro i hi
    have hsl := sharesT_len (fl := fl) (gs := gs) (i := i)
    have hb1 := lastV_bound (fl := fl) hG (i := i)
    have hb2 := lastV_bound (fl := fl) hG (i := i + 1)
    by_cases hil : i < fl.length
    · have hf1 := First_at (i + 1) (by omega)
      have hf0 := First_at i (by omega)
      have ha1 := Alone_ref fl gs _ h (range_grp (n := fl.length) (m := i + 1) (by omega))
      have ha0 := Alone_ref fl gs _ h (range_grp (n := fl.length) (m := i) (by omega))
      rw [aloneL_last] at ha1 ha0
      have hsl' : @List.length (Ty.int .i64).T (sharesT fl gs i) = i := hsl
      repeat' (first
    | refine W.seq ?_
    | refine W.block ?_
    | (refine W.region tys_ok [] ?_; conv => whnf)
    | (refine W.drawAll tys_ok [] mixed rfl ?_; conv => whnf)
    | (refine W.ret ?_; conv => whnf)
    | (refine W.skip ?_; conv => whnf)
    | (refine W.exit ?_; conv => whnf)
    | (refine ⟨false, _, _, _, _, rfl, Path.imp_of (hf1), rfl, rfl, rfl, ?_⟩; conv => whnf)
    | (refine ⟨false, _, _, _, _, rfl, Path.imp_of (hf0), rfl, rfl, rfl, ?_⟩; conv => whnf)
    | (refine ⟨false, _, _, _, _, rfl, Path.imp_of (ha1), rfl, rfl, rfl, ?_⟩; conv => whnf)
    | (refine ⟨false, _, _, _, _, rfl, Path.imp_of (ha0), rfl, rfl, rfl, ?_⟩; conv => whnf)
    | (refine W.cond rfl (fun hb => ?_) (fun hb => ?_) <;> (try simp only [minL, maxL, pickB, getD_int, getD_sl, getD_bool, len_int, len_sl, len_bool, decide_eq_true_eq, decide_eq_false_iff_not, Bool.and_eq_true, Bool.or_eq_true, Bool.and_eq_false_iff, Bool.or_eq_false_iff, Bool.not_eq_true', Bool.not_eq_false', Int.toNat_natCast, Int.ofNat_lt, Int.ofNat_le, not_true_eq_false, not_false_eq_true, or_false, false_or, and_true, true_and, or_true, true_or, and_false, false_and] at hb) <;> (try (first | (cases hb; done) | exact absurd hb (by decide) | (exfalso; omega))))
    | ((with_reducible refine And.intro ?_ ?_); (focus ((repeat' (first | (with_reducible rfl) | (with_reducible refine And.intro ?_ ?_) | omega | rfl | exact Or.inl rfl | exact Or.inr rfl | (focus ((try simp only [minL, maxL, pickB, getD_int, getD_sl, getD_bool, len_int, len_sl, len_bool, decide_eq_true_eq, decide_eq_false_iff_not, Bool.and_eq_true, Bool.or_eq_true, Bool.and_eq_false_iff, Bool.or_eq_false_iff, Bool.not_eq_true', Bool.not_eq_false', Int.toNat_natCast, Int.ofNat_lt, Int.ofNat_le, not_true_eq_false, not_false_eq_true, or_false, false_or, and_true, true_and, or_true, true_or, and_false, false_and, InK, Path.imp, List.length_replicate, List.length_set, List.length_append, List.length_cons, List.length_nil] at *); omega)) | (refine app_le rfl ?_; omega))); done)); (conv => whnf))
    | ((with_reducible refine And.intro (Side.out ?_) ?_); rotate_left; (conv => whnf))
    | (refine Exists.intro _ (And.intro rfl (And.intro rfl (And.intro ?_ ?_))) <;> (conv => whnf) <;> repeat' (first
    | exact trivial
    | rfl
    | (refine And.intro (fun h => h) (Or.inl ?_))
    | (refine And.intro (fun _ => rfl) (Or.inl ?_))
    | (refine And.intro (fun h => Bool.noConfusion h) (Or.inl ?_))
    | (with_reducible refine And.intro (fun _ => rfl) ?_)
    | ((with_reducible refine And.intro ?_ ?_) <;> conv => whnf)
    | (refine congrArg (Value.int _) ?_)
    | (refine congrArg (SV.arr _) ?_)
    | (refine congrArg Value.bool ?_)))); all_goals (try unfold Side)
      all_goals try (repeat' (first | (with_reducible rfl) | (with_reducible refine And.intro ?_ ?_) | omega | rfl | exact Or.inl rfl | exact Or.inr rfl | (focus ((try simp only [minL, maxL, pickB, getD_int, getD_sl, getD_bool, len_int, len_sl, len_bool, decide_eq_true_eq, decide_eq_false_iff_not, Bool.and_eq_true, Bool.or_eq_true, Bool.and_eq_false_iff, Bool.or_eq_false_iff, Bool.not_eq_true', Bool.not_eq_false', Int.toNat_natCast, Int.ofNat_lt, Int.ofNat_le, not_true_eq_false, not_false_eq_true, or_false, false_or, and_true, true_and, or_true, true_or, and_false, false_and, InK, Path.imp, List.length_replicate, List.length_set, List.length_append, List.length_cons, List.length_nil] at *); omega)) | (refine app_le rfl ?_; omega)))
      refine ⟨i + 1, ⟨by omega, by omega⟩, ?_⟩
      refine ⟨rfl, ?_, ?_⟩ <;> (conv => whnf) <;> repeat' (first
    | exact trivial
    | rfl
    | (refine And.intro (fun h => h) (Or.inl ?_))
    | (refine And.intro (fun _ => rfl) (Or.inl ?_))
    | (refine And.intro (fun h => Bool.noConfusion h) (Or.inl ?_))
    | (with_reducible refine And.intro (fun _ => rfl) ?_)
    | ((with_reducible refine And.intro ?_ ?_) <;> conv => whnf)
    | (refine congrArg (Value.int _) ?_)
    | (refine congrArg (SV.arr _) ?_)
    | (refine congrArg Value.bool ?_))
    · have hie : i = fl.length := by omega
      subst hie
      repeat' (first
    | refine W.seq ?_
    | refine W.block ?_
    | (refine W.region tys_ok [] ?_; conv => whnf)
    | (refine W.drawAll tys_ok [] mixed rfl ?_; conv => whnf)
    | (refine W.ret ?_; conv => whnf)
    | (refine W.skip ?_; conv => whnf)
    | (refine W.exit ?_; conv => whnf)
    | (refine W.cond rfl (fun hb => ?_) (fun hb => ?_) <;> (try simp only [minL, maxL, pickB, getD_int, getD_sl, getD_bool, len_int, len_sl, len_bool, decide_eq_true_eq, decide_eq_false_iff_not, Bool.and_eq_true, Bool.or_eq_true, Bool.and_eq_false_iff, Bool.or_eq_false_iff, Bool.not_eq_true', Bool.not_eq_false', Int.toNat_natCast, Int.ofNat_lt, Int.ofNat_le, not_true_eq_false, not_false_eq_true, or_false, false_or, and_true, true_and, or_true, true_or, and_false, false_and] at hb) <;> (try (first | (cases hb; done) | exact absurd hb (by decide) | (exfalso; omega))))
    | ((with_reducible refine And.intro ?_ ?_); (focus ((repeat' (first | (with_reducible rfl) | (with_reducible refine And.intro ?_ ?_) | omega | rfl | exact Or.inl rfl | exact Or.inr rfl | (focus ((try simp only [minL, maxL, pickB, getD_int, getD_sl, getD_bool, len_int, len_sl, len_bool, decide_eq_true_eq, decide_eq_false_iff_not, Bool.and_eq_true, Bool.or_eq_true, Bool.and_eq_false_iff, Bool.or_eq_false_iff, Bool.not_eq_true', Bool.not_eq_false', Int.toNat_natCast, Int.ofNat_lt, Int.ofNat_le, not_true_eq_false, not_false_eq_true, or_false, false_or, and_true, true_and, or_true, true_or, and_false, false_and, InK, Path.imp, List.length_replicate, List.length_set, List.length_append, List.length_cons, List.length_nil] at *); omega)) | (refine app_le rfl ?_; omega))); done)); (conv => whnf))
    | ((with_reducible refine And.intro (Side.out ?_) ?_); rotate_left; (conv => whnf))
    | (refine Exists.intro _ (And.intro rfl (And.intro rfl (And.intro ?_ ?_))) <;> (conv => whnf) <;> repeat' (first
    | exact trivial
    | rfl
    | (refine And.intro (fun h => h) (Or.inl ?_))
    | (refine And.intro (fun _ => rfl) (Or.inl ?_))
    | (refine And.intro (fun h => Bool.noConfusion h) (Or.inl ?_))
    | (with_reducible refine And.intro (fun _ => rfl) ?_)
    | ((with_reducible refine And.intro ?_ ?_) <;> conv => whnf)
    | (refine congrArg (Value.int _) ?_)
    | (refine congrArg (SV.arr _) ?_)
    | (refine congrArg Value.bool ?_)))); all_goals (try unfold Side)
      all_goals try (repeat' (first | (with_reducible rfl) | (with_reducible refine And.intro ?_ ?_) | omega | rfl | exact Or.inl rfl | exact Or.inr rfl | (focus ((try simp only [minL, maxL, pickB, getD_int, getD_sl, getD_bool, len_int, len_sl, len_bool, decide_eq_true_eq, decide_eq_false_iff_not, Bool.and_eq_true, Bool.or_eq_true, Bool.and_eq_false_iff, Bool.or_eq_false_iff, Bool.not_eq_true', Bool.not_eq_false', Int.toNat_natCast, Int.ofNat_lt, Int.ofNat_le, not_true_eq_false, not_false_eq_true, or_false, false_or, and_true, true_and, or_true, true_or, and_false, false_and, InK, Path.imp, List.length_replicate, List.length_set, List.length_append, List.length_cons, List.length_nil] at *); omega)) | (refine app_le rfl ?_; omega)))
end Go.Proofs.Ytohfemfgnohhdaa
/- Prices, of the program and of the document; WaterShares. No condition. -/
namespace Go.Proofs.Ytohfemfgnohhdaa
open Go Go.Vc
set_option linter.unusedVariables false
set_option linter.unusedSimpArgs false

def pricesT (fl : List Int) (gs : List (List Int)) (n : Nat) : List Int := (List.range n).map fun i => val (fl.set i (fl.getD i 0 + 1)) gs - val fl gs
theorem pricesT_len {fl : List Int} {gs : List (List Int)} {n : Nat} : (pricesT fl gs n).length = n := by simp [pricesT]
theorem pricesT_succ {fl : List Int} {gs : List (List Int)} {n : Nat} : pricesT fl gs n ++ [val (fl.set n (fl.getD n 0 + 1)) gs - val fl gs] = pricesT fl gs (n + 1) := by
  simp [pricesT, List.range_succ]
theorem val_bound {fl : List Int} {gs : List (List Int)} (h : OkG gs) : 0 ≤ val fl gs ∧ val fl gs ≤ 160000 := by
  have h1 := worth_bound (gs := gs) (us := bestL fl gs) h
  have h2 := h.len
  simp only [val]
  omega
/-- A river whose flows are small. -/
theorem Riv.more {fl : List Int} {gs : List (List Int)} (h : Riv fl gs) (hs : ∀ i, i < fl.length → fl.getD i 0 ≤ 30) (i : Nat) : Riv (fl.set i (fl.getD i 0 + 1)) gs := by
  refine ⟨h.g, h.d, by rw [List.length_set]; exact h.len, fun j hj => ?_⟩
  rw [List.length_set] at hj
  by_cases hi : i < fl.length
  · rw [getD_set hi]
    have h1 := h.val j hj
    have h2 := h.val i hi
    have h3 := hs i hi
    split <;> omega
  · rw [List.set_eq_of_length_le (by omega)]
    exact h.val j hj
set_option maxHeartbeats 2000000 in
theorem Prices_ref (fl : List Int) (gs : List (List Int)) (h : Riv fl gs) (hs : ∀ i, i < fl.length → fl.getD i 0 ≤ 30) :
    FnAt Try.prog false 32 [.arr (.int .i64) fl, .arr (.sl (.int .i64)) gs] (.own 0) [(0, .row 3 (.int .i64) true (pricesT fl gs fl.length))] := by
  have hG := h.g
  have hl := h.len
  have hl8 := hG.len
  have hb := val_bound (fl := fl) hG
  have hB := Best_ref fl gs h
  refine FnAt.of_body tys_ok Try.func32 (by rfl) rfl Try.ntmps32 (by rw [Try.results32]) (by simp) ?_
  
  repeat' (first
    | refine W.seq ?_
    | refine W.block ?_
    | (refine W.region tys_ok [] ?_; conv => whnf)
    | (refine W.drawAll tys_ok [] mixed rfl ?_; conv => whnf)
    | (refine W.ret ?_; conv => whnf)
    | (refine W.skip ?_; conv => whnf)
    | (refine W.exit ?_; conv => whnf)
    | (refine ⟨false, _, _, _, _, rfl, Path.imp_of (hB), rfl, rfl, rfl, ?_⟩; conv => whnf)
    | (refine W.cond rfl (fun hb => ?_) (fun hb => ?_) <;> (try simp only [minL, maxL, pickB, getD_int, getD_sl, getD_bool, len_int, len_sl, len_bool, decide_eq_true_eq, decide_eq_false_iff_not, Bool.and_eq_true, Bool.or_eq_true, Bool.and_eq_false_iff, Bool.or_eq_false_iff, Bool.not_eq_true', Bool.not_eq_false', Int.toNat_natCast, Int.ofNat_lt, Int.ofNat_le, not_true_eq_false, not_false_eq_true, or_false, false_or, and_true, true_and, or_true, true_or, and_false, false_and] at hb) <;> (try (first | (cases hb; done) | exact absurd hb (by decide) | (exfalso; omega))))
    | ((with_reducible refine And.intro ?_ ?_); (focus ((repeat' (first | (with_reducible rfl) | (with_reducible refine And.intro ?_ ?_) | omega | rfl | exact Or.inl rfl | exact Or.inr rfl | (focus ((try simp only [minL, maxL, pickB, getD_int, getD_sl, getD_bool, len_int, len_sl, len_bool, decide_eq_true_eq, decide_eq_false_iff_not, Bool.and_eq_true, Bool.or_eq_true, Bool.and_eq_false_iff, Bool.or_eq_false_iff, Bool.not_eq_true', Bool.not_eq_false', Int.toNat_natCast, Int.ofNat_lt, Int.ofNat_le, not_true_eq_false, not_false_eq_true, or_false, false_or, and_true, true_and, or_true, true_or, and_false, false_and, InK, Path.imp, List.length_replicate, List.length_set, List.length_append, List.length_cons, List.length_nil] at *); omega)) | (refine app_le rfl ?_; omega))); done)); (conv => whnf))
    | ((with_reducible refine And.intro (Side.out ?_) ?_); rotate_left; (conv => whnf))
    | (refine Exists.intro _ (And.intro rfl (And.intro rfl (And.intro ?_ ?_))) <;> (conv => whnf) <;> repeat' (first
    | exact trivial
    | rfl
    | (refine And.intro (fun h => h) (Or.inl ?_))
    | (refine And.intro (fun _ => rfl) (Or.inl ?_))
    | (refine And.intro (fun h => Bool.noConfusion h) (Or.inl ?_))
    | (with_reducible refine And.intro (fun _ => rfl) ?_)
    | ((with_reducible refine And.intro ?_ ?_) <;> conv => whnf)
    | (refine congrArg (Value.int _) ?_)
    | (refine congrArg (SV.arr _) ?_)
    | (refine congrArg Value.bool ?_)))); all_goals (try unfold Side)
  refine W.loop (fun i : Nat => ⟨[(0, .st false (.arr (.int .i64) fl)), (1, .st false (.arr (.sl (.int .i64)) gs)), (6, .lit (.int .i64 (val fl gs))), (7, .own 19000), (8, .lit (.int .i64 i))], [(19000, .row 3 (.int .i64) true (pricesT fl gs i))]⟩)
    (fun i => i ≤ fl.length) (fun i => fl.length - i) 0 ?_ ?_
  · refine ⟨Nat.zero_le _, ?_⟩
    refine ⟨rfl, ?_, ?_⟩ <;> (conv => whnf) <;> repeat' (first
    | exact trivial
    | rfl
    | (refine And.intro (fun h => h) (Or.inl ?_))
    | (refine And.intro (fun _ => rfl) (Or.inl ?_))
    | (refine And.intro (fun h => Bool.noConfusion h) (Or.inl ?_))
    | (with_reducible refine And.intro (fun _ => rfl) ?_)
    | ((with_reducible refine And.intro ?_ ?_) <;> conv => whnf)
    | (refine congrArg (Value.int _) ?_)
    | (refine congrArg (SV.arr _) ?_)
    | (refine congrArg Value.bool ?_))
  · intro i hi
    have hpl' : @List.length (Ty.int .i64).T (pricesT fl gs i) = i := pricesT_len
    by_cases hil : i < fl.length
    · have hv := h.val i hil
      have hB1 := Best_ref _ gs (h.more hs i)
      have hb1 := val_bound (fl := fl.set i (fl.getD i 0 + 1)) hG
      repeat' (first
    | refine W.seq ?_
    | refine W.block ?_
    | (refine W.resub (x := Code.region 7 _ _) (Γ' := ⟨[(0, .st false (.arr (.int .i64) fl)), (1, .st false (.arr (.sl (.int .i64)) gs)), (6, .lit (.int .i64 (val fl gs))), (7, .own 19000), (8, .lit (.int .i64 i)), (9, .own 28000)], [(19000, .row 3 (.int .i64) true (pricesT fl gs i)), (28000, .row 3 (.int .i64) true fl)]⟩) ?_ (W.region tys_ok [] ?_); rotate_left; (conv => whnf))
    | (refine W.region tys_ok [] ?_; conv => whnf)
    | (refine W.drawAll tys_ok [] mixed rfl ?_; conv => whnf)
    | (refine W.ret ?_; conv => whnf)
    | (refine W.skip ?_; conv => whnf)
    | (refine W.exit ?_; conv => whnf)
    | (refine ⟨false, _, _, _, _, rfl, Path.imp_of (hB1), rfl, rfl, rfl, ?_⟩; conv => whnf)
    | (refine W.cond rfl (fun hb => ?_) (fun hb => ?_) <;> (try simp only [minL, maxL, pickB, getD_int, getD_sl, getD_bool, len_int, len_sl, len_bool, decide_eq_true_eq, decide_eq_false_iff_not, Bool.and_eq_true, Bool.or_eq_true, Bool.and_eq_false_iff, Bool.or_eq_false_iff, Bool.not_eq_true', Bool.not_eq_false', Int.toNat_natCast, Int.ofNat_lt, Int.ofNat_le, not_true_eq_false, not_false_eq_true, or_false, false_or, and_true, true_and, or_true, true_or, and_false, false_and] at hb) <;> (try (first | (cases hb; done) | exact absurd hb (by decide) | (exfalso; omega))))
    | ((with_reducible refine And.intro ?_ ?_); (focus ((repeat' (first | (with_reducible rfl) | (with_reducible refine And.intro ?_ ?_) | omega | rfl | exact Or.inl rfl | exact Or.inr rfl | (focus ((try simp only [minL, maxL, pickB, getD_int, getD_sl, getD_bool, len_int, len_sl, len_bool, decide_eq_true_eq, decide_eq_false_iff_not, Bool.and_eq_true, Bool.or_eq_true, Bool.and_eq_false_iff, Bool.or_eq_false_iff, Bool.not_eq_true', Bool.not_eq_false', Int.toNat_natCast, Int.ofNat_lt, Int.ofNat_le, not_true_eq_false, not_false_eq_true, or_false, false_or, and_true, true_and, or_true, true_or, and_false, false_and, InK, Path.imp, List.length_replicate, List.length_set, List.length_append, List.length_cons, List.length_nil] at *); omega)) | (refine app_le rfl ?_; omega))); done)); (conv => whnf))
    | ((with_reducible refine And.intro (Side.out ?_) ?_); rotate_left; (conv => whnf))
    | (refine Exists.intro _ (And.intro rfl (And.intro rfl (And.intro ?_ ?_))) <;> (conv => whnf) <;> repeat' (first
    | exact trivial
    | rfl
    | (refine And.intro (fun h => h) (Or.inl ?_))
    | (refine And.intro (fun _ => rfl) (Or.inl ?_))
    | (refine And.intro (fun h => Bool.noConfusion h) (Or.inl ?_))
    | (with_reducible refine And.intro (fun _ => rfl) ?_)
    | ((with_reducible refine And.intro ?_ ?_) <;> conv => whnf)
    | (refine congrArg (Value.int _) ?_)
    | (refine congrArg (SV.arr _) ?_)
    | (refine congrArg Value.bool ?_)))); all_goals (try unfold Side)
      all_goals try (repeat' (first | (with_reducible rfl) | (with_reducible refine And.intro ?_ ?_) | omega | rfl | exact Or.inl rfl | exact Or.inr rfl | (focus ((try simp only [minL, maxL, pickB, getD_int, getD_sl, getD_bool, len_int, len_sl, len_bool, decide_eq_true_eq, decide_eq_false_iff_not, Bool.and_eq_true, Bool.or_eq_true, Bool.and_eq_false_iff, Bool.or_eq_false_iff, Bool.not_eq_true', Bool.not_eq_false', Int.toNat_natCast, Int.ofNat_lt, Int.ofNat_le, not_true_eq_false, not_false_eq_true, or_false, false_or, and_true, true_and, or_true, true_or, and_false, false_and, InK, Path.imp, List.length_replicate, List.length_set, List.length_append, List.length_cons, List.length_nil] at *); omega)) | (refine app_le rfl ?_; omega)))
      rotate_left
      · refine ⟨rfl, ?_, ?_⟩ <;> (conv => whnf) <;> repeat' (first
    | exact trivial
    | rfl
    | (refine And.intro (fun h => h) (Or.inl ?_))
    | (refine And.intro (fun _ => rfl) (Or.inl ?_))
    | (refine And.intro (fun h => Bool.noConfusion h) (Or.inl ?_))
    | (with_reducible refine And.intro (fun _ => rfl) ?_)
    | ((with_reducible refine And.intro ?_ ?_) <;> conv => whnf)
    | (refine congrArg (Value.int _) ?_)
    | (refine congrArg (SV.arr _) ?_)
    | (refine congrArg Value.bool ?_))
      refine ⟨i + 1, ⟨by omega, by omega⟩, ?_⟩
      refine ⟨rfl, ?_, ?_⟩ <;> (conv => whnf) <;> repeat' (first
    | exact trivial
    | rfl
    | (refine And.intro (fun h => h) (Or.inl ?_))
    | (refine And.intro (fun _ => rfl) (Or.inl ?_))
    | (refine And.intro (fun h => Bool.noConfusion h) (Or.inl ?_))
    | (with_reducible refine And.intro (fun _ => rfl) ?_)
    | ((with_reducible refine And.intro ?_ ?_) <;> conv => whnf)
    | (refine congrArg (Value.int _) ?_)
    | (refine congrArg (SV.arr _) ?_)
    | (refine congrArg Value.bool ?_))
      exact pricesT_succ
    · have hie : i = fl.length := by omega
      subst hie
      repeat' (first
    | refine W.seq ?_
    | refine W.block ?_
    | (refine W.region tys_ok [] ?_; conv => whnf)
    | (refine W.drawAll tys_ok [] mixed rfl ?_; conv => whnf)
    | (refine W.ret ?_; conv => whnf)
    | (refine W.skip ?_; conv => whnf)
    | (refine W.exit ?_; conv => whnf)
    | (refine W.cond rfl (fun hb => ?_) (fun hb => ?_) <;> (try simp only [minL, maxL, pickB, getD_int, getD_sl, getD_bool, len_int, len_sl, len_bool, decide_eq_true_eq, decide_eq_false_iff_not, Bool.and_eq_true, Bool.or_eq_true, Bool.and_eq_false_iff, Bool.or_eq_false_iff, Bool.not_eq_true', Bool.not_eq_false', Int.toNat_natCast, Int.ofNat_lt, Int.ofNat_le, not_true_eq_false, not_false_eq_true, or_false, false_or, and_true, true_and, or_true, true_or, and_false, false_and] at hb) <;> (try (first | (cases hb; done) | exact absurd hb (by decide) | (exfalso; omega))))
    | ((with_reducible refine And.intro ?_ ?_); (focus ((repeat' (first | (with_reducible rfl) | (with_reducible refine And.intro ?_ ?_) | omega | rfl | exact Or.inl rfl | exact Or.inr rfl | (focus ((try simp only [minL, maxL, pickB, getD_int, getD_sl, getD_bool, len_int, len_sl, len_bool, decide_eq_true_eq, decide_eq_false_iff_not, Bool.and_eq_true, Bool.or_eq_true, Bool.and_eq_false_iff, Bool.or_eq_false_iff, Bool.not_eq_true', Bool.not_eq_false', Int.toNat_natCast, Int.ofNat_lt, Int.ofNat_le, not_true_eq_false, not_false_eq_true, or_false, false_or, and_true, true_and, or_true, true_or, and_false, false_and, InK, Path.imp, List.length_replicate, List.length_set, List.length_append, List.length_cons, List.length_nil] at *); omega)) | (refine app_le rfl ?_; omega))); done)); (conv => whnf))
    | ((with_reducible refine And.intro (Side.out ?_) ?_); rotate_left; (conv => whnf))
    | (refine Exists.intro _ (And.intro rfl (And.intro rfl (And.intro ?_ ?_))) <;> (conv => whnf) <;> repeat' (first
    | exact trivial
    | rfl
    | (refine And.intro (fun h => h) (Or.inl ?_))
    | (refine And.intro (fun _ => rfl) (Or.inl ?_))
    | (refine And.intro (fun h => Bool.noConfusion h) (Or.inl ?_))
    | (with_reducible refine And.intro (fun _ => rfl) ?_)
    | ((with_reducible refine And.intro ?_ ?_) <;> conv => whnf)
    | (refine congrArg (Value.int _) ?_)
    | (refine congrArg (SV.arr _) ?_)
    | (refine congrArg Value.bool ?_)))); all_goals (try unfold Side)
      all_goals try (repeat' (first | (with_reducible rfl) | (with_reducible refine And.intro ?_ ?_) | omega | rfl | exact Or.inl rfl | exact Or.inr rfl | (focus ((try simp only [minL, maxL, pickB, getD_int, getD_sl, getD_bool, len_int, len_sl, len_bool, decide_eq_true_eq, decide_eq_false_iff_not, Bool.and_eq_true, Bool.or_eq_true, Bool.and_eq_false_iff, Bool.or_eq_false_iff, Bool.not_eq_true', Bool.not_eq_false', Int.toNat_natCast, Int.ofNat_lt, Int.ofNat_le, not_true_eq_false, not_false_eq_true, or_false, false_or, and_true, true_and, or_true, true_or, and_false, false_and, InK, Path.imp, List.length_replicate, List.length_set, List.length_append, List.length_cons, List.length_nil] at *); omega)) | (refine app_le rfl ?_; omega)))
set_option maxHeartbeats 2000000 in
theorem Prices_ok (fl : List Int) (gs : List (List Int)) (h1 : fl.length ≤ 1000) (h2 : gs.length ≤ 1000) (h3 : ∀ i, i < gs.length → (gs.getD i []).length ≤ 1000) :
    FnAt Try.prog false 30 [.arr (.int .i64) fl, .arr (.sl (.int .i64)) gs] (.tup [.own 0, .lit (.int .i64 (cond (riverOk fl gs) 0 1))]) [(0, .row 3 (.int .i64) true (cond (riverOk fl gs) (pricesT fl gs fl.length) []))] := by
  have hr := read_at fl gs h1 h2 h3
  cases hok : riverOk fl gs with
  | false =>
    rw [hok] at hr
    refine FnAt.of_body tys_ok Try.func30 (by rfl) rfl Try.ntmps30 (by rw [Try.results30]) (by simp) ?_
  
    repeat' (first
    | refine W.seq ?_
    | refine W.block ?_
    | (refine W.region tys_ok [] ?_; conv => whnf)
    | (refine W.drawAll tys_ok [] mixed rfl ?_; conv => whnf)
    | (refine W.ret ?_; conv => whnf)
    | (refine W.skip ?_; conv => whnf)
    | (refine W.exit ?_; conv => whnf)
    | (refine ⟨true, _, _, _, _, rfl, Path.imp_of (hr), rfl, rfl, rfl, ?_⟩; conv => whnf)
    | (refine W.cond rfl (fun hb => ?_) (fun hb => ?_) <;> (try simp only [minL, maxL, pickB, getD_int, getD_sl, getD_bool, len_int, len_sl, len_bool, decide_eq_true_eq, decide_eq_false_iff_not, Bool.and_eq_true, Bool.or_eq_true, Bool.and_eq_false_iff, Bool.or_eq_false_iff, Bool.not_eq_true', Bool.not_eq_false', Int.toNat_natCast, Int.ofNat_lt, Int.ofNat_le, not_true_eq_false, not_false_eq_true, or_false, false_or, and_true, true_and, or_true, true_or, and_false, false_and] at hb) <;> (try (first | (cases hb; done) | exact absurd hb (by decide) | (exfalso; omega))))
    | ((with_reducible refine And.intro ?_ ?_); (focus ((repeat' (first | (with_reducible rfl) | (with_reducible refine And.intro ?_ ?_) | omega | rfl | exact Or.inl rfl | exact Or.inr rfl | (focus ((try simp only [minL, maxL, pickB, getD_int, getD_sl, getD_bool, len_int, len_sl, len_bool, decide_eq_true_eq, decide_eq_false_iff_not, Bool.and_eq_true, Bool.or_eq_true, Bool.and_eq_false_iff, Bool.or_eq_false_iff, Bool.not_eq_true', Bool.not_eq_false', Int.toNat_natCast, Int.ofNat_lt, Int.ofNat_le, not_true_eq_false, not_false_eq_true, or_false, false_or, and_true, true_and, or_true, true_or, and_false, false_and, InK, Path.imp, List.length_replicate, List.length_set, List.length_append, List.length_cons, List.length_nil] at *); omega)) | (refine app_le rfl ?_; omega))); done)); (conv => whnf))
    | ((with_reducible refine And.intro (Side.out ?_) ?_); rotate_left; (conv => whnf))
    | (refine Exists.intro _ (And.intro rfl (And.intro rfl (And.intro ?_ ?_))) <;> (conv => whnf) <;> repeat' (first
    | exact trivial
    | rfl
    | (refine And.intro (fun h => h) (Or.inl ?_))
    | (refine And.intro (fun _ => rfl) (Or.inl ?_))
    | (refine And.intro (fun h => Bool.noConfusion h) (Or.inl ?_))
    | (with_reducible refine And.intro (fun _ => rfl) ?_)
    | ((with_reducible refine And.intro ?_ ?_) <;> conv => whnf)
    | (refine congrArg (Value.int _) ?_)
    | (refine congrArg (SV.arr _) ?_)
    | (refine congrArg Value.bool ?_)))); all_goals (try unfold Side)
    all_goals try (repeat' (first | (with_reducible rfl) | (with_reducible refine And.intro ?_ ?_) | omega | rfl | exact Or.inl rfl | exact Or.inr rfl | (focus ((try simp only [minL, maxL, pickB, getD_int, getD_sl, getD_bool, len_int, len_sl, len_bool, decide_eq_true_eq, decide_eq_false_iff_not, Bool.and_eq_true, Bool.or_eq_true, Bool.and_eq_false_iff, Bool.or_eq_false_iff, Bool.not_eq_true', Bool.not_eq_false', Int.toNat_natCast, Int.ofNat_lt, Int.ofNat_le, not_true_eq_false, not_false_eq_true, or_false, false_or, and_true, true_and, or_true, true_or, and_false, false_and, InK, Path.imp, List.length_replicate, List.length_set, List.length_append, List.length_cons, List.length_nil] at *); omega)) | (refine app_le rfl ?_; omega)))
    all_goals cases hb
  | true =>
    rw [hok] at hr
    have hR := riverOk.river hok
    have h := riverOk.riv hok
    have hG := h.g
    have hl := h.len
    have hl8 := hG.len
    have hb0 := val_bound (fl := fl) hG
    have hv0 := value_at fl gs hG hl h.val
    refine FnAt.of_body tys_ok Try.func30 (by rfl) rfl Try.ntmps30 (by rw [Try.results30]) (by simp) ?_
  
    repeat' (first
    | refine W.seq ?_
    | refine W.block ?_
    | (refine W.region tys_ok [] ?_; conv => whnf)
    | (refine W.drawAll tys_ok [] mixed rfl ?_; conv => whnf)
    | (refine W.ret ?_; conv => whnf)
    | (refine W.skip ?_; conv => whnf)
    | (refine W.exit ?_; conv => whnf)
    | (refine ⟨true, _, _, _, _, rfl, Path.imp_of (hr), rfl, rfl, rfl, ?_⟩; conv => whnf)
    | (refine ⟨false, _, _, _, _, rfl, Path.imp_of (hv0), rfl, rfl, rfl, ?_⟩; conv => whnf)
    | (refine W.cond rfl (fun hb => ?_) (fun hb => ?_) <;> (try simp only [minL, maxL, pickB, getD_int, getD_sl, getD_bool, len_int, len_sl, len_bool, decide_eq_true_eq, decide_eq_false_iff_not, Bool.and_eq_true, Bool.or_eq_true, Bool.and_eq_false_iff, Bool.or_eq_false_iff, Bool.not_eq_true', Bool.not_eq_false', Int.toNat_natCast, Int.ofNat_lt, Int.ofNat_le, not_true_eq_false, not_false_eq_true, or_false, false_or, and_true, true_and, or_true, true_or, and_false, false_and] at hb) <;> (try (first | (cases hb; done) | exact absurd hb (by decide) | (exfalso; omega))))
    | ((with_reducible refine And.intro ?_ ?_); (focus ((repeat' (first | (with_reducible rfl) | (with_reducible refine And.intro ?_ ?_) | omega | rfl | exact Or.inl rfl | exact Or.inr rfl | (focus ((try simp only [minL, maxL, pickB, getD_int, getD_sl, getD_bool, len_int, len_sl, len_bool, decide_eq_true_eq, decide_eq_false_iff_not, Bool.and_eq_true, Bool.or_eq_true, Bool.and_eq_false_iff, Bool.or_eq_false_iff, Bool.not_eq_true', Bool.not_eq_false', Int.toNat_natCast, Int.ofNat_lt, Int.ofNat_le, not_true_eq_false, not_false_eq_true, or_false, false_or, and_true, true_and, or_true, true_or, and_false, false_and, InK, Path.imp, List.length_replicate, List.length_set, List.length_append, List.length_cons, List.length_nil] at *); omega)) | (refine app_le rfl ?_; omega))); done)); (conv => whnf))
    | ((with_reducible refine And.intro (Side.out ?_) ?_); rotate_left; (conv => whnf))
    | (refine Exists.intro _ (And.intro rfl (And.intro rfl (And.intro ?_ ?_))) <;> (conv => whnf) <;> repeat' (first
    | exact trivial
    | rfl
    | (refine And.intro (fun h => h) (Or.inl ?_))
    | (refine And.intro (fun _ => rfl) (Or.inl ?_))
    | (refine And.intro (fun h => Bool.noConfusion h) (Or.inl ?_))
    | (with_reducible refine And.intro (fun _ => rfl) ?_)
    | ((with_reducible refine And.intro ?_ ?_) <;> conv => whnf)
    | (refine congrArg (Value.int _) ?_)
    | (refine congrArg (SV.arr _) ?_)
    | (refine congrArg Value.bool ?_)))); all_goals (try unfold Side)
    all_goals try (cases hb; done)
    refine W.loop (fun i : Nat => ⟨[(0, .st false (.arr (.int .i64) fl)), (1, .st false (.arr (.sl (.int .i64)) gs)), (8, .lit (.int .i64 (val fl gs))), (9, .own 37000), (22, .lit (.int .i64 fl.length)), (23, .lit (.int .i64 i))],
        [(37000, .row 3 (.int .i64) true (pricesT fl gs i))]⟩)
      (fun i => i ≤ fl.length) (fun i => fl.length - i) 0 ?_ ?_
    · refine ⟨by simp, ?_⟩
      refine ⟨rfl, ?_, ?_⟩ <;> (conv => whnf) <;> repeat' (first
    | exact trivial
    | rfl
    | (refine And.intro (fun h => h) (Or.inl ?_))
    | (refine And.intro (fun _ => rfl) (Or.inl ?_))
    | (refine And.intro (fun h => Bool.noConfusion h) (Or.inl ?_))
    | (with_reducible refine And.intro (fun _ => rfl) ?_)
    | ((with_reducible refine And.intro ?_ ?_) <;> conv => whnf)
    | (refine congrArg (Value.int _) ?_)
    | (refine congrArg (SV.arr _) ?_)
    | (refine congrArg Value.bool ?_))
    · intro i hi
      have hpl' : @List.length (Ty.int .i64).T (pricesT fl gs i) = i := pricesT_len
      by_cases hil : i < fl.length
      · have hv := h.val i hil
        have hw := with_at fl i hil (by omega) (by omega)
        have hv1 := value_at _ gs hG ((h.more (fun i hi => (hR.val i hi).2) i).len) (h.more (fun i hi => (hR.val i hi).2) i).val
        have hb1 := val_bound (fl := fl.set i (fl.getD i 0 + 1)) hG
        repeat' (first
    | refine W.seq ?_
    | refine W.block ?_
    | (refine W.region tys_ok [] ?_; conv => whnf)
    | (refine W.drawAll tys_ok [] mixed rfl ?_; conv => whnf)
    | (refine W.ret ?_; conv => whnf)
    | (refine W.skip ?_; conv => whnf)
    | (refine W.exit ?_; conv => whnf)
    | (refine ⟨false, _, _, _, _, rfl, Path.imp_of (hw), rfl, rfl, rfl, ?_⟩; conv => whnf)
    | (refine ⟨false, _, _, _, _, rfl, Path.imp_of (hv1), rfl, rfl, rfl, ?_⟩; conv => whnf)
    | (refine W.cond rfl (fun hb => ?_) (fun hb => ?_) <;> (try simp only [minL, maxL, pickB, getD_int, getD_sl, getD_bool, len_int, len_sl, len_bool, decide_eq_true_eq, decide_eq_false_iff_not, Bool.and_eq_true, Bool.or_eq_true, Bool.and_eq_false_iff, Bool.or_eq_false_iff, Bool.not_eq_true', Bool.not_eq_false', Int.toNat_natCast, Int.ofNat_lt, Int.ofNat_le, not_true_eq_false, not_false_eq_true, or_false, false_or, and_true, true_and, or_true, true_or, and_false, false_and] at hb) <;> (try (first | (cases hb; done) | exact absurd hb (by decide) | (exfalso; omega))))
    | ((with_reducible refine And.intro ?_ ?_); (focus ((repeat' (first | (with_reducible rfl) | (with_reducible refine And.intro ?_ ?_) | omega | rfl | exact Or.inl rfl | exact Or.inr rfl | (focus ((try simp only [minL, maxL, pickB, getD_int, getD_sl, getD_bool, len_int, len_sl, len_bool, decide_eq_true_eq, decide_eq_false_iff_not, Bool.and_eq_true, Bool.or_eq_true, Bool.and_eq_false_iff, Bool.or_eq_false_iff, Bool.not_eq_true', Bool.not_eq_false', Int.toNat_natCast, Int.ofNat_lt, Int.ofNat_le, not_true_eq_false, not_false_eq_true, or_false, false_or, and_true, true_and, or_true, true_or, and_false, false_and, InK, Path.imp, List.length_replicate, List.length_set, List.length_append, List.length_cons, List.length_nil] at *); omega)) | (refine app_le rfl ?_; omega))); done)); (conv => whnf))
    | ((with_reducible refine And.intro (Side.out ?_) ?_); rotate_left; (conv => whnf))
    | (refine Exists.intro _ (And.intro rfl (And.intro rfl (And.intro ?_ ?_))) <;> (conv => whnf) <;> repeat' (first
    | exact trivial
    | rfl
    | (refine And.intro (fun h => h) (Or.inl ?_))
    | (refine And.intro (fun _ => rfl) (Or.inl ?_))
    | (refine And.intro (fun h => Bool.noConfusion h) (Or.inl ?_))
    | (with_reducible refine And.intro (fun _ => rfl) ?_)
    | ((with_reducible refine And.intro ?_ ?_) <;> conv => whnf)
    | (refine congrArg (Value.int _) ?_)
    | (refine congrArg (SV.arr _) ?_)
    | (refine congrArg Value.bool ?_)))); all_goals (try unfold Side)
        all_goals try (repeat' (first | (with_reducible rfl) | (with_reducible refine And.intro ?_ ?_) | omega | rfl | exact Or.inl rfl | exact Or.inr rfl | (focus ((try simp only [minL, maxL, pickB, getD_int, getD_sl, getD_bool, len_int, len_sl, len_bool, decide_eq_true_eq, decide_eq_false_iff_not, Bool.and_eq_true, Bool.or_eq_true, Bool.and_eq_false_iff, Bool.or_eq_false_iff, Bool.not_eq_true', Bool.not_eq_false', Int.toNat_natCast, Int.ofNat_lt, Int.ofNat_le, not_true_eq_false, not_false_eq_true, or_false, false_or, and_true, true_and, or_true, true_or, and_false, false_and, InK, Path.imp, List.length_replicate, List.length_set, List.length_append, List.length_cons, List.length_nil] at *); omega)) | (refine app_le rfl ?_; omega)))
        refine ⟨i + 1, ⟨by omega, by omega⟩, ?_⟩
        refine ⟨rfl, ?_, ?_⟩ <;> (conv => whnf) <;> repeat' (first
    | exact trivial
    | rfl
    | (refine And.intro (fun h => h) (Or.inl ?_))
    | (refine And.intro (fun _ => rfl) (Or.inl ?_))
    | (refine And.intro (fun h => Bool.noConfusion h) (Or.inl ?_))
    | (with_reducible refine And.intro (fun _ => rfl) ?_)
    | ((with_reducible refine And.intro ?_ ?_) <;> conv => whnf)
    | (refine congrArg (Value.int _) ?_)
    | (refine congrArg (SV.arr _) ?_)
    | (refine congrArg Value.bool ?_))
        exact pricesT_succ
      · have hie : i = fl.length := by omega
        subst hie
        repeat' (first
    | refine W.seq ?_
    | refine W.block ?_
    | (refine W.region tys_ok [] ?_; conv => whnf)
    | (refine W.drawAll tys_ok [] mixed rfl ?_; conv => whnf)
    | (refine W.ret ?_; conv => whnf)
    | (refine W.skip ?_; conv => whnf)
    | (refine W.exit ?_; conv => whnf)
    | (refine W.cond rfl (fun hb => ?_) (fun hb => ?_) <;> (try simp only [minL, maxL, pickB, getD_int, getD_sl, getD_bool, len_int, len_sl, len_bool, decide_eq_true_eq, decide_eq_false_iff_not, Bool.and_eq_true, Bool.or_eq_true, Bool.and_eq_false_iff, Bool.or_eq_false_iff, Bool.not_eq_true', Bool.not_eq_false', Int.toNat_natCast, Int.ofNat_lt, Int.ofNat_le, not_true_eq_false, not_false_eq_true, or_false, false_or, and_true, true_and, or_true, true_or, and_false, false_and] at hb) <;> (try (first | (cases hb; done) | exact absurd hb (by decide) | (exfalso; omega))))
    | ((with_reducible refine And.intro ?_ ?_); (focus ((repeat' (first | (with_reducible rfl) | (with_reducible refine And.intro ?_ ?_) | omega | rfl | exact Or.inl rfl | exact Or.inr rfl | (focus ((try simp only [minL, maxL, pickB, getD_int, getD_sl, getD_bool, len_int, len_sl, len_bool, decide_eq_true_eq, decide_eq_false_iff_not, Bool.and_eq_true, Bool.or_eq_true, Bool.and_eq_false_iff, Bool.or_eq_false_iff, Bool.not_eq_true', Bool.not_eq_false', Int.toNat_natCast, Int.ofNat_lt, Int.ofNat_le, not_true_eq_false, not_false_eq_true, or_false, false_or, and_true, true_and, or_true, true_or, and_false, false_and, InK, Path.imp, List.length_replicate, List.length_set, List.length_append, List.length_cons, List.length_nil] at *); omega)) | (refine app_le rfl ?_; omega))); done)); (conv => whnf))
    | ((with_reducible refine And.intro (Side.out ?_) ?_); rotate_left; (conv => whnf))
    | (refine Exists.intro _ (And.intro rfl (And.intro rfl (And.intro ?_ ?_))) <;> (conv => whnf) <;> repeat' (first
    | exact trivial
    | rfl
    | (refine And.intro (fun h => h) (Or.inl ?_))
    | (refine And.intro (fun _ => rfl) (Or.inl ?_))
    | (refine And.intro (fun h => Bool.noConfusion h) (Or.inl ?_))
    | (with_reducible refine And.intro (fun _ => rfl) ?_)
    | ((with_reducible refine And.intro ?_ ?_) <;> conv => whnf)
    | (refine congrArg (Value.int _) ?_)
    | (refine congrArg (SV.arr _) ?_)
    | (refine congrArg Value.bool ?_)))); all_goals (try unfold Side)
        all_goals try (repeat' (first | (with_reducible rfl) | (with_reducible refine And.intro ?_ ?_) | omega | rfl | exact Or.inl rfl | exact Or.inr rfl | (focus ((try simp only [minL, maxL, pickB, getD_int, getD_sl, getD_bool, len_int, len_sl, len_bool, decide_eq_true_eq, decide_eq_false_iff_not, Bool.and_eq_true, Bool.or_eq_true, Bool.and_eq_false_iff, Bool.or_eq_false_iff, Bool.not_eq_true', Bool.not_eq_false', Int.toNat_natCast, Int.ofNat_lt, Int.ofNat_le, not_true_eq_false, not_false_eq_true, or_false, false_or, and_true, true_and, or_true, true_or, and_false, false_and, InK, Path.imp, List.length_replicate, List.length_set, List.length_append, List.length_cons, List.length_nil] at *); omega)) | (refine app_le rfl ?_; omega)))

theorem Shares_bad {fl : List Int} {gs : List (List Int)} (hok : riverOk fl gs = false) (h1 : fl.length ≤ 1000) (h2 : gs.length ≤ 1000) (h3 : ∀ i, i < gs.length → (gs.getD i []).length ≤ 1000) :
    FnAt Try.prog false 29 [.arr (.int .i64) fl, .arr (.sl (.int .i64)) gs] (.tup [.own 0, .lit (.int .i64 1)]) [(0, .row 3 (.int .i64) true [])] := by
  have h := Shares_ok fl gs h1 h2 h3
  rw [hok] at h
  exact h
theorem Shares_good {fl : List Int} {gs : List (List Int)} (hok : riverOk fl gs = true) (h1 : fl.length ≤ 1000) (h2 : gs.length ≤ 1000) (h3 : ∀ i, i < gs.length → (gs.getD i []).length ≤ 1000) :
    FnAt Try.prog false 29 [.arr (.int .i64) fl, .arr (.sl (.int .i64)) gs] (.tup [.own 0, .lit (.int .i64 0)]) [(0, .row 3 (.int .i64) true (sharesT fl gs fl.length))] := by
  have h := Shares_ok fl gs h1 h2 h3
  rw [hok] at h
  exact h
theorem Prices_bad {fl : List Int} {gs : List (List Int)} (hok : riverOk fl gs = false) (h1 : fl.length ≤ 1000) (h2 : gs.length ≤ 1000) (h3 : ∀ i, i < gs.length → (gs.getD i []).length ≤ 1000) :
    FnAt Try.prog false 30 [.arr (.int .i64) fl, .arr (.sl (.int .i64)) gs] (.tup [.own 0, .lit (.int .i64 1)]) [(0, .row 3 (.int .i64) true [])] := by
  have h := Prices_ok fl gs h1 h2 h3
  rw [hok] at h
  exact h
theorem Prices_good {fl : List Int} {gs : List (List Int)} (hok : riverOk fl gs = true) (h1 : fl.length ≤ 1000) (h2 : gs.length ≤ 1000) (h3 : ∀ i, i < gs.length → (gs.getD i []).length ≤ 1000) :
    FnAt Try.prog false 30 [.arr (.int .i64) fl, .arr (.sl (.int .i64)) gs] (.tup [.own 0, .lit (.int .i64 0)]) [(0, .row 3 (.int .i64) true (pricesT fl gs fl.length))] := by
  have h := Prices_ok fl gs h1 h2 h3
  rw [hok] at h
  exact h
set_option maxHeartbeats 2000000 in
theorem WaterShares_at (fl : List Int) (gs : List (List Int)) : FnAt Try.prog false 7 [.agg [.arr (.int .i64) fl, .arr (.sl (.int .i64)) gs]] (.lit (.bool true)) [] := by
  obtain ⟨F, hF⟩ : ∃ F, F = fl.take 9 := ⟨_, rfl⟩
  obtain ⟨G, hG⟩ : ∃ G, G = fewG gs := ⟨_, rfl⟩
  have hfew := few_eq hF hG
  obtain ⟨hl1, hl2, hl3⟩ := (few_few hF hG).len
  clear hF hG
  have hRv := River_ref F G hl1 hl2 hl3
  cases hok : riverOk F G with
  | false =>
    rw [hok] at hRv
    have hS := Shares_bad hok hl1 hl2 hl3
    have hP := Prices_bad hok hl1 hl2 hl3
    refine FnAt.of_body tys_ok Try.func7 (by rfl) rfl Try.ntmps7 (by rw [Try.results7]) (by simp) ?_
  
    repeat' (first
    | refine W.seq ?_
    | refine W.block ?_
    | (refine W.region tys_ok [] ?_; conv => whnf)
    | (refine W.drawAll tys_ok [] mixed rfl ?_; conv => whnf)
    | (refine W.ret ?_; conv => whnf)
    | (refine W.skip ?_; conv => whnf)
    | (refine W.exit ?_; conv => whnf)
    | (refine ⟨false, _, _, _, _, rfl, Path.imp_of (hfew), rfl, rfl, rfl, ?_⟩; conv => whnf)
    | (refine ⟨false, _, _, _, _, rfl, Path.imp_of (hRv), rfl, rfl, rfl, ?_⟩; conv => whnf)
    | (refine ⟨false, _, _, _, _, rfl, Path.imp_of (hS), rfl, rfl, rfl, ?_⟩; conv => whnf)
    | (refine ⟨false, _, _, _, _, rfl, Path.imp_of (hP), rfl, rfl, rfl, ?_⟩; conv => whnf)
    | (refine ⟨false, _, _, _, _, rfl, Path.imp_of (lives_at), rfl, rfl, rfl, ?_⟩; conv => whnf)
    | (refine W.cond rfl (fun hb => ?_) (fun hb => ?_) <;> (try simp only [minL, maxL, pickB, getD_int, getD_sl, getD_bool, len_int, len_sl, len_bool, decide_eq_true_eq, decide_eq_false_iff_not, Bool.and_eq_true, Bool.or_eq_true, Bool.and_eq_false_iff, Bool.or_eq_false_iff, Bool.not_eq_true', Bool.not_eq_false', Int.toNat_natCast, Int.ofNat_lt, Int.ofNat_le, not_true_eq_false, not_false_eq_true, or_false, false_or, and_true, true_and, or_true, true_or, and_false, false_and] at hb) <;> (try (first | (cases hb; done) | exact absurd hb (by decide) | (exfalso; omega))))
    | ((with_reducible refine And.intro ?_ ?_); (focus ((repeat' (first | (with_reducible rfl) | (with_reducible refine And.intro ?_ ?_) | omega | rfl | exact Or.inl rfl | exact Or.inr rfl | (focus ((try simp only [minL, maxL, pickB, getD_int, getD_sl, getD_bool, len_int, len_sl, len_bool, decide_eq_true_eq, decide_eq_false_iff_not, Bool.and_eq_true, Bool.or_eq_true, Bool.and_eq_false_iff, Bool.or_eq_false_iff, Bool.not_eq_true', Bool.not_eq_false', Int.toNat_natCast, Int.ofNat_lt, Int.ofNat_le, not_true_eq_false, not_false_eq_true, or_false, false_or, and_true, true_and, or_true, true_or, and_false, false_and, InK, Path.imp, List.length_replicate, List.length_set, List.length_append, List.length_cons, List.length_nil] at *); omega)) | (refine app_le rfl ?_; omega))); done)); (conv => whnf))
    | ((with_reducible refine And.intro (Side.out ?_) ?_); rotate_left; (conv => whnf))
    | (refine Exists.intro _ (And.intro rfl (And.intro rfl (And.intro ?_ ?_))) <;> (conv => whnf) <;> repeat' (first
    | exact trivial
    | rfl
    | (refine And.intro (fun h => h) (Or.inl ?_))
    | (refine And.intro (fun _ => rfl) (Or.inl ?_))
    | (refine And.intro (fun h => Bool.noConfusion h) (Or.inl ?_))
    | (with_reducible refine And.intro (fun _ => rfl) ?_)
    | ((with_reducible refine And.intro ?_ ?_) <;> conv => whnf)
    | (refine congrArg (Value.int _) ?_)
    | (refine congrArg (SV.arr _) ?_)
    | (refine congrArg Value.bool ?_)))); all_goals (try unfold Side)
    all_goals try (repeat' (first | (with_reducible rfl) | (with_reducible refine And.intro ?_ ?_) | omega | rfl | exact Or.inl rfl | exact Or.inr rfl | (focus ((try simp only [minL, maxL, pickB, getD_int, getD_sl, getD_bool, len_int, len_sl, len_bool, decide_eq_true_eq, decide_eq_false_iff_not, Bool.and_eq_true, Bool.or_eq_true, Bool.and_eq_false_iff, Bool.or_eq_false_iff, Bool.not_eq_true', Bool.not_eq_false', Int.toNat_natCast, Int.ofNat_lt, Int.ofNat_le, not_true_eq_false, not_false_eq_true, or_false, false_or, and_true, true_and, or_true, true_or, and_false, false_and, InK, Path.imp, List.length_replicate, List.length_set, List.length_append, List.length_cons, List.length_nil] at *); omega)) | (refine app_le rfl ?_; omega)))
  | true =>
    rw [hok] at hRv
    have hS := Shares_good hok hl1 hl2 hl3
    have hP := Prices_good hok hl1 hl2 hl3
    have hR := riverOk.river hok
    have h := riverOk.riv hok
    have hSr := Shares_ref F G h
    have hPr := Prices_ref F G h fun i hi => (hR.val i hi).2
    have hs1 := same_self (sharesT F G F.length) (by rw [sharesT_len]; omega)
    have hs2 := same_self (pricesT F G F.length) (by rw [pricesT_len]; omega)
    refine FnAt.of_body tys_ok Try.func7 (by rfl) rfl Try.ntmps7 (by rw [Try.results7]) (by simp) ?_
  
    repeat' (first
    | refine W.seq ?_
    | refine W.block ?_
    | (refine W.region tys_ok [] ?_; conv => whnf)
    | (refine W.drawAll tys_ok [] mixed rfl ?_; conv => whnf)
    | (refine W.ret ?_; conv => whnf)
    | (refine W.skip ?_; conv => whnf)
    | (refine W.exit ?_; conv => whnf)
    | (refine ⟨false, _, _, _, _, rfl, Path.imp_of (hfew), rfl, rfl, rfl, ?_⟩; conv => whnf)
    | (refine ⟨false, _, _, _, _, rfl, Path.imp_of (hRv), rfl, rfl, rfl, ?_⟩; conv => whnf)
    | (refine ⟨false, _, _, _, _, rfl, Path.imp_of (hS), rfl, rfl, rfl, ?_⟩; conv => whnf)
    | (refine ⟨false, _, _, _, _, rfl, Path.imp_of (hP), rfl, rfl, rfl, ?_⟩; conv => whnf)
    | (refine ⟨false, _, _, _, _, rfl, Path.imp_of (hSr), rfl, rfl, rfl, ?_⟩; conv => whnf)
    | (refine ⟨false, _, _, _, _, rfl, Path.imp_of (hPr), rfl, rfl, rfl, ?_⟩; conv => whnf)
    | (refine ⟨false, _, _, _, _, rfl, Path.imp_of (hs1), rfl, rfl, rfl, ?_⟩; conv => whnf)
    | (refine ⟨false, _, _, _, _, rfl, Path.imp_of (hs2), rfl, rfl, rfl, ?_⟩; conv => whnf)
    | (refine ⟨false, _, _, _, _, rfl, Path.imp_of (lives_at), rfl, rfl, rfl, ?_⟩; conv => whnf)
    | (refine W.cond rfl (fun hb => ?_) (fun hb => ?_) <;> (try simp only [minL, maxL, pickB, getD_int, getD_sl, getD_bool, len_int, len_sl, len_bool, decide_eq_true_eq, decide_eq_false_iff_not, Bool.and_eq_true, Bool.or_eq_true, Bool.and_eq_false_iff, Bool.or_eq_false_iff, Bool.not_eq_true', Bool.not_eq_false', Int.toNat_natCast, Int.ofNat_lt, Int.ofNat_le, not_true_eq_false, not_false_eq_true, or_false, false_or, and_true, true_and, or_true, true_or, and_false, false_and] at hb) <;> (try (first | (cases hb; done) | exact absurd hb (by decide) | (exfalso; omega))))
    | ((with_reducible refine And.intro ?_ ?_); (focus ((repeat' (first | (with_reducible rfl) | (with_reducible refine And.intro ?_ ?_) | omega | rfl | exact Or.inl rfl | exact Or.inr rfl | (focus ((try simp only [minL, maxL, pickB, getD_int, getD_sl, getD_bool, len_int, len_sl, len_bool, decide_eq_true_eq, decide_eq_false_iff_not, Bool.and_eq_true, Bool.or_eq_true, Bool.and_eq_false_iff, Bool.or_eq_false_iff, Bool.not_eq_true', Bool.not_eq_false', Int.toNat_natCast, Int.ofNat_lt, Int.ofNat_le, not_true_eq_false, not_false_eq_true, or_false, false_or, and_true, true_and, or_true, true_or, and_false, false_and, InK, Path.imp, List.length_replicate, List.length_set, List.length_append, List.length_cons, List.length_nil] at *); omega)) | (refine app_le rfl ?_; omega))); done)); (conv => whnf))
    | ((with_reducible refine And.intro (Side.out ?_) ?_); rotate_left; (conv => whnf))
    | (refine Exists.intro _ (And.intro rfl (And.intro rfl (And.intro ?_ ?_))) <;> (conv => whnf) <;> repeat' (first
    | exact trivial
    | rfl
    | (refine And.intro (fun h => h) (Or.inl ?_))
    | (refine And.intro (fun _ => rfl) (Or.inl ?_))
    | (refine And.intro (fun h => Bool.noConfusion h) (Or.inl ?_))
    | (with_reducible refine And.intro (fun _ => rfl) ?_)
    | ((with_reducible refine And.intro ?_ ?_) <;> conv => whnf)
    | (refine congrArg (Value.int _) ?_)
    | (refine congrArg (SV.arr _) ?_)
    | (refine congrArg Value.bool ?_)))); all_goals (try unfold Side)
    all_goals try (repeat' (first | (with_reducible rfl) | (with_reducible refine And.intro ?_ ?_) | omega | rfl | exact Or.inl rfl | exact Or.inr rfl | (focus ((try simp only [minL, maxL, pickB, getD_int, getD_sl, getD_bool, len_int, len_sl, len_bool, decide_eq_true_eq, decide_eq_false_iff_not, Bool.and_eq_true, Bool.or_eq_true, Bool.and_eq_false_iff, Bool.or_eq_false_iff, Bool.not_eq_true', Bool.not_eq_false', Int.toNat_natCast, Int.ofNat_lt, Int.ofNat_le, not_true_eq_false, not_false_eq_true, or_false, false_or, and_true, true_and, or_true, true_or, and_false, false_and, InK, Path.imp, List.length_replicate, List.length_set, List.length_append, List.length_cons, List.length_nil] at *); omega)) | (refine app_le rfl ?_; omega)))
end Go.Proofs.Ytohfemfgnohhdaa
/- A region of few operations: every order is walked. No condition. -/
namespace Go.Vc
set_option linter.unusedVariables false
set_option linter.unusedSimpArgs false

inductive Both (p q : Prop) : Prop
  | mk (hp : p) (hq : q) : Both p q
inductive Leaf (p : Prop) : Prop
  | mk (hp : p) : Leaf p
/-- What must come before, directly. -/
def dirm : List Edge → Nat → Nat
  | [], s => s
  | e :: r, s => match Region.binds .any e with
    | true => dirm r (s ||| 2 ^ e.on)
    | false => dirm r s
theorem dirm_bit {i : Nat} : ∀ {l : List Edge} {s : Nat}, (dirm l s).testBit i = true → s.testBit i = true ∨ ∃ e ∈ l, Region.binds .any e = true ∧ e.on = i
  | [], s, h => .inl h
  | e :: r, s, h => by
    simp only [dirm] at h
    split at h
    · rename_i hb
      rcases dirm_bit h with h1 | ⟨e', h1, h2, h3⟩
      · simp only [Nat.testBit_or, Bool.or_eq_true] at h1
        rcases h1 with h1 | h1
        · exact .inl h1
        · refine .inr ⟨e, by simp, hb, ?_⟩
          rw [Nat.testBit_two_pow] at h1
          simpa using h1
      · exact .inr ⟨e', by simp [h1], h2, h3⟩
    · rcases dirm_bit h with h1 | ⟨e', h1, h2, h3⟩
      · exact .inl h1
      · exact .inr ⟨e', by simp [h1], h2, h3⟩
def dirms (ops : Array Oper) : List Nat := ops.toList.map fun o => dirm o.after.toList 0
/-- Those that may come now. -/
def rdy (done : Nat) : List Nat → Nat → List Nat
  | [], _ => []
  | e :: r, i => match Nat.beq (Nat.land done (2 ^ i)) 0 && Nat.beq (Nat.land done e) e with
    | true => i :: rdy done r (i + 1)
    | false => rdy done r (i + 1)
def eachP : List Nat → (Nat → Prop) → Prop
  | [], _ => True
  | [i], p => p i
  | i :: r, p => Both (p i) (eachP r p)
theorem eachP_mem : ∀ {l : List Nat} {p : Nat → Prop}, eachP l p → ∀ i ∈ l, p i
  | [], p, _, i, hi => by cases hi
  | [j], p, h, i, hi => by
    simp only [List.mem_singleton] at hi
    rw [hi]; exact h
  | j :: k :: r, p, h, i, hi => by
    obtain ⟨h1, h2⟩ : Both (p j) (eachP (k :: r) p) := h
    rcases List.mem_cons.1 hi with rfl | hi
    · exact h1
    · exact eachP_mem h2 i hi
theorem rdy_mem {done i : Nat} : ∀ {E : List Nat} {s e : Nat}, E[i]? = some e → done.testBit (s + i) = false → (∀ j, e.testBit j = true → done.testBit j = true) → (s + i) ∈ rdy done E s := by
  induction i with
  | zero =>
    intro E s e he hd hp
    cases E with
    | nil => cases he
    | cons x r =>
      simp only [List.getElem?_cons_zero, Option.some.injEq] at he
      subst he
      have h1 : Nat.beq (Nat.land done (2 ^ s)) 0 = true := by
        rw [Nat.beq_eq]
        refine Nat.eq_of_testBit_eq fun j => ?_
        show (done &&& 2 ^ s).testBit j = _
        rw [Nat.testBit_and, Nat.zero_testBit, Nat.testBit_two_pow]
        by_cases h : s = j
        · subst h; simp only [Nat.add_zero] at hd; simp [hd]
        · simp [h]
      have h2 : Nat.beq (Nat.land done x) x = true := by
        rw [Nat.beq_eq]
        refine Nat.eq_of_testBit_eq fun j => ?_
        show (done &&& x).testBit j = _
        rw [Nat.testBit_and]
        cases h : x.testBit j with
        | false => simp
        | true => simp [hp j h]
      simp only [rdy, h1, h2, Bool.and_self, Nat.add_zero, List.mem_cons, true_or]
  | succ i ih =>
    intro E s e he hd hp
    cases E with
    | nil => cases he
    | cons x r =>
      have := ih (E := r) (s := s + 1) (by simpa using he) (by rw [show s + 1 + i = s + (i + 1) from by omega]; exact hd) hp
      rw [show s + 1 + i = s + (i + 1) from by omega] at this
      simp only [rdy]
      split
      · exact List.mem_cons_of_mem _ this
      · exact this

/-- Every order. -/
def treeVC (P : Program) (T : List (Nat × TE)) (F : List Nat) (n : Nat) (ops : Array Oper) (E : List Nat) : Nat → Nat → Sy → (Sy → Prop) → Prop
  | 0, _, Γ, K => K Γ
  | k + 1, done, Γ, K => eachP (rdy done E 0) fun i => match ops[i]? with
    | some o => opsVC P T F n (dstsOf ops) [] [o] i 0 Γ fun Γ' => treeVC P T F n ops E k (Nat.lor done (2 ^ i)) Γ' K
    | none => False

theorem one_sound {P : Program} {T : List (Nat × TE)} {F : List Nat} (hT : TOk P T) {c : Cx} {ops : Array Oper} {K : Sy → Prop} {i : Nat} {o : Oper} {Γ : Sy} (hoi : ops[i]? = some o) (h : opsVC P T F c.n (dstsOf ops) [] [o] i 0 Γ K) :
    ∃ Γ', StepOk P c ops i Γ Γ' ∧ K Γ' := by
  simp only [opsVC, memN] at h
  split at h
  · split at h
    · rename_i hgd
      obtain ⟨Γ1, h1, h2⟩ := mutVC.sound hT h
      refine ⟨Γ1, ?_, h2⟩
      intro Q g a w K' hst hK
      unfold wpOp
      rw [hoi]
      dsimp only
      have : Region.wanted o (yielded ops a.tmps) = true := by simp [Region.wanted, hgd]
      rw [if_pos this]
      exact .inl (h1 g a w _ _ hst hK)
    · exact h.elim
  · split at h
    · exact h.elim
    · rename_i G hG
      split at h
      · rename_i hd
        obtain ⟨A, N, h1, h2, h6⟩ := pureVC.sound (c := c) hT h
        split at h6
        rotate_left
        · exact h6.elim
        rename_i h4
        refine ⟨_, ?_, h6⟩
        intro Q g a w K' hst hK
        unfold wpOp
        rw [hoi]
        dsimp only
        rw [if_pos ((guardOf.wanted (ops := ops) hst hG).2 trivial)]
        refine .inl (h1 trivial Γ g a w _ _ (fun _ _ => rfl) (fun _ _ h => h) (freeB_free h4) hst fun g' v w' h6 h7 => ?_)
        rw [hd]
        exact hK g' _ w' h6
      · rename_i t hd
        obtain ⟨A, N, h1, h2, h6⟩ := pureVC.sound (c := c) hT h
        split at h6
        rotate_left
        · exact h6.elim
        rename_i h34
        simp only [Bool.and_eq_true] at h34
        obtain ⟨h3, h4⟩ := h34
        exact ⟨_, add_step hoi hd (Nat.le_of_ble_eq_true h3) hG h1 (fun h => h2 (.inl h)) (fun _ _ => rfl) (fun _ _ h => h) (freeB_free h4), h6⟩

theorem tree_sound {P : Program} {T : List (Nat × TE)} {F : List Nat} (hT : TOk P T) {c : Cx} {ops : Array Oper} {E : List Nat} (hE : dirms ops = E) {K : Sy → Prop} {Q : Exit → Act → World → Prop}
    (hQ : ∀ Γ' g' a' w', K Γ' → St c Γ' g' a' w' → Q .normal a' w') (hed : ∀ j o, ops[j]? = some o → ∀ e ∈ o.after, Region.binds .any e = true → e.on < j) :
    ∀ (k : Nat) (listed : Array Bool) (done : Nat) (Γ : Sy) (g : Nat → Value) (a : Act) (w : World), listed.size = ops.size → cnt listed = k → (∀ j, j < ops.size → listed[j]? = some (done.testBit j)) →
      treeVC P T F c.n ops E k done Γ K → St c Γ g a w → wpAnyH P .any ops Q c.S k listed a w := by
  intro k
  induction k with
  | zero =>
    intro listed done Γ g a w hsz hc hd h hst
    have hall := cnt_zero hc
    refine ⟨List.eq_nil_iff_forall_not_mem.2 fun i hi => ?_, hQ _ _ _ _ h hst⟩
    obtain ⟨h1, h2, _⟩ := ready_mem.1 hi
    have := hall i (by omega)
    simp [Array.getD_eq_getD_getElem?, this] at h2
  | succ k ih =>
    intro listed done Γ g a w hsz hc hd h hst
    refine ⟨fun hrd => ?_, fun i hi => ?_⟩
    · obtain ⟨i, h1, h2⟩ := cnt_pos (listed := listed) (by omega)
      have hi : i < ops.size := by rw [← hsz]; exact (Array.getElem?_eq_some_iff.1 h1).1
      have : i ∈ Region.ready .any ops listed := ready_mem.2 ⟨hi, by simp [Array.getD_eq_getD_getElem?, h1], fun o ho e he hb => by
        have := h2 e.on (hed i o ho e he hb)
        simp [Array.getD_eq_getD_getElem?, this]⟩
      rw [hrd] at this; cases this
    · obtain ⟨h1, h2, h3⟩ := ready_mem.1 hi
      have hoi : ops[i]? = some ops[i] := by simp [h1]
      have hdi : done.testBit i = false := by
        have := hd i h1
        simp only [Array.getD_eq_getD_getElem?, this, Option.getD_some] at h2
        exact h2
      have hEi : E[i]? = some (dirm (ops[i]).after.toList 0) := by
        rw [← hE, dirms, List.getElem?_map]
        simp [h1]
      have hm := rdy_mem (done := done) (i := i) (s := 0) hEi (by rw [Nat.zero_add]; exact hdi) fun j hj => by
        rcases dirm_bit hj with h4 | ⟨e, he, hb, rfl⟩
        · simp at h4
        · have h5 := h3 _ hoi e (by simpa using he) hb
          have h6 := hed i _ hoi e (by simpa using he) hb
          have h7 := hd e.on (by omega)
          simp only [Array.getD_eq_getD_getElem?, h7, Option.getD_some] at h5
          exact h5
      rw [Nat.zero_add] at hm
      have h4 := eachP_mem h i hm
      rw [hoi] at h4
      obtain ⟨Γ', h5, h6⟩ := one_sound hT hoi h4
      have hlf : listed[i]? = some false := by rw [hd i h1, hdi]
      refine h5 Q g a w _ hst fun g' a' w' h7 => ⟨h7.s, ih _ (Nat.lor done (2 ^ i)) Γ' g' a' w' (by simp [hsz]) (by have := cnt_set hlf; omega) (fun j hj => ?_) h6 h7⟩
      show _ = some ((done ||| 2 ^ i).testBit j)
      rw [Nat.testBit_or, Nat.testBit_two_pow]
      by_cases e : i = j
      · subst e
        rw [Array.getElem?_setIfInBounds_self_of_lt (by omega)]
        simp
      · rw [Array.getElem?_setIfInBounds_ne e, hd j hj]
        simp [e]

/-- Those of L first, then every order. -/
theorem W.drawTree {P : Program} {n : Nat} {Q : Exit → Sy → Prop} {Γ : Sy} {T : List (Nat × TE)} (hT : TOk P T) (F : List Nat) (hmx : P.follows .mixedOrders = true) (L E : List Nat) (k done : Nat) (Γ2 : Sy) {id : Nat} {ops : Array Oper}
    (hd : (Nat.beq (k + L.length) ops.size && allBelow ops.size (fun j => match ops[j]? with
      | none => false
      | some o => edgesLt j o.after.toList && (memN j L == done.testBit j)) && (dirms ops == E) && floatOk ops L (Array.replicate ops.size false) && Region.noSelect ops && listOnce ops.size L) = true)
    (h : floatVC T n ops L Γ fun Γ1 => treeVC P T F n ops E k done Γ1 fun Γ' => Leaf (Sub Γ' Γ2 (mkRen Γ' Γ2))) (hnext : Q .normal Γ2) : W P n (.region id ops true) Γ Q := by
  simp only [Bool.and_eq_true] at hd
  obtain ⟨⟨⟨⟨⟨hk, hall⟩, hE⟩, hf⟩, hsel⟩, honce⟩ := hd
  have hk := Nat.eq_of_beq_eq_true hk
  have hE : dirms ops = E := by simpa using hE
  have hj : ∀ j o, ops[j]? = some o → (∀ e ∈ o.after, Region.binds .any e = true → e.on < j) ∧ memN j L = done.testBit j := by
    intro j o ho
    have hlt := (Array.getElem?_eq_some_iff.1 ho).1
    have h1 := allBelow_get hall j hlt
    rw [ho] at h1
    simp only [Bool.and_eq_true] at h1
    exact ⟨fun e he hb => edgesLt_get h1.1 (by simpa using he) hb, by simpa using h1.2⟩
  refine ⟨fun c g a w hn hst => ?_⟩
  obtain ⟨K, hK1, hK2⟩ := keepAll w (Oset Γ.own g)
  let c' : Cx := { c with K := K }
  have hst' : St c' Γ g a w := ⟨hst.defers, hst.size, hst.keep, hst.o0, hst.tmps, hK1, hst.hp⟩
  have hcK : ∀ b x, c.K b = some x → K b = some x := fun b x hb => hK2 b _ _ _ (hst.kept b x hb).1 (hst.kept b x hb).2
  have key : (Code.region id ops true).wp P (fun e a' w' => match e with | .normal => ∃ Γ' g', Leaf (Sub Γ' Γ2 (mkRen Γ' Γ2)) ∧ St c Γ' g' a' w' | _ => False) a w := by
    refine wp_region_held (S := c'.S) hmx ?_
    have hgo := floats (P := P) (c := c') (w := { w with drawn := w.drawn + 1 }) (Q := fun e a' w' => match e with | .normal => ∃ Γ' g', Leaf (Sub Γ' Γ2 (mkRen Γ' Γ2)) ∧ St c Γ' g' a' w' | _ => False) hT hsel (fun _ _ _ h => h) hK2 L (Array.replicate ops.size false) Γ a k rfl hf (by rw [← hn] at h; exact h) (hst'.keepW (Keep.drew w))
    rw [hk] at hgo
    refine hgo fun Γ1 a1 h1 hst1 => ?_
    have hLlt : ∀ i, memN i L = true → i < ops.size := by
      have : ∀ (L : List Nat), listOnce ops.size L = true → ∀ k, memN k L = true → k < ops.size := by
        intro L
        induction L with
        | nil => intro _ k hk; cases hk
        | cons i r ih =>
          intro h1 k hk
          simp only [listOnce, Bool.and_eq_true] at h1
          simp only [memN, Bool.or_eq_true] at hk
          rcases hk with hk | hk
          · rw [← Nat.eq_of_beq_eq_true hk]; exact Nat.le_of_ble_eq_true h1.1.1
          · exact ih h1.2 k hk
      exact this L honce
    have hcn := cnt_listAll (L := L) (l := Array.replicate ops.size false) honce (by simp) (fun i hi => by simp [hLlt i hi])
    have hcr : cnt (Array.replicate ops.size false) = ops.size := by simp [cnt, List.filter_replicate]
    refine tree_sound (c := c') hT hE (fun Γ' g' a' w' h2 h3 => ⟨Γ', g', h2, ⟨h3.defers, h3.size, h3.keep, h3.o0, h3.tmps, fun b x hb => h3.kept b x (hcK b x hb), h3.hp⟩⟩) (fun j o ho => (hj j o ho).1) k _ done Γ1 g a1 _ (by rw [listAll_size]; simp) (by omega) (fun j hjs => ?_) h1 hst1
    rw [listAll_get (by simpa using hjs), (hj j _ (by simp [hjs] : ops[j]? = some ops[j])).2]
    cases done.testBit j <;> simp [hjs]
  refine wp_mono key fun e a' w' hq => ?_
  cases e with
  | normal =>
    obtain ⟨Γ', g', ⟨hs⟩, h4⟩ := hq
    exact ⟨Γ2, _, hnext, hs.st h4⟩
  | _ => exact hq.elim
end Go.Vc
/- A region in whatever order, whose first operations may make what is new. No condition. -/
namespace Go.Vc
set_option linter.unusedVariables false
set_option linter.unusedSimpArgs false

/-- What the operations of D among the first n have made. -/
def fO (no : Nat → List (Nat × Ob)) (D : Nat → Bool) (own0 : List (Nat × Ob)) : Nat → List (Nat × Ob)
  | 0 => own0
  | k + 1 => if D k = true then no k ++ fO no D own0 k else fO no D own0 k
theorem fO_congr {no : Nat → List (Nat × Ob)} {D E : Nat → Bool} {own0 : List (Nat × Ob)} : ∀ {n : Nat}, (∀ k, k < n → D k = E k) → fO no D own0 n = fO no E own0 n
  | 0, _ => rfl
  | n + 1, h => by
    simp only [fO]
    rw [h n (by omega), fO_congr (n := n) fun k hk => h k (by omega)]
/-- What is looked up lies in one of them, or was there before. -/
theorem fO_get {no : Nat → List (Nat × Ob)} {D : Nat → Bool} {own0 : List (Nat × Ob)} {q : Nat} : ∀ {n : Nat} {b : Ob}, get? (fO no D own0 n) q = some b → (∃ k, k < n ∧ D k = true ∧ get? (no k) q = some b) ∨ get? own0 q = some b
  | 0, b, h => .inr h
  | n + 1, b, h => by
    simp only [fO] at h
    split at h
    · rename_i hD
      rw [get?_append] at h
      split at h
      · rename_i x hx
        cases h
        exact .inl ⟨n, by omega, hD, hx⟩
      · rcases fO_get h with ⟨k, h1, h2, h3⟩ | h1
        · exact .inl ⟨k, by omega, h2, h3⟩
        · exact .inr h1
    · rcases fO_get h with ⟨k, h1, h2, h3⟩ | h1
      · exact .inl ⟨k, by omega, h2, h3⟩
      · exact .inr h1
theorem fO_old {no : Nat → List (Nat × Ob)} {D : Nat → Bool} {own0 : List (Nat × Ob)} {q : Nat} : ∀ {n : Nat}, (∀ k, k < n → D k = true → get? (no k) q = none) → get? (fO no D own0 n) q = get? own0 q
  | 0, _ => rfl
  | n + 1, h => by
    simp only [fO]
    split
    · rename_i hD
      rw [get?_append, h n (by omega) hD]
      exact fO_old fun k hk => h k (by omega)
    · exact fO_old fun k hk => h k (by omega)
theorem fO_has {no : Nat → List (Nat × Ob)} {D : Nat → Bool} {own0 : List (Nat × Ob)} {q k : Nat} {b : Ob} : ∀ {n : Nat}, k < n → D k = true → get? (no k) q = some b → (∀ k', k' < n → D k' = true → k' ≠ k → get? (no k') q = none) → get? (fO no D own0 n) q = some b
  | 0, h, _, _, _ => by omega
  | n + 1, h, hD, hb, hne => by
    simp only [fO]
    by_cases e : k = n
    · subst e
      rw [if_pos hD, get?_append, hb]
    · have ih := fO_has (no := no) (D := D) (own0 := own0) (n := n) (by omega) hD hb fun k' hk' => hne k' (by omega)
      split
      · rename_i hDn
        rw [get?_append, hne n (by omega) hDn (by omega)]
        exact ih
      · exact ih
theorem fO_none {no : Nat → List (Nat × Ob)} {D : Nat → Bool} {own0 : List (Nat × Ob)} {q : Nat} {n : Nat} (h0 : get? own0 q = none) (h : ∀ k, k < n → D k = true → get? (no k) q = none) : get? (fO no D own0 n) q = none := by
  rw [fO_old h, h0]
theorem fO_add {no : Nat → List (Nat × Ob)} {D D' : Nat → Bool} {own0 : List (Nat × Ob)} {j : Nat} (hj : D' j = true) (hDj : D j = false) (hD : ∀ k, k ≠ j → D' k = D k) (q : Nat) : ∀ {m : Nat}, j < m → (∀ k, k < m → k ≠ j → D k = true → ∀ b, get? (no j) q = some b → get? (no k) q = none) →
    get? (fO no D' own0 m) q = get? (no j ++ fO no D own0 m) q := by
  intro m
  induction m with
  | zero => intro h; omega
  | succ m ih =>
    intro hjm hdis
    by_cases hm : m = j
    · subst hm
      have same : fO no D' own0 m = fO no D own0 m := fO_congr fun k hk => hD k (by omega)
      have hDj' : ¬ D m = true := by rw [hDj]; simp
      simp only [fO]
      rw [if_pos hj, if_neg hDj', same]
    · have ih' := ih (by omega) fun k hk => hdis k (by omega)
      simp only [fO]
      rw [hD m hm]
      by_cases hDm : D m = true
      · rw [if_pos hDm, if_pos hDm, get?_append, ih', get?_append, get?_append, get?_append]
        cases hj' : get? (no j) q with
        | none => rfl
        | some b => rw [hdis m (by omega) hm hDm b hj']
      · rw [if_neg hDm, if_neg hDm]
        exact ih'

/-- What those before have made, of those in the mask. -/
def ancO (msk : Nat) : List (Nat × AV × List (Nat × Ob)) → List (Nat × Ob) → List (Nat × Ob)
  | [], own0 => own0
  | (k, _, []) :: r, own0 => ancO msk r own0
  | (k, _, N) :: r, own0 => match msk.testBit k with
    | true => N ++ ancO msk r own0
    | false => ancO msk r own0
theorem ancO_get {msk : Nat} {own0 : List (Nat × Ob)} {q : Nat} {b : Ob} : ∀ {acc : List (Nat × AV × List (Nat × Ob))}, get? (ancO msk acc own0) q = some b → get? own0 q = some b ∨ ∃ k A N, (k, A, N) ∈ acc ∧ msk.testBit k = true ∧ get? N q = some b
  | [], h => .inl h
  | (k, A, []) :: r, h => by
    rcases ancO_get (acc := r) h with h1 | ⟨k', A', N', h1, h2⟩
    · exact .inl h1
    · exact .inr ⟨k', A', N', List.mem_cons_of_mem _ h1, h2⟩
  | (k, A, x :: y) :: r, h => by
    simp only [ancO] at h
    split at h
    · rename_i hm
      rw [get?_append] at h
      split at h
      · rename_i z hz
        cases h
        exact .inr ⟨k, A, x :: y, List.mem_cons_self, hm, hz⟩
      · rcases ancO_get (acc := r) h with h1 | ⟨k', A', N', h1, h2⟩
        · exact .inl h1
        · exact .inr ⟨k', A', N', List.mem_cons_of_mem _ h1, h2⟩
    · rcases ancO_get (acc := r) h with h1 | ⟨k', A', N', h1, h2⟩
      · exact .inl h1
      · exact .inr ⟨k', A', N', List.mem_cons_of_mem _ h1, h2⟩

/-- What is known of an operation that only adds. -/
structure NewOk (P : Program) (c : Cx) (ops : Array Oper) (own0 : List (Nat × Ob)) (msk : Nat) (acc : List (Nat × AV × List (Nat × Ob))) (j : Nat) (Γ Γ' : Sy) (av : AV) (N : List (Nat × Ob)) where
  o : Oper
  ho : ops[j]? = some o
  t : Nat
  ht : o.dst = some t
  hn : t < c.n
  G : Path
  A : AV
  own1 : List (Nat × Ob)
  hG : guardOf (dstsOf ops) Γ o.guard = some G
  hA : G.ok → Does P c o ⟨Γ.tmps, own1⟩ A N
  hown : ∀ q b, get? own1 q = some b → get? own0 q = some b ∨ ∃ k A' N', (k, A', N') ∈ acc ∧ msk.testBit k = true ∧ get? N' q = some b
  hN : G ≠ [] → N = []
  hav : av = gd' G A
  hΓ : Γ' = ⟨set Γ.tmps t av, N ++ Γ.own⟩
theorem NewOk.more {P : Program} {c : Cx} {ops : Array Oper} {own0 : List (Nat × Ob)} {msk : Nat} {acc acc' : List (Nat × AV × List (Nat × Ob))} {j : Nat} {Γ Γ' : Sy} {av : AV} {N : List (Nat × Ob)} (h : NewOk P c ops own0 msk acc j Γ Γ' av N) (hs : ∀ x ∈ acc, x ∈ acc') : Nonempty (NewOk P c ops own0 msk acc' j Γ Γ' av N) :=
  ⟨{ h with hown := fun q b hq => (h.hown q b hq).imp id fun ⟨k, A', N', h1, h2⟩ => ⟨k, A', N', hs _ h1, h2⟩ }⟩

/-- The first m operations: each sees what was owned before the region and what those before it have made, and what the text has put into the temporaries. -/
def preVC (P : Program) (T : List (Nat × TE)) (F : List Nat) (n : Nat) (dsts : List (Option Nat)) (M L : List Nat) (own0 : List (Nat × Ob)) : List Oper → Nat → Nat → Sy → List (Nat × AV × List (Nat × Ob)) → (Sy → List (Nat × AV × List (Nat × Ob)) → List Oper → Prop) → Prop
  | l, _, 0, Γ, acc, K => K Γ acc l
  | [], _, _ + 1, _, _, _ => False
  | o :: r, i, m + 1, Γ, acc, K => match memN i L with
    | true => preVC P T F n dsts M L own0 r (i + 1) m Γ acc K
    | false => match isMut o || isMade F o with
      | true => False
      | false => match guardOf dsts Γ o.guard, o.dst with
        | some G, some t => pureVC P T ⟨Γ.tmps, ancO (M.getD i 0) acc own0⟩ (memN t F) G (1000 * (t + 1)) o fun A N => match Nat.blt t n with
          | true => preVC P T F n dsts M L own0 r (i + 1) m (Γ.putA t (gd' G A) N) ((i, gd' G A, N) :: acc) K
          | false => False
        | _, _ => False
theorem preVC.trace {P : Program} {T : List (Nat × TE)} {F M L : List Nat} (hT : TOk P T) {c : Cx} {ops : Array Oper} {own0 : List (Nat × Ob)} {K : Sy → List (Nat × AV × List (Nat × Ob)) → List Oper → Prop} :
    ∀ (m : Nat) (l : List Oper) (i : Nat) (Γ : Sy) (acc : List (Nat × AV × List (Nat × Ob))), ops.toList.drop i = l → preVC P T F c.n (dstsOf ops) M L own0 l i m Γ acc K →
    ∃ (Γs : Nat → Sy) (acc' : List (Nat × AV × List (Nat × Ob))) (av : Nat → AV) (no : Nat → List (Nat × Ob)), Γs i = Γ ∧ K (Γs (i + m)) acc' (ops.toList.drop (i + m)) ∧ (∀ x ∈ acc, x ∈ acc') ∧
      (∀ x ∈ acc', x ∈ acc ∨ ∃ j, i ≤ j ∧ j < i + m ∧ memN j L = false ∧ x = (j, av j, no j)) ∧ ∀ j, i ≤ j → j < i + m → (memN j L = true → Γs (j + 1) = Γs j) ∧
      (memN j L = false → Nonempty (NewOk P c ops own0 (M.getD j 0) acc' j (Γs j) (Γs (j + 1)) (av j) (no j)) ∧ (j, av j, no j) ∈ acc') := by
  intro m
  induction m with
  | zero =>
    intro l i Γ acc hl h
    refine ⟨fun _ => Γ, acc, fun _ => .any, fun _ => [], rfl, ?_, fun x hx => hx, fun x hx => .inl hx, fun j h1 h2 => by omega⟩
    rw [Nat.add_zero, hl]
    cases l <;> exact h
  | succ m ih =>
    intro l i Γ acc hl h
    cases l with
    | nil => exact h.elim
    | cons o r =>
    have hi : i < ops.size := by
      rcases Nat.lt_or_ge i ops.size with h1 | h1
      · exact h1
      · rw [List.drop_eq_nil_of_le (by simpa using h1)] at hl; cases hl
    have hoi : ops[i]? = some o := by
      have : (ops.toList.drop i)[0]? = some o := by rw [hl]; rfl
      rw [List.getElem?_drop] at this
      simpa using this
    have hr : ops.toList.drop (i + 1) = r := by
      have := congrArg List.tail hl
      simpa [List.tail_drop] using this
    have glue : ∀ (Γ1 : Sy) (acc1 : List (Nat × AV × List (Nat × Ob))) (A0 : AV) (N0 : List (Nat × Ob)), preVC P T F c.n (dstsOf ops) M L own0 r (i + 1) m Γ1 acc1 K → (∀ x ∈ acc, x ∈ acc1) → (∀ x ∈ acc1, x ∈ acc ∨ memN i L = false ∧ x = (i, A0, N0)) →
        (memN i L = true → Γ1 = Γ) → (memN i L = false → Nonempty (NewOk P c ops own0 (M.getD i 0) acc1 i Γ Γ1 A0 N0) ∧ (i, A0, N0) ∈ acc1) →
        ∃ (Γs : Nat → Sy) (acc' : List (Nat × AV × List (Nat × Ob))) (av : Nat → AV) (no : Nat → List (Nat × Ob)), Γs i = Γ ∧ K (Γs (i + (m + 1))) acc' (ops.toList.drop (i + (m + 1))) ∧ (∀ x ∈ acc, x ∈ acc') ∧
          (∀ x ∈ acc', x ∈ acc ∨ ∃ j, i ≤ j ∧ j < i + (m + 1) ∧ memN j L = false ∧ x = (j, av j, no j)) ∧ ∀ j, i ≤ j → j < i + (m + 1) → (memN j L = true → Γs (j + 1) = Γs j) ∧
          (memN j L = false → Nonempty (NewOk P c ops own0 (M.getD j 0) acc' j (Γs j) (Γs (j + 1)) (av j) (no j)) ∧ (j, av j, no j) ∈ acc') := by
      intro Γ1 acc1 A0 N0 h1 hac hac2 hs hp
      obtain ⟨Γs, acc', av, no, g1, g2, g3, g5, g4⟩ := ih r (i + 1) Γ1 acc1 hr h1
      obtain ⟨Γr, hΓr⟩ : ∃ Γr : Nat → Sy, Γr = fun j => if j = i then Γ else Γs j := ⟨_, rfl⟩
      obtain ⟨avr, havr⟩ : ∃ avr : Nat → AV, avr = fun j => if j = i then A0 else av j := ⟨_, rfl⟩
      obtain ⟨nor, hnor⟩ : ∃ nor : Nat → List (Nat × Ob), nor = fun j => if j = i then N0 else no j := ⟨_, rfl⟩
      have ri : Γr i = Γ := by rw [hΓr]; simp
      have rn : ∀ j, j ≠ i → Γr j = Γs j := fun j hj => by rw [hΓr]; simp [hj]
      have ai : avr i = A0 := by rw [havr]; simp
      have an : ∀ j, j ≠ i → avr j = av j := fun j hj => by rw [havr]; simp [hj]
      have ni : nor i = N0 := by rw [hnor]; simp
      have nn : ∀ j, j ≠ i → nor j = no j := fun j hj => by rw [hnor]; simp [hj]
      refine ⟨Γr, acc', avr, nor, ri, ?_, fun x hx => g3 x (hac x hx), fun x hx => ?_, fun j h2 h3 => ?_⟩
      · rw [rn _ (by omega), show i + (m + 1) = i + 1 + m from by omega]
        exact g2
      · rcases g5 x hx with h2 | ⟨j, h2, h3, h4, h5⟩
        · rcases hac2 x h2 with h3 | ⟨h3, h4⟩
          · exact .inl h3
          · exact .inr ⟨i, Nat.le_refl _, by omega, h3, by rw [ai, ni]; exact h4⟩
        · exact .inr ⟨j, by omega, by omega, h4, by rw [an j (by omega), nn j (by omega)]; exact h5⟩
      · by_cases hj : j = i
        · subst hj
          rw [ri, rn (j + 1) (by omega), g1, ai, ni]
          refine ⟨hs, fun h0 => ?_⟩
          obtain ⟨⟨pk⟩, hpk⟩ := hp h0
          exact ⟨pk.more g3, g3 _ hpk⟩
        · rw [rn j hj, rn (j + 1) (by omega), an j hj, nn j hj]
          exact g4 j (by omega) (by omega)
    simp only [preVC] at h
    split at h
    · rename_i hL
      exact glue Γ acc .any [] h (fun x hx => hx) (fun x hx => .inl hx) (fun _ => rfl) (fun h0 => by rw [hL] at h0; cases h0)
    rename_i hL
    split at h
    · exact h.elim
    · split at h
      · rename_i G t hG hd
        obtain ⟨A, N, h1, h2, h6⟩ := pureVC.sound (c := c) hT h
        split at h6
        rotate_left
        · exact h6.elim
        rename_i h3
        refine glue _ _ (gd' G A) N h6 (fun x hx => List.mem_cons_of_mem _ hx) (fun x hx => ?_) (fun h0 => by rw [hL] at h0; cases h0) fun _ => ⟨⟨⟨o, hoi, t, hd, Nat.le_of_ble_eq_true h3, G, A, _, hG, h1, fun q b hq => ?_, fun h => h2 (.inl h), rfl, rfl⟩⟩, List.mem_cons_self⟩
        · rcases List.mem_cons.1 hx with h4 | h4
          · exact .inr ⟨hL, h4⟩
          · exact .inl h4
        · rcases ancO_get hq with h4 | ⟨k, A', N', h4, h5⟩
          · exact .inl h4
          · exact .inr ⟨k, A', N', List.mem_cons_of_mem _ h4, h5⟩
      · exact h.elim

/-- None of the new names stands where it must not. -/
def disjN (N' : List (Nat × Ob)) : List (Nat × Ob) → Bool
  | [] => true
  | (q, _) :: r => (get? N' q).isNone && disjN N' r
theorem disjN_get {N' : List (Nat × Ob)} {q : Nat} {b : Ob} : ∀ {N : List (Nat × Ob)}, disjN N' N = true → get? N q = some b → get? N' q = none
  | [], _, h => by cases h
  | (k, o) :: r, hl, h => by
    simp only [disjN, Bool.and_eq_true, Option.isNone_iff_eq_none] at hl
    simp only [get?] at h
    split at h
    · rename_i hb
      have := Nat.eq_of_beq_eq_true hb
      subst this
      exact hl.1
    · exact disjN_get hl.2 h
def newOk1 (M : List Nat) (i : Nat) (N : List (Nat × Ob)) : List (Nat × AV × List (Nat × Ob)) → Bool
  | [] => true
  | (k, A, N') :: r => (Nat.beq k i || disjN N' N && (freeB ⟨[(0, A)], N'⟩ N || (M.getD k 0).testBit i)) && newOk1 M i N r
def newOkA (M : List Nat) (Γ0 : Sy) (all : List (Nat × AV × List (Nat × Ob))) : List (Nat × AV × List (Nat × Ob)) → Bool
  | [] => true
  | (i, _, N) :: r => (match N with
    | [] => true
    | _ => freeB Γ0 N && newOk1 M i N all) && newOkA M Γ0 all r
theorem newOk1_get {M : List Nat} {i : Nat} {N : List (Nat × Ob)} : ∀ {l : List (Nat × AV × List (Nat × Ob))} {k : Nat} {A : AV} {N' : List (Nat × Ob)}, newOk1 M i N l = true → (k, A, N') ∈ l → k = i ∨ disjN N' N = true ∧ ((M.getD k 0).testBit i = true ∨ freeB ⟨[(0, A)], N'⟩ N = true)
  | [], k, A, N', _, h => by cases h
  | (k0, A0, N0) :: r, k, A, N', hl, h => by
    simp only [newOk1, Bool.and_eq_true, Bool.or_eq_true] at hl
    rcases List.mem_cons.1 h with e | h
    · cases e
      rcases hl.1 with h1 | ⟨h0, h1 | h1⟩
      · exact .inl (Nat.eq_of_beq_eq_true h1)
      · exact .inr ⟨h0, .inr h1⟩
      · exact .inr ⟨h0, .inl h1⟩
    · exact newOk1_get hl.2 h
theorem newOkA_get {M : List Nat} {Γ0 : Sy} {all : List (Nat × AV × List (Nat × Ob))} : ∀ {l : List (Nat × AV × List (Nat × Ob))} {i : Nat} {A : AV} {N : List (Nat × Ob)}, newOkA M Γ0 all l = true → (i, A, N) ∈ l → N = [] ∨ freeB Γ0 N = true ∧ newOk1 M i N all = true
  | [], i, A, N, _, h => by cases h
  | (i0, A0, N0) :: r, i, A, N, hl, h => by
    simp only [newOkA, Bool.and_eq_true] at hl
    rcases List.mem_cons.1 h with e | h
    · cases e
      have h1 := hl.1
      split at h1
      · exact .inl rfl
      · simp only [Bool.and_eq_true] at h1
        exact .inr h1
    · exact newOkA_get hl.2 h

/-- In whatever order; the first m operations may make what is new. -/
theorem region_new {P : Program} {T : List (Nat × TE)} {Fz : List Nat} (hT : TOk P T) (hmx : P.follows .mixedOrders = true) {c : Cx} {ops : Array Oper} {M L : List Nat} {m : Nat} (hd : drawOk ops M L m = true)
    (hf : floatOk ops L (Array.replicate ops.size false) = true) (hsel : Region.noSelect ops = true) (honce : listOnce ops.size L = true) {K : Sy → Prop} {Γ : Sy}
    (h : floatVC T c.n ops L Γ fun Γ1 => preVC P T Fz c.n (dstsOf ops) M L Γ1.own ops.toList 0 m Γ1 [] fun Γ2 acc l => match newOkA M Γ1 acc acc with
      | true => opsVC P T Fz c.n (dstsOf ops) L l m 0 Γ2 K
      | false => False)
    {Q : Exit → Act → World → Prop} (hQp : ∀ x a w, ¬ Q (.panic x) a w) {g : Nat → Value} {a : Act} {w : World} (hst : St c Γ g a w) (hfull : c.full w (Oset Γ.own g)) (hQ : ∀ Γ' g' a' w', K Γ' → St c Γ' g' a' w' → Q .normal a' w') {id : Nat} : (Code.region id ops true).wp P Q a w := by
  have F := drawOk.facts hd
  have hLlt : ∀ k, memN k L = true → k < ops.size := by
    have : ∀ (L : List Nat), listOnce ops.size L = true → ∀ k, memN k L = true → k < ops.size := by
      intro L
      induction L with
      | nil => intro _ k hk; cases hk
      | cons i r ih =>
        intro h1 k hk
        simp only [listOnce, Bool.and_eq_true] at h1
        simp only [memN, Bool.or_eq_true] at hk
        rcases hk with hk | hk
        · rw [← Nat.eq_of_beq_eq_true hk]; exact Nat.le_of_ble_eq_true h1.1.1
        · exact ih h1.2 k hk
    exact this L honce
  -- the floats first
  have hLlen : L.length ≤ ops.size := by
    have := cnt_listAll (L := L) (l := Array.replicate ops.size false) honce (by simp) (fun i hi => by simp [hLlt i hi])
    simp [cnt, List.filter_replicate] at this
    omega
  refine wp_region_held (S := c.S) hmx ?_
  have hgo := floats (P := P) (w := { w with drawn := w.drawn + 1 }) hT hsel hQp hfull L (Array.replicate ops.size false) Γ a (ops.size - L.length) rfl hf h (hst.keepW (Keep.drew w))
  rw [Nat.sub_add_cancel hLlen] at hgo
  refine hgo fun Γ a h hst => ?_
  clear hgo
  obtain ⟨Γa, acc, av, nv, a1, a2, a3, a5, a4⟩ := preVC.trace hT m ops.toList 0 Γ [] (by simp) h
  rw [Nat.zero_add] at a2
  split at a2
  rotate_left
  · exact a2.elim
  rename_i hacc
  obtain ⟨Γb, b1, b2, b3⟩ := opsVC.trace hT _ 0 m _ rfl a2
  let Γs : Nat → Sy := fun j => if j < m then Γa j else Γb j
  have ea : ∀ j, j ≤ m → Γs j = Γa j := fun j hj => by
    simp only [Γs]
    split
    · rfl
    · have : j = m := by omega
      rw [this, b1]
  have eb : ∀ j, m ≤ j → Γs j = Γb j := fun j hj => by simp only [Γs]; rw [if_neg (by omega)]
  have e1 : Γs 0 = Γ := by rw [ea 0 (Nat.zero_le _), a1]
  have e2 : K (Γs ops.size) := by rw [eb _ F.hm]; exact b2
  have e3L : ∀ j, j < ops.size → memN j L = true → Γs (j + 1) = Γs j := fun j hj hjL => by
    by_cases hjm : j < m
    · rw [ea j (by omega), ea (j + 1) (by omega)]
      exact (a4 j (Nat.zero_le _) (by omega)).1 hjL
    · rw [eb j (by omega), eb (j + 1) (by omega)]
      exact (b3 j (by omega) hj).1 hjL
  have e3 : ∀ j, m ≤ j → j < ops.size → memN j L = false → StepOk P c ops j (Γs j) (Γs (j + 1)) := fun j hjm hj hjL => by
    rw [eb j hjm, eb (j + 1) (by omega)]
    exact ((b3 j hjm hj).2 hjL).2 (by omega)
  have pre : ∀ j, j < m → memN j L = false → Nonempty (NewOk P c ops Γ.own (M.getD j 0) acc j (Γs j) (Γs (j + 1)) (av j) (nv j)) ∧ (j, av j, nv j) ∈ acc := fun j hj hjL => by
    rw [ea j (by omega), ea (j + 1) (by omega)]
    exact (a4 j (Nat.zero_le _) (by omega)).2 hjL
  let pk : ∀ j, j < m → memN j L = false → NewOk P c ops Γ.own (M.getD j 0) acc j (Γs j) (Γs (j + 1)) (av j) (nv j) := fun j hj hjL => Classical.choice (pre j hj hjL).1
  have accOf : ∀ k A N, (k, A, N) ∈ acc → k < m ∧ memN k L = false ∧ N = nv k := by
    intro k A N hx
    rcases a5 _ hx with h1 | ⟨j, _, h2, h3, h4⟩
    · cases h1
    · cases h4
      exact ⟨by omega, h3, rfl⟩
  let tb : Nat → Nat × AV := fun j => if hj : j < m ∧ memN j L = false then ((pk j hj.1 hj.2).t, av j) else (0, .any)
  have htb : ∀ j (hj : j < m) (hjL : memN j L = false), tb j = ((pk j hj hjL).t, av j) := fun j hj hjL => by simp [tb, hj, hjL]
  let no : Nat → List (Nat × Ob) := nv
  -- the new names
  have newFree : ∀ j (hj : j < m) (hjL : memN j L = false) q b, get? (no j) q = some b → Γ.free q := by
    intro j hj hjL q b hq
    rcases newOkA_get hacc (pre j hj hjL).2 with h1 | ⟨h1, h2⟩
    · have hq' : get? (nv j) q = some b := hq
      rw [h1] at hq'; cases hq'
    · exact freeB_free h1 q b hq
  have newDisj : ∀ j k (hj : j < m) (hjL : memN j L = false) (hk : k < m) (hkL : memN k L = false), k ≠ j → ∀ q b, get? (no j) q = some b → get? (no k) q = none := by
    intro j k hj hjL hk hkL hkj q b hq
    rcases newOkA_get hacc (pre j hj hjL).2 with h1 | ⟨h1, h2⟩
    · have hq' : get? (nv j) q = some b := hq
      rw [h1] at hq'; cases hq'
    · rcases newOk1_get h2 (pre k hk hkL).2 with h3 | ⟨h3, _⟩
      · exact absurd h3 hkj
      · exact disjN_get h3 hq
  have newApart : ∀ j k (hj : j < m) (hjL : memN j L = false) (hk : k < m) (hkL : memN k L = false), k ≠ j → (M.getD k 0).testBit j = false → ∀ q b, get? (no j) q = some b → (tb k).2.hasKey q = false ∧ (∀ p o, get? (no k) p = some o → o.hasKey q = false) ∧ get? (no k) q = none := by
    intro j k hj hjL hk hkL hkj hM q b hq
    rcases newOkA_get hacc (pre j hj hjL).2 with h1 | ⟨h1, h2⟩
    · have hq' : get? (nv j) q = some b := hq
      rw [h1] at hq'; cases hq'
    · rcases newOk1_get h2 (pre k hk hkL).2 with h3 | ⟨_, h3 | h3⟩
      · exact absurd h3 hkj
      · rw [hM] at h3; cases h3
      · have h4 := freeB_free h3 q b hq
        rw [htb k hk hkL]
        exact ⟨h4.1 0 _ rfl, h4.2.1, h4.2.2⟩
  let E : Nat → Bool := fun k => !(memN k L)
  -- the text's states
  have text : ∀ j, j ≤ m → Γs j = ⟨fD tb E Γ.tmps j, fO no E Γ.own j⟩ := by
    intro j
    induction j with
    | zero => intro _; rw [e1]; rfl
    | succ j ih =>
      intro hj
      have ih' := ih (by omega)
      cases hjL : memN j L with
      | true =>
        rw [e3L j (by have := F.hm; omega) hjL, ih']
        simp [fD, fO, E, hjL]
      | false =>
        have h1 := congrArg Sy.tmps ih'
        have h2 := congrArg Sy.own ih'
        have h3 := (pk j (by omega) hjL).hΓ
        rw [h3]
        have hEj : E j = true := by simp [E, hjL]
        simp only [fD, fO, hEj, if_true, htb j (by omega) hjL]
        dsimp only at h1 h2
        rw [← h2]
        congr 1
        rw [← h1]
  -- over those of L nothing happens
  have skip : ∀ q i, q ≤ i → i ≤ ops.size → (∀ k, q ≤ k → k < i → memN k L = true) → Γs i = Γs q := by
    intro q i hqi
    induction i with
    | zero => intro _ _; have : q = 0 := by omega
              rw [this]
    | succ i ih =>
      intro hi hk
      by_cases e : q = i + 1
      · rw [e]
      · rw [e3L i (by omega) (hk i (by omega) (by omega))]
        exact ih (by omega) (by omega) (fun k h1 h2 => hk k h1 (by omega))
  let dn : Array Bool → Nat → Bool := fun listed j => listed.getD j false && E j
  have key : ∀ (fuel : Nat) (listed : Array Bool) (g : Nat → Value) (a : Act) (w : World), listed.size = ops.size → cnt listed = fuel → (∀ k, memN k L = true → listed[k]? = some true) →
      (∀ j i, listed[j]? = some true → (M.getD j 0).testBit i = true → listed.getD i false = true) →
      (((∀ j, m ≤ j → j < ops.size → memN j L = false → listed[j]? = some false) ∧ St c ⟨fD tb (dn listed) Γ.tmps m, fO no (dn listed) Γ.own m⟩ g a w) ∨
        ∃ q, m ≤ q ∧ q ≤ ops.size ∧ (∀ j, j < q → listed[j]? = some true) ∧ (∀ j, q ≤ j → j < ops.size → memN j L = false → listed[j]? = some false) ∧ St c (Γs q) g a w) →
      wpAnyH P .any ops Q c.S fuel listed a w := by
    intro fuel
    induction fuel with
    | zero =>
      intro listed g a w hsz hc hLl hcl hs
      have hall := cnt_zero hc
      have hrd : Region.ready .any ops listed = [] := by
        refine List.eq_nil_iff_forall_not_mem.2 fun i hi => ?_
        obtain ⟨h1, h2, _⟩ := ready_mem.1 hi
        have := hall i (by omega)
        simp [Array.getD_eq_getD_getElem?, this] at h2
      refine ⟨hrd, ?_⟩
      have fin : ∀ q, q ≤ ops.size → (∀ j, q ≤ j → j < ops.size → memN j L = false → listed[j]? = some false) → St c (Γs q) g a w → Q .normal a w := by
        intro q hq h1 h2
        have : Γs ops.size = Γs q := skip q ops.size hq (Nat.le_refl _) (fun k h3 h4 => by
          cases hk : memN k L with
          | true => rfl
          | false => have h5 := h1 k h3 h4 hk; rw [hall k (by omega)] at h5; cases h5)
        exact hQ _ g a w e2 (by rw [this]; exact h2)
      rcases hs with ⟨h1, h2⟩ | ⟨q, h1, h2, h3, h4, h5⟩
      · refine fin m F.hm h1 ?_
        rw [text m (Nat.le_refl _)]
        have hm := F.hm
        refine h2.congr (fun t => ?_) (fun q => ?_)
        · refine (fD_text (j := m) (Nat.le_refl _) (fun k hk _ => ?_)).symm
          simp [dn, Array.getD_eq_getD_getElem?, hall k (by omega), hk]
        · dsimp only
          rw [fO_congr (D := dn listed) (E := E) fun k hk => by simp [dn, Array.getD_eq_getD_getElem?, hall k (by omega)]]
      · exact fin q h2 h4 h5
    | succ fuel ih =>
      intro listed g a w hsz hc hLl hcl hs
      refine ⟨fun hrd => ?_, fun i hi => ?_⟩
      · -- something is ready
        obtain ⟨i, h1, h2⟩ := cnt_pos (listed := listed) (by omega)
        have hi : i < ops.size := by rw [← hsz]; exact (Array.getElem?_eq_some_iff.1 h1).1
        have : i ∈ Region.ready .any ops listed := ready_mem.2 ⟨hi, by simp [Array.getD_eq_getD_getElem?, h1], fun o ho e he hb => by
          have := h2 e.on (F.edge i o ho e he hb)
          simp [Array.getD_eq_getD_getElem?, this]⟩
        rw [hrd] at this; cases this
      · obtain ⟨hi, hli, hpre⟩ := ready_mem.1 hi
        have hlf : listed[i]? = some false := by
          have : i < listed.size := by omega
          simp only [Array.getD_eq_getD_getElem?] at hli
          cases hb : listed[i]? with
          | none => rw [hb] at hli; cases hli
          | some b => rw [hb] at hli; simp at hli; rw [hli]
        have hlf' : listed.getD i false = false := by simp [Array.getD_eq_getD_getElem?, hlf]
        have hiL : memN i L = false := by
          cases hb : memN i L with
          | false => rfl
          | true => rw [hLl i hb] at hlf; cases hlf
        have hoi : ops[i]? = some ops[i] := by simp [hi]
        have hmask : ∀ k, (M.getD i 0).testBit k = true → listed.getD k false = true := by
          intro k hk
          obtain ⟨e, he, hb, h1⟩ := F.mask i _ k hoi hk
          have h2 := hpre _ hoi e he hb
          rcases h1 with rfl | h1
          · exact h2
          · refine hcl e.on k ?_ h1
            simp only [Array.getD_eq_getD_getElem?] at h2
            cases hb' : listed[e.on]? with
            | none => rw [hb'] at h2; cases h2
            | some b => rw [hb'] at h2; simp at h2; rw [h2]
        have hsz' : (listed.setIfInBounds i true).size = ops.size := by simp [hsz]
        have hc' : cnt (listed.setIfInBounds i true) = fuel := by have := cnt_set hlf; omega
        have hget : ∀ k, (listed.setIfInBounds i true)[k]? = if k = i then some true else listed[k]? := by
          intro k
          by_cases hk : k = i
          · subst hk; simp [hsz, hi]
          · rw [if_neg hk, Array.getElem?_setIfInBounds_ne (Ne.symm hk)]
        have hgetD : ∀ k, (listed.setIfInBounds i true).getD k false = if k = i then true else listed.getD k false := by
          intro k
          simp only [Array.getD_eq_getD_getElem?, hget]
          split <;> rfl
        have hLl' : ∀ k, memN k L = true → (listed.setIfInBounds i true)[k]? = some true := by
          intro k hk
          rw [hget]
          split
          · rfl
          · exact hLl k hk
        have hcl' : ∀ j k, (listed.setIfInBounds i true)[j]? = some true → (M.getD j 0).testBit k = true → (listed.setIfInBounds i true).getD k false = true := by
          intro j k hj hk
          rw [hgetD]
          split
          · rfl
          · rw [hget] at hj
            split at hj
            · rename_i e; rw [e] at hk; exact hmask k hk
            · exact hcl j k hj hk
        have toGet : ∀ k, listed.getD k false = true → listed[k]? = some true := by
          intro k hk
          simp only [Array.getD_eq_getD_getElem?] at hk
          cases hb' : listed[k]? with
          | none => rw [hb'] at hk; cases hk
          | some b => rw [hb'] at hk; simp at hk; rw [hk]
        -- which phase
        have phase2 : ∀ q, m ≤ q → q ≤ ops.size → (∀ j, j < q → listed[j]? = some true) → (∀ j, q ≤ j → j < ops.size → memN j L = false → listed[j]? = some false) → St c (Γs q) g a w → wpOp P ops Q i (fun a' w' => c.S w' ∧ wpAnyH P .any ops Q c.S fuel (listed.setIfInBounds i true) a' w') a w := by
          intro q h1 h2 h3 h4 h5
          have hge : q ≤ i := by
            rcases Nat.lt_or_ge i q with h6 | h6
            · rw [h3 i h6] at hlf; cases hlf
            · exact h6
          have hbet : ∀ k, q ≤ k → k < i → memN k L = true := by
            intro k hk1 hk2
            cases hk : memN k L with
            | true => rfl
            | false =>
              have h7 := hmask k (F.tail k i hk hiL hk2 (by omega) hi)
              have h8 := h4 k hk1 (by omega) hk
              simp [Array.getD_eq_getD_getElem?, h8] at h7
          have hsk := skip q i hge (by omega) hbet
          refine e3 i (by omega) hi hiL Q g a w _ (by rw [hsk]; exact h5) fun g' a' w' h6 => ⟨h6.s, ?_⟩
          refine ih _ g' a' w' hsz' hc' hLl' hcl' (.inr ⟨i + 1, by omega, by omega, fun j hj => ?_, fun j hj hj2 hjL => ?_, h6⟩)
          · rw [hget]
            split
            · rfl
            · rcases Nat.lt_or_ge j q with h7 | h7
              · exact h3 j h7
              · exact hLl j (hbet j h7 (by omega))
          · rw [hget, if_neg (by omega)]
            exact h4 j (by omega) hj2 hjL
        rcases hs with ⟨h1, h2⟩ | ⟨q, h1, h2, h3, h4, h5⟩
        · by_cases him : i < m
          · -- one of the first ones
            have dstOf : ∀ k (hk : k < m) (hkL : memN k L = false), ops[k]? = some (pk k hk hkL).o ∧ (pk k hk hkL).o.dst = some (tb k).1 := fun k hk hkL => ⟨(pk k hk hkL).ho, by rw [(pk k hk hkL).ht, htb k hk hkL]⟩
            have hlook : ∀ t, t ∈ (ops[i]).looksAt ops → get? (fD tb (dn listed) Γ.tmps m) t = get? (Γs i).tmps t := by
              intro t ht
              rw [text i (by omega)]
              refine fD_text (by omega) fun k hk hkt => ?_
              cases hkL : memN k L with
              | true => simp [dn, E, hkL]
              | false =>
                have hks : k < ops.size := by have := F.hm; omega
                have hok : ops[k]? = some ops[k] := by simp [hks]
                have hdk : (ops[k]).dst = some t := by
                  obtain ⟨h6, h7⟩ := dstOf k hk hkL
                  rw [Option.some.inj (hok.symm.trans h6), h7, hkt]
                have hE : E k = true := by simp [E, hkL]
                rcases Nat.lt_trichotomy k i with h6 | h6 | h6
                · have : listed.getD k false = true := by
                    rcases F.pre k i _ _ hkL hiL h6 him hok hoi with h7 | h7
                    · exact hmask k h7
                    · exact absurd ht ((Oper.apart_spec h7).1 t hdk)
                  simp only [dn, this, hE, h6, decide_true, Bool.and_self]
                · subst h6
                  simp only [dn, hlf', Bool.false_and, Nat.lt_irrefl, decide_false]
                · have : listed.getD k false = false := by
                    cases hb : listed.getD k false with
                    | false => rfl
                    | true =>
                      rcases F.pre i k _ _ hiL hkL h6 hk hoi hok with h7 | h7
                      · have h8 := hcl k i (toGet k hb) h7
                        rw [hlf'] at h8; cases h8
                      · exact absurd ht ((Oper.apart_spec h7).2.2 t hdk)
                  have h7 : decide (k < i) = false := by simp; omega
                  simp only [dn, this, Bool.false_and, h7]
            have hpo : (pk i him hiL).o = ops[i] := Option.some.inj ((pk i him hiL).ho.symm.trans hoi)
            have hanc : ∀ k (hk : k < m) (hkL : memN k L = false), k ≠ i → dn listed k = true → (M.getD k 0).testBit i = false := by
              intro k hk hkL hki hDk
              cases hb : (M.getD k 0).testBit i with
              | false => rfl
              | true =>
                simp only [dn, Bool.and_eq_true] at hDk
                have h8 := hcl k i (toGet k hDk.1) hb
                rw [hlf'] at h8; cases h8
            have dnL : ∀ k, dn listed k = true → memN k L = false := by
              intro k hDk
              simp only [dn, Bool.and_eq_true, E, Bool.not_eq_true'] at hDk
              exact hDk.2
            have hdni : dn listed i = false := by simp only [dn, hlf', Bool.false_and]
            have hki : ∀ k, dn listed k = true → k ≠ i := fun k hDk e => by rw [e, hdni] at hDk; cases hDk
            have hpk := pk i him hiL
            have hstep := add_step (P := P) (c := c) (ops := ops) (j := i) (Γ := ⟨(Γs i).tmps, (pk i him hiL).own1⟩) (Γ' := ⟨fD tb (dn listed) Γ.tmps m, fO no (dn listed) Γ.own m⟩) (N := no i) (pk i him hiL).ho (pk i him hiL).ht (pk i him hiL).hn
              (by rw [guardOf_congr (Γ := Γs i) (by rw [hpo]; exact hlook)]; exact (pk i him hiL).hG) (pk i him hiL).hA (pk i him hiL).hN (look_congr (Γ := ⟨(Γs i).tmps, (pk i him hiL).own1⟩) (by rw [hpo]; exact hlook))
              (fun q b hq => by
                dsimp only at hq ⊢
                rcases (pk i him hiL).hown q b hq with h8 | ⟨k, A', N', h8, h9, h10⟩
                · rw [fO_old fun k' hk' hDk' => ?_]
                  · exact h8
                  · cases hq' : get? (no k') q with
                    | none => rfl
                    | some b' => have := (newFree k' hk' (dnL k' hDk') q b' hq').2.2; rw [h8] at this; cases this
                · obtain ⟨hk, hkL, rfl⟩ := accOf k A' N' h8
                  have hDk : dn listed k = true := by
                    have h11 := hmask k h9
                    have h12 : E k = true := by simp [E, hkL]
                    simp only [dn, h11, h12, Bool.and_self]
                  exact fO_has hk hDk h10 fun k' hk' hDk' hne => newDisj k k' hk hkL hk' (dnL k' hDk') hne q b h10)
              (fun q b hq => by
                have hf := newFree i him hiL q b hq
                refine ⟨fun t A hA => ?_, fun p o hp => ?_, ?_⟩
                · have hgo : ∀ n, n ≤ m → get? (fD tb (dn listed) Γ.tmps n) t = some A → A.hasKey q = false := by
                    intro n
                    induction n with
                    | zero => intro _ h8; exact hf.1 t A h8
                    | succ n ihn =>
                      intro hnm h8
                      simp only [fD] at h8
                      split at h8
                      · rename_i hDn
                        rw [get?_set] at h8
                        split at h8
                        · cases h8
                          exact (newApart i n him hiL (by omega) (dnL n hDn) (hki n hDn) (hanc n (by omega) (dnL n hDn) (hki n hDn) hDn) q b hq).1
                        · exact ihn (by omega) h8
                      · exact ihn (by omega) h8
                  exact hgo m (Nat.le_refl _) hA
                · rcases fO_get hp with ⟨k, hk, hDk, h8⟩ | h8
                  · exact (newApart i k him hiL hk (dnL k hDk) (hki k hDk) (hanc k hk (dnL k hDk) (hki k hDk) hDk) q b hq).2.1 p o h8
                  · exact hf.2.1 p o h8
                · exact fO_none hf.2.2 fun k hk hDk => (newApart i k him hiL hk (dnL k hDk) (hki k hDk) (hanc k hk (dnL k hDk) (hki k hDk) hDk) q b hq).2.2)
            refine hstep Q g a w _ h2 fun g' a' w' h6 => ⟨h6.s, ?_⟩
            refine ih _ g' a' w' hsz' hc' hLl' hcl' (.inl ⟨fun j hj hj2 hjL => by rw [hget, if_neg (by omega)]; exact h1 j hj hj2 hjL, ?_⟩)
            have hdn' : dn (listed.setIfInBounds i true) i = true := by
              have : E i = true := by simp [E, hiL]
              simp only [dn, hgetD, if_true, this, Bool.and_self]
            refine h6.congr (fun t => ?_) (fun q => fO_add hdn' hdni (fun k hk => by simp only [dn, hgetD, if_neg hk]) q him fun k hk hki' hDk b hq => newDisj i k him hiL hk (dnL k hDk) hki' q b hq)
            have hEi : E i = true := by simp [E, hiL]
            have h7 := fD_add (tb := tb) (l0 := Γ.tmps) (j := i) (D := dn listed) (D' := dn (listed.setIfInBounds i true)) (by simp only [dn, hgetD, if_true, hEi, Bool.and_self]) (fun k hk => by simp only [dn, hgetD, if_neg hk]) (m := m) t him (by simp only [dn, hlf', Bool.false_and]) (fun k hk hki hkt hDk => by
              rcases Nat.lt_or_ge k i with h8 | h8
              · exact h8
              · have hik : i < k := by omega
                simp only [dn, Bool.and_eq_true] at hDk
                have hkL : memN k L = false := by
                  have := hDk.2
                  simp only [E, Bool.not_eq_true'] at this
                  exact this
                obtain ⟨hok, hd2⟩ := dstOf k hk hkL
                obtain ⟨hoi', hd1⟩ := dstOf i him hiL
                rcases F.pre i k _ _ hiL hkL hik hk hoi' hok with h9 | h9
                · have h10 := hcl k i (toGet k hDk.1) h9
                  rw [hlf'] at h10; cases h10
                · exact absurd (by rw [hd2, hkt]) ((Oper.apart_spec h9).2.1 _ hd1))
            rw [h7, get?_set, htb i him hiL, ← (pk i him hiL).hav]
          · -- the rest has begun
            have hall : ∀ j, j < m → listed[j]? = some true := by
              intro j hj
              cases hjL : memN j L with
              | true => exact hLl j hjL
              | false => exact toGet j (hmask j (F.tail j i hjL hiL (by omega) (by omega) hi))
            refine phase2 m (Nat.le_refl _) F.hm hall h1 ?_
            rw [text m (Nat.le_refl _)]
            refine h2.congr (fun t => ?_) (fun q => ?_)
            · refine (fD_text (j := m) (Nat.le_refl _) (fun k hk _ => ?_)).symm
              simp [dn, Array.getD_eq_getD_getElem?, hall k hk, hk]
            · dsimp only
              rw [fO_congr (D := dn listed) (E := E) fun k hk => by simp [dn, Array.getD_eq_getD_getElem?, hall k hk]]
        · exact phase2 q h1 h2 h3 h4 h5
  have hcn := cnt_listAll (L := L) (l := Array.replicate ops.size false) honce (by simp) (fun i hi => by simp [hLlt i hi])
  have hcr : cnt (Array.replicate ops.size false) = ops.size := by simp [cnt, List.filter_replicate]
  refine key (ops.size - L.length) (listAll L (Array.replicate ops.size false)) g a _ (by rw [listAll_size]; simp) (by omega) (fun k hk => by rw [listAll_get (by simpa using hLlt k hk), hk]; rfl) ?_ (.inl ⟨fun j _ hj hjL => by rw [listAll_get (by simpa using hj), hjL]; simp [hj], ?_⟩)
  · -- what is listed has all before it
    exact listAll_closed F hf
  · have hdn0 : ∀ n, n < ops.size → dn (listAll L (Array.replicate ops.size false)) n = false := by
      intro n hn
      simp only [dn, Array.getD_eq_getD_getElem?]
      rw [listAll_get (by simp; omega)]
      cases hL : memN n L with
      | true => simp [E, hL]
      | false => simp [show n < ops.size by omega]
    refine hst.congr (fun t => ?_) (fun q => fO_old fun k hk hDk => by rw [hdn0 k (by have := F.hm; omega)] at hDk; cases hDk)
    have : ∀ n, n ≤ ops.size → fD tb (dn (listAll L (Array.replicate ops.size false))) Γ.tmps n = Γ.tmps := by
      intro n
      induction n with
      | zero => intro _; rfl
      | succ n ih =>
        intro hn
        simp only [fD]
        rw [if_neg, ih (by omega)]
        simp only [dn, Array.getD_eq_getD_getElem?]
        rw [listAll_get (by simp; omega)]
        cases hL : memN n L with
        | true => simp [E, hL]
        | false => simp [show n < ops.size by omega]
    rw [this m F.hm]
/-- Those of L first; of the rest the first m in whatever order. -/
theorem W.drawNew {P : Program} {n : Nat} {Q : Exit → Sy → Prop} {Γ : Sy} {T : List (Nat × TE)} (hT : TOk P T) (F : List Nat) (hmx : P.follows .mixedOrders = true) (M L : List Nat) (m : Nat) {id : Nat} {ops : Array Oper}
    (hd : (drawOk ops M L m && floatOk ops L (Array.replicate ops.size false) && Region.noSelect ops && listOnce ops.size L) = true)
    (h : floatVC T n ops L Γ fun Γ1 => preVC P T F n (dstsOf ops) M L Γ1.own ops.toList 0 m Γ1 [] fun Γ2 acc l => match newOkA M Γ1 acc acc with
      | true => opsVC P T F n (dstsOf ops) L l m 0 Γ2 (Q .normal)
      | false => False) : W P n (.region id ops true) Γ Q := by
  simp only [Bool.and_eq_true] at hd
  obtain ⟨⟨⟨h1, h2⟩, h3⟩, h4⟩ := hd
  refine ⟨fun c g a w hn hst => ?_⟩
  obtain ⟨K, hK1, hK2⟩ := keepAll w (Oset Γ.own g)
  let c' : Cx := { c with K := K }
  have hst' : St c' Γ g a w := ⟨hst.defers, hst.size, hst.keep, hst.o0, hst.tmps, hK1, hst.hp⟩
  have hcK : ∀ b x, c.K b = some x → K b = some x := fun b x hb => hK2 b _ _ _ (hst.kept b x hb).1 (hst.kept b x hb).2
  have key : (Code.region id ops true).wp P (fun e a' w' => match e with | .normal => ∃ Γ' g', Q .normal Γ' ∧ St c Γ' g' a' w' | _ => False) a w := by
    subst hn
    exact region_new (c := c') hT hmx h1 h2 h3 h4 (K := Q .normal) h (fun _ _ _ h => h) hst' hK2
      fun Γ' g' a' w' h1 h2 => ⟨Γ', g', h1, ⟨h2.defers, h2.size, h2.keep, h2.o0, h2.tmps, fun b x hb => h2.kept b x (hcK b x hb), h2.hp⟩⟩
  refine wp_mono key fun e a' w' hq => ?_
  cases e with
  | normal => exact hq
  | _ => exact hq.elim
end Go.Vc

/- Groups: of the program and of the document. No condition. -/
namespace Go.Proofs.Ytohfemfgnohhdaa
open Go Go.Vc
set_option linter.unusedVariables false
set_option linter.unusedSimpArgs false

def okAt (n : Nat) (g : List Int) (i : Nat) : Bool := decide (0 ≤ g.getD i 0) && decide (g.getD i 0 < n) && (decide (i = 0) || decide (g.getD (i - 1) 0 < g.getD i 0))
def grpB (n : Nat) (g : List Int) : Bool := (List.range g.length).all (okAt n g)
theorem okAt_false {n : Nat} {g : List Int} {i : Nat} : okAt n g i = false ↔ g.getD i 0 < 0 ∨ (n : Int) ≤ g.getD i 0 ∨ 0 < i ∧ g.getD i 0 ≤ g.getD (i - 1) 0 := by
  simp only [okAt, Bool.and_eq_false_iff, Bool.or_eq_false_iff, decide_eq_false_iff_not]
  omega
theorem okAt_true {n : Nat} {g : List Int} {i : Nat} : okAt n g i = true ↔ 0 ≤ g.getD i 0 ∧ g.getD i 0 < n ∧ (i = 0 ∨ g.getD (i - 1) 0 < g.getD i 0) := by
  simp only [okAt, Bool.and_eq_true, Bool.or_eq_true, decide_eq_true_eq]
  omega
theorem grpB_true {n : Nat} {g : List Int} (h : ∀ i, i < g.length → okAt n g i = true) : grpB n g = true :=
  List.all_eq_true.2 fun i hi => h i (List.mem_range.1 hi)
theorem grpB_false {n : Nat} {g : List Int} {i : Nat} (hi : i < g.length) (h : okAt n g i = false) : grpB n g = false := by
  cases e : grpB n g with
  | false => rfl
  | true =>
    have := List.all_eq_true.1 e i (List.mem_range.2 hi)
    rw [h] at this
    cases this
theorem grpB.grp {n : Nat} {g : List Int} (h : grpB n g = true) : Grp n g := by
  have h1 : ∀ i, i < g.length → okAt n g i = true := fun i hi => List.all_eq_true.1 h i (List.mem_range.2 hi)
  refine ⟨fun i hi => ?_, fun i hi => ?_⟩
  · have := okAt_true.1 (h1 i hi); omega
  · have := okAt_true.1 (h1 (i + 1) hi); simp only [Nat.add_sub_cancel] at this; omega
theorem Grp.grpB {n : Nat} {g : List Int} (h : Grp n g) : grpB n g = true := by
  refine grpB_true fun i hi => okAt_true.2 ?_
  have := h.val i hi
  refine ⟨this.1, this.2, ?_⟩
  cases i with
  | zero => exact .inl rfl
  | succ i => exact .inr (h.rise i hi)
set_option maxHeartbeats 2000000 in
theorem Group_ref (n : Nat) (g : List Int) (hn : 1 ≤ n ∧ n ≤ 1000) (hg : g.length ≤ 1000) : FnAt Try.prog false 36 [.lit (.int .i64 n), .arr (.int .i64) g] (.lit (.bool (grpB n g))) [] := by
  refine FnAt.of_body tys_ok Try.func36 (by rfl) rfl Try.ntmps36 (by rw [Try.results36]) (by simp) ?_
  
  repeat' (first
    | refine W.seq ?_
    | refine W.block ?_
    | (refine W.region tys_ok [] ?_; conv => whnf)
    | (refine W.drawAll tys_ok [] mixed rfl ?_; conv => whnf)
    | (refine W.ret ?_; conv => whnf)
    | (refine W.skip ?_; conv => whnf)
    | (refine W.exit ?_; conv => whnf)

    | (refine W.cond rfl (fun hb => ?_) (fun hb => ?_) <;> (try simp only [minL, maxL, pickB, getD_int, getD_sl, getD_bool, len_int, len_sl, len_bool, decide_eq_true_eq, decide_eq_false_iff_not, Bool.and_eq_true, Bool.or_eq_true, Bool.and_eq_false_iff, Bool.or_eq_false_iff, Bool.not_eq_true', Bool.not_eq_false', Int.toNat_natCast, Int.ofNat_lt, Int.ofNat_le, not_true_eq_false, not_false_eq_true, or_false, false_or, and_true, true_and, or_true, true_or, and_false, false_and] at hb) <;> (try (first | (cases hb; done) | exact absurd hb (by decide) | (exfalso; omega))))
    | ((with_reducible refine And.intro ?_ ?_); (focus ((repeat' (first | (with_reducible rfl) | (with_reducible refine And.intro ?_ ?_) | omega | rfl | exact Or.inl rfl | exact Or.inr rfl | (focus ((try simp only [minL, maxL, pickB, getD_int, getD_sl, getD_bool, len_int, len_sl, len_bool, decide_eq_true_eq, decide_eq_false_iff_not, Bool.and_eq_true, Bool.or_eq_true, Bool.and_eq_false_iff, Bool.or_eq_false_iff, Bool.not_eq_true', Bool.not_eq_false', Int.toNat_natCast, Int.ofNat_lt, Int.ofNat_le, not_true_eq_false, not_false_eq_true, or_false, false_or, and_true, true_and, or_true, true_or, and_false, false_and, InK, Path.imp, List.length_replicate, List.length_set, List.length_append, List.length_cons, List.length_nil] at *); omega)) | (refine app_le rfl ?_; omega))); done)); (conv => whnf))
    | ((with_reducible refine And.intro (Side.out ?_) ?_); rotate_left; (conv => whnf))
    | (refine Exists.intro _ (And.intro rfl (And.intro rfl (And.intro ?_ ?_))) <;> (conv => whnf) <;> repeat' (first
    | exact trivial
    | rfl
    | (refine And.intro (fun h => h) (Or.inl ?_))
    | (refine And.intro (fun _ => rfl) (Or.inl ?_))
    | (refine And.intro (fun h => Bool.noConfusion h) (Or.inl ?_))
    | (with_reducible refine And.intro (fun _ => rfl) ?_)
    | ((with_reducible refine And.intro ?_ ?_) <;> conv => whnf)
    | (refine congrArg (Value.int _) ?_)
    | (refine congrArg (SV.arr _) ?_)
    | (refine congrArg Value.bool ?_)
    | (exact fun h => Bool.noConfusion h)))); all_goals (try unfold Side)
  refine W.loop (fun i : Nat => ⟨[(0, .lit (.int .i64 n)), (1, .st false (.arr (.int .i64) g)), (5, .lit (.int .i64 i))], []⟩)
    (fun i => i ≤ g.length ∧ ∀ j, j < i → okAt n g j = true) (fun i => g.length - i) 0 ?_ ?_
  · refine ⟨⟨Nat.zero_le _, fun j hj => by omega⟩, ?_⟩
    refine ⟨rfl, ?_, ?_⟩ <;> (conv => whnf) <;> repeat' (first
    | exact trivial
    | rfl
    | (refine And.intro (fun h => h) (Or.inl ?_))
    | (refine And.intro (fun _ => rfl) (Or.inl ?_))
    | (refine And.intro (fun h => Bool.noConfusion h) (Or.inl ?_))
    | (with_reducible refine And.intro (fun _ => rfl) ?_)
    | ((with_reducible refine And.intro ?_ ?_) <;> conv => whnf)
    | (refine congrArg (Value.int _) ?_)
    | (refine congrArg (SV.arr _) ?_)
    | (refine congrArg Value.bool ?_)
    | (exact fun h => Bool.noConfusion h))
  · rintro i ⟨hi, hj⟩
    have e1 : ((i : Int) - 1).toNat = i - 1 := by omega
    by_cases hil : i < g.length
    · have hin := in_at (g.getD i 0) 0 ((n : Int) - 1)
      repeat' (first
    | refine W.seq ?_
    | refine W.block ?_
    | (refine W.region tys_ok [] ?_; conv => whnf)
    | (refine W.drawAll tys_ok [] mixed rfl ?_; conv => whnf)
    | (refine W.ret ?_; conv => whnf)
    | (refine W.skip ?_; conv => whnf)
    | (refine W.exit ?_; conv => whnf)
    | (refine ⟨false, _, _, _, _, rfl, Path.imp_of (hin), rfl, rfl, rfl, ?_⟩; conv => whnf)

    | (refine W.cond rfl (fun hb => ?_) (fun hb => ?_) <;> (try simp only [minL, maxL, pickB, getD_int, getD_sl, getD_bool, len_int, len_sl, len_bool, decide_eq_true_eq, decide_eq_false_iff_not, Bool.and_eq_true, Bool.or_eq_true, Bool.and_eq_false_iff, Bool.or_eq_false_iff, Bool.not_eq_true', Bool.not_eq_false', Int.toNat_natCast, Int.ofNat_lt, Int.ofNat_le, not_true_eq_false, not_false_eq_true, or_false, false_or, and_true, true_and, or_true, true_or, and_false, false_and] at hb) <;> (try (first | (cases hb; done) | exact absurd hb (by decide) | (exfalso; omega))))
    | ((with_reducible refine And.intro ?_ ?_); (focus ((repeat' (first | (with_reducible rfl) | (with_reducible refine And.intro ?_ ?_) | omega | rfl | exact Or.inl rfl | exact Or.inr rfl | (focus ((try simp only [minL, maxL, pickB, getD_int, getD_sl, getD_bool, len_int, len_sl, len_bool, decide_eq_true_eq, decide_eq_false_iff_not, Bool.and_eq_true, Bool.or_eq_true, Bool.and_eq_false_iff, Bool.or_eq_false_iff, Bool.not_eq_true', Bool.not_eq_false', Int.toNat_natCast, Int.ofNat_lt, Int.ofNat_le, not_true_eq_false, not_false_eq_true, or_false, false_or, and_true, true_and, or_true, true_or, and_false, false_and, InK, Path.imp, List.length_replicate, List.length_set, List.length_append, List.length_cons, List.length_nil] at *); omega)) | (refine app_le rfl ?_; omega))); done)); (conv => whnf))
    | ((with_reducible refine And.intro (Side.out ?_) ?_); rotate_left; (conv => whnf))
    | (refine Exists.intro _ (And.intro rfl (And.intro rfl (And.intro ?_ ?_))) <;> (conv => whnf) <;> repeat' (first
    | exact trivial
    | rfl
    | (refine And.intro (fun h => h) (Or.inl ?_))
    | (refine And.intro (fun _ => rfl) (Or.inl ?_))
    | (refine And.intro (fun h => Bool.noConfusion h) (Or.inl ?_))
    | (with_reducible refine And.intro (fun _ => rfl) ?_)
    | ((with_reducible refine And.intro ?_ ?_) <;> conv => whnf)
    | (refine congrArg (Value.int _) ?_)
    | (refine congrArg (SV.arr _) ?_)
    | (refine congrArg Value.bool ?_)
    | (exact fun h => Bool.noConfusion h)))); all_goals (try unfold Side)
      all_goals try (repeat' (first | (with_reducible rfl) | (with_reducible refine And.intro ?_ ?_) | omega | rfl | exact Or.inl rfl | exact Or.inr rfl | (focus ((try simp only [minL, maxL, pickB, getD_int, getD_sl, getD_bool, len_int, len_sl, len_bool, decide_eq_true_eq, decide_eq_false_iff_not, Bool.and_eq_true, Bool.or_eq_true, Bool.and_eq_false_iff, Bool.or_eq_false_iff, Bool.not_eq_true', Bool.not_eq_false', Int.toNat_natCast, Int.ofNat_lt, Int.ofNat_le, not_true_eq_false, not_false_eq_true, or_false, false_or, and_true, true_and, or_true, true_or, and_false, false_and, InK, Path.imp, List.length_replicate, List.length_set, List.length_append, List.length_cons, List.length_nil] at *); omega)) | (refine app_le rfl ?_; omega)))
      · rename_i hb
        rw [e1] at hb
        exact (grpB_false hil (okAt_false.2 (by omega))).symm
      · rename_i hb
        rw [e1] at hb
        refine ⟨i + 1, ⟨⟨by omega, fun j hj1 => ?_⟩, by omega⟩, ?_⟩
        · by_cases e : j = i
          · subst e; exact okAt_true.2 (by omega)
          · exact hj j (by omega)
        · refine ⟨rfl, ?_, ?_⟩ <;> (conv => whnf) <;> repeat' (first
    | exact trivial
    | rfl
    | (refine And.intro (fun h => h) (Or.inl ?_))
    | (refine And.intro (fun _ => rfl) (Or.inl ?_))
    | (refine And.intro (fun h => Bool.noConfusion h) (Or.inl ?_))
    | (with_reducible refine And.intro (fun _ => rfl) ?_)
    | ((with_reducible refine And.intro ?_ ?_) <;> conv => whnf)
    | (refine congrArg (Value.int _) ?_)
    | (refine congrArg (SV.arr _) ?_)
    | (refine congrArg Value.bool ?_)
    | (exact fun h => Bool.noConfusion h))
    · have hie : i = g.length := by omega
      subst hie
      repeat' (first
    | refine W.seq ?_
    | refine W.block ?_
    | (refine W.region tys_ok [] ?_; conv => whnf)
    | (refine W.drawAll tys_ok [] mixed rfl ?_; conv => whnf)
    | (refine W.ret ?_; conv => whnf)
    | (refine W.skip ?_; conv => whnf)
    | (refine W.exit ?_; conv => whnf)

    | (refine W.cond rfl (fun hb => ?_) (fun hb => ?_) <;> (try simp only [minL, maxL, pickB, getD_int, getD_sl, getD_bool, len_int, len_sl, len_bool, decide_eq_true_eq, decide_eq_false_iff_not, Bool.and_eq_true, Bool.or_eq_true, Bool.and_eq_false_iff, Bool.or_eq_false_iff, Bool.not_eq_true', Bool.not_eq_false', Int.toNat_natCast, Int.ofNat_lt, Int.ofNat_le, not_true_eq_false, not_false_eq_true, or_false, false_or, and_true, true_and, or_true, true_or, and_false, false_and] at hb) <;> (try (first | (cases hb; done) | exact absurd hb (by decide) | (exfalso; omega))))
    | ((with_reducible refine And.intro ?_ ?_); (focus ((repeat' (first | (with_reducible rfl) | (with_reducible refine And.intro ?_ ?_) | omega | rfl | exact Or.inl rfl | exact Or.inr rfl | (focus ((try simp only [minL, maxL, pickB, getD_int, getD_sl, getD_bool, len_int, len_sl, len_bool, decide_eq_true_eq, decide_eq_false_iff_not, Bool.and_eq_true, Bool.or_eq_true, Bool.and_eq_false_iff, Bool.or_eq_false_iff, Bool.not_eq_true', Bool.not_eq_false', Int.toNat_natCast, Int.ofNat_lt, Int.ofNat_le, not_true_eq_false, not_false_eq_true, or_false, false_or, and_true, true_and, or_true, true_or, and_false, false_and, InK, Path.imp, List.length_replicate, List.length_set, List.length_append, List.length_cons, List.length_nil] at *); omega)) | (refine app_le rfl ?_; omega))); done)); (conv => whnf))
    | ((with_reducible refine And.intro (Side.out ?_) ?_); rotate_left; (conv => whnf))
    | (refine Exists.intro _ (And.intro rfl (And.intro rfl (And.intro ?_ ?_))) <;> (conv => whnf) <;> repeat' (first
    | exact trivial
    | rfl
    | (refine And.intro (fun h => h) (Or.inl ?_))
    | (refine And.intro (fun _ => rfl) (Or.inl ?_))
    | (refine And.intro (fun h => Bool.noConfusion h) (Or.inl ?_))
    | (with_reducible refine And.intro (fun _ => rfl) ?_)
    | ((with_reducible refine And.intro ?_ ?_) <;> conv => whnf)
    | (refine congrArg (Value.int _) ?_)
    | (refine congrArg (SV.arr _) ?_)
    | (refine congrArg Value.bool ?_)
    | (exact fun h => Bool.noConfusion h)))); all_goals (try unfold Side)
      all_goals try (repeat' (first | (with_reducible rfl) | (with_reducible refine And.intro ?_ ?_) | omega | rfl | exact Or.inl rfl | exact Or.inr rfl | (focus ((try simp only [minL, maxL, pickB, getD_int, getD_sl, getD_bool, len_int, len_sl, len_bool, decide_eq_true_eq, decide_eq_false_iff_not, Bool.and_eq_true, Bool.or_eq_true, Bool.and_eq_false_iff, Bool.or_eq_false_iff, Bool.not_eq_true', Bool.not_eq_false', Int.toNat_natCast, Int.ofNat_lt, Int.ofNat_le, not_true_eq_false, not_false_eq_true, or_false, false_or, and_true, true_and, or_true, true_or, and_false, false_and, InK, Path.imp, List.length_replicate, List.length_set, List.length_append, List.length_cons, List.length_nil] at *); omega)) | (refine app_le rfl ?_; omega)))
      exact (grpB_true hj).symm
set_option maxHeartbeats 2000000 in
theorem group_bad1 {fl : List Int} {gs : List (List Int)} {g : List Int} (hok : riverOk fl gs = false) (h1 : fl.length ≤ 1000) (h2 : gs.length ≤ 1000) (h3 : ∀ i, i < gs.length → (gs.getD i []).length ≤ 1000) :
    FnAt Try.prog true 55 [.arr (.int .i64) fl, .arr (.sl (.int .i64)) gs, .arr (.int .i64) g] (.tup [.strct [.st true (.arr (.int .i64) []), .st true (.arr (.sl (.int .i64)) [])], .lit (.int .i64 1)]) [] := by
  have hr := read_at fl gs h1 h2 h3
  rw [hok] at hr
  refine FnAt.of_body tys_ok Try.func55 (by rfl) rfl Try.ntmps55 (by rw [Try.results55]) (by simp) ?_
  
  repeat' (first
    | refine W.seq ?_
    | refine W.block ?_
    | (refine W.region tys_ok [] ?_; conv => whnf)
    | (refine W.drawAll tys_ok [] mixed rfl ?_; conv => whnf)
    | (refine W.ret ?_; conv => whnf)
    | (refine W.skip ?_; conv => whnf)
    | (refine W.exit ?_; conv => whnf)
    | (refine ⟨true, _, _, _, _, rfl, Path.imp_of (hr), rfl, rfl, rfl, ?_⟩; conv => whnf)

    | (refine W.cond rfl (fun hb => ?_) (fun hb => ?_) <;> (try simp only [minL, maxL, pickB, getD_int, getD_sl, getD_bool, len_int, len_sl, len_bool, decide_eq_true_eq, decide_eq_false_iff_not, Bool.and_eq_true, Bool.or_eq_true, Bool.and_eq_false_iff, Bool.or_eq_false_iff, Bool.not_eq_true', Bool.not_eq_false', Int.toNat_natCast, Int.ofNat_lt, Int.ofNat_le, not_true_eq_false, not_false_eq_true, or_false, false_or, and_true, true_and, or_true, true_or, and_false, false_and] at hb) <;> (try (first | (cases hb; done) | exact absurd hb (by decide) | (exfalso; omega))))
    | ((with_reducible refine And.intro ?_ ?_); (focus ((repeat' (first | (with_reducible rfl) | (with_reducible refine And.intro ?_ ?_) | omega | rfl | exact Or.inl rfl | exact Or.inr rfl | (focus ((try simp only [minL, maxL, pickB, getD_int, getD_sl, getD_bool, len_int, len_sl, len_bool, decide_eq_true_eq, decide_eq_false_iff_not, Bool.and_eq_true, Bool.or_eq_true, Bool.and_eq_false_iff, Bool.or_eq_false_iff, Bool.not_eq_true', Bool.not_eq_false', Int.toNat_natCast, Int.ofNat_lt, Int.ofNat_le, not_true_eq_false, not_false_eq_true, or_false, false_or, and_true, true_and, or_true, true_or, and_false, false_and, InK, Path.imp, List.length_replicate, List.length_set, List.length_append, List.length_cons, List.length_nil] at *); omega)) | (refine app_le rfl ?_; omega))); done)); (conv => whnf))
    | ((with_reducible refine And.intro (Side.out ?_) ?_); rotate_left; (conv => whnf))
    | (refine Exists.intro _ (And.intro rfl (And.intro rfl (And.intro ?_ ?_))) <;> (conv => whnf) <;> repeat' (first
    | exact trivial
    | rfl
    | (refine And.intro (fun h => h) (Or.inl ?_))
    | (refine And.intro (fun _ => rfl) (Or.inl ?_))
    | (refine And.intro (fun h => Bool.noConfusion h) (Or.inl ?_))
    | (with_reducible refine And.intro (fun _ => rfl) ?_)
    | ((with_reducible refine And.intro ?_ ?_) <;> conv => whnf)
    | (refine congrArg (Value.int _) ?_)
    | (refine congrArg (SV.arr _) ?_)
    | (refine congrArg Value.bool ?_)
    | (exact fun h => Bool.noConfusion h)))); all_goals (try unfold Side)
  all_goals try (repeat' (first | (with_reducible rfl) | (with_reducible refine And.intro ?_ ?_) | omega | rfl | exact Or.inl rfl | exact Or.inr rfl | (focus ((try simp only [minL, maxL, pickB, getD_int, getD_sl, getD_bool, len_int, len_sl, len_bool, decide_eq_true_eq, decide_eq_false_iff_not, Bool.and_eq_true, Bool.or_eq_true, Bool.and_eq_false_iff, Bool.or_eq_false_iff, Bool.not_eq_true', Bool.not_eq_false', Int.toNat_natCast, Int.ofNat_lt, Int.ofNat_le, not_true_eq_false, not_false_eq_true, or_false, false_or, and_true, true_and, or_true, true_or, and_false, false_and, InK, Path.imp, List.length_replicate, List.length_set, List.length_append, List.length_cons, List.length_nil] at *); omega)) | (refine app_le rfl ?_; omega)))
set_option maxHeartbeats 2000000 in
theorem group_at {fl : List Int} {gs : List (List Int)} {g : List Int} {b : Bool} (hok : riverOk fl gs = true) (hg : grpB fl.length g = b) (hgl : g.length ≤ 1000) (h1 : fl.length ≤ 1000) (h2 : gs.length ≤ 1000) (h3 : ∀ i, i < gs.length → (gs.getD i []).length ≤ 1000) :
    FnAt Try.prog true 55 [.arr (.int .i64) fl, .arr (.sl (.int .i64)) gs, .arr (.int .i64) g] (.tup [.strct [.st true (.arr (.int .i64) (cond b fl [])), .st true (.arr (.sl (.int .i64)) (cond b gs []))], .lit (.int .i64 (cond b 0 2))]) [] := by
  have hr := read_at fl gs h1 h2 h3
  rw [hok] at hr
  refine FnAt.of_body tys_ok Try.func55 (by rfl) rfl Try.ntmps55 (by rw [Try.results55]) (by simp) ?_
  
  repeat' (first
    | refine W.seq ?_
    | refine W.block ?_
    | (refine W.region tys_ok [] ?_; conv => whnf)
    | (refine W.drawAll tys_ok [] mixed rfl ?_; conv => whnf)
    | (refine W.ret ?_; conv => whnf)
    | (refine W.skip ?_; conv => whnf)
    | (refine W.exit ?_; conv => whnf)
    | (refine ⟨true, _, _, _, _, rfl, Path.imp_of (hr), rfl, rfl, rfl, ?_⟩; conv => whnf)

    | (refine W.cond rfl (fun hb => ?_) (fun hb => ?_) <;> (try simp only [minL, maxL, pickB, getD_int, getD_sl, getD_bool, len_int, len_sl, len_bool, decide_eq_true_eq, decide_eq_false_iff_not, Bool.and_eq_true, Bool.or_eq_true, Bool.and_eq_false_iff, Bool.or_eq_false_iff, Bool.not_eq_true', Bool.not_eq_false', Int.toNat_natCast, Int.ofNat_lt, Int.ofNat_le, not_true_eq_false, not_false_eq_true, or_false, false_or, and_true, true_and, or_true, true_or, and_false, false_and] at hb) <;> (try (first | (cases hb; done) | exact absurd hb (by decide) | (exfalso; omega))))
    | ((with_reducible refine And.intro ?_ ?_); (focus ((repeat' (first | (with_reducible rfl) | (with_reducible refine And.intro ?_ ?_) | omega | rfl | exact Or.inl rfl | exact Or.inr rfl | (focus ((try simp only [minL, maxL, pickB, getD_int, getD_sl, getD_bool, len_int, len_sl, len_bool, decide_eq_true_eq, decide_eq_false_iff_not, Bool.and_eq_true, Bool.or_eq_true, Bool.and_eq_false_iff, Bool.or_eq_false_iff, Bool.not_eq_true', Bool.not_eq_false', Int.toNat_natCast, Int.ofNat_lt, Int.ofNat_le, not_true_eq_false, not_false_eq_true, or_false, false_or, and_true, true_and, or_true, true_or, and_false, false_and, InK, Path.imp, List.length_replicate, List.length_set, List.length_append, List.length_cons, List.length_nil] at *); omega)) | (refine app_le rfl ?_; omega))); done)); (conv => whnf))
    | ((with_reducible refine And.intro (Side.out ?_) ?_); rotate_left; (conv => whnf))
    | (refine Exists.intro _ (And.intro rfl (And.intro rfl (And.intro ?_ ?_))) <;> (conv => whnf) <;> repeat' (first
    | exact trivial
    | rfl
    | (refine And.intro (fun h => h) (Or.inl ?_))
    | (refine And.intro (fun _ => rfl) (Or.inl ?_))
    | (refine And.intro (fun h => Bool.noConfusion h) (Or.inl ?_))
    | (with_reducible refine And.intro (fun _ => rfl) ?_)
    | ((with_reducible refine And.intro ?_ ?_) <;> conv => whnf)
    | (refine congrArg (Value.int _) ?_)
    | (refine congrArg (SV.arr _) ?_)
    | (refine congrArg Value.bool ?_)
    | (exact fun h => Bool.noConfusion h)))); all_goals (try unfold Side)
  all_goals try (repeat' (first | (with_reducible rfl) | (with_reducible refine And.intro ?_ ?_) | omega | rfl | exact Or.inl rfl | exact Or.inr rfl | (focus ((try simp only [minL, maxL, pickB, getD_int, getD_sl, getD_bool, len_int, len_sl, len_bool, decide_eq_true_eq, decide_eq_false_iff_not, Bool.and_eq_true, Bool.or_eq_true, Bool.and_eq_false_iff, Bool.or_eq_false_iff, Bool.not_eq_true', Bool.not_eq_false', Int.toNat_natCast, Int.ofNat_lt, Int.ofNat_le, not_true_eq_false, not_false_eq_true, or_false, false_or, and_true, true_and, or_true, true_or, and_false, false_and, InK, Path.imp, List.length_replicate, List.length_set, List.length_append, List.length_cons, List.length_nil] at *); omega)) | (refine app_le rfl ?_; omega)))
  refine W.loop (fun i : Nat => ⟨[(6, .padr 7000 0), (8, .padr 9000 0), (0, .st true (.arr (.int .i64) fl)), (2, .st true (.arr (.int .i64) g)), (21, .st true (.arr (.int .i64) g)), (22, .lit (.int .i64 g.length)), (23, .lit (.int .i64 i))],
      [(7000, .box [.lit (.slice none 0 0), .lit (.slice none 0 0)]), (9000, .box [.st true (.arr (.int .i64) fl), .st true (.arr (.sl (.int .i64)) gs)])]⟩)
    (fun i => i ≤ g.length ∧ ∀ j, j < i → okAt fl.length g j = true) (fun i => g.length - i) 0 ?_ ?_
  · refine ⟨⟨Nat.zero_le _, fun j hj => by omega⟩, ?_⟩
    refine ⟨rfl, ?_, ?_⟩ <;> (conv => whnf) <;> repeat' (first
    | exact trivial
    | rfl
    | (refine And.intro (fun h => h) (Or.inl ?_))
    | (refine And.intro (fun _ => rfl) (Or.inl ?_))
    | (refine And.intro (fun h => Bool.noConfusion h) (Or.inl ?_))
    | (with_reducible refine And.intro (fun _ => rfl) ?_)
    | ((with_reducible refine And.intro ?_ ?_) <;> conv => whnf)
    | (refine congrArg (Value.int _) ?_)
    | (refine congrArg (SV.arr _) ?_)
    | (refine congrArg Value.bool ?_)
    | (exact fun h => Bool.noConfusion h))
  · rintro i ⟨hi, hj⟩
    have e1 : ((i : Int) - 1).toNat = i - 1 := by omega
    by_cases hil : i < g.length
    · repeat' (first
    | refine W.seq ?_
    | refine W.block ?_
    | (refine W.region tys_ok [] ?_; conv => whnf)
    | (refine W.drawAll tys_ok [] mixed rfl ?_; conv => whnf)
    | (refine W.ret ?_; conv => whnf)
    | (refine W.skip ?_; conv => whnf)
    | (refine W.exit ?_; conv => whnf)

    | (refine W.cond rfl (fun hb => ?_) (fun hb => ?_) <;> (try simp only [minL, maxL, pickB, getD_int, getD_sl, getD_bool, len_int, len_sl, len_bool, decide_eq_true_eq, decide_eq_false_iff_not, Bool.and_eq_true, Bool.or_eq_true, Bool.and_eq_false_iff, Bool.or_eq_false_iff, Bool.not_eq_true', Bool.not_eq_false', Int.toNat_natCast, Int.ofNat_lt, Int.ofNat_le, not_true_eq_false, not_false_eq_true, or_false, false_or, and_true, true_and, or_true, true_or, and_false, false_and] at hb) <;> (try (first | (cases hb; done) | exact absurd hb (by decide) | (exfalso; omega))))
    | ((with_reducible refine And.intro ?_ ?_); (focus ((repeat' (first | (with_reducible rfl) | (with_reducible refine And.intro ?_ ?_) | omega | rfl | exact Or.inl rfl | exact Or.inr rfl | (focus ((try simp only [minL, maxL, pickB, getD_int, getD_sl, getD_bool, len_int, len_sl, len_bool, decide_eq_true_eq, decide_eq_false_iff_not, Bool.and_eq_true, Bool.or_eq_true, Bool.and_eq_false_iff, Bool.or_eq_false_iff, Bool.not_eq_true', Bool.not_eq_false', Int.toNat_natCast, Int.ofNat_lt, Int.ofNat_le, not_true_eq_false, not_false_eq_true, or_false, false_or, and_true, true_and, or_true, true_or, and_false, false_and, InK, Path.imp, List.length_replicate, List.length_set, List.length_append, List.length_cons, List.length_nil] at *); omega)) | (refine app_le rfl ?_; omega))); done)); (conv => whnf))
    | ((with_reducible refine And.intro (Side.out ?_) ?_); rotate_left; (conv => whnf))
    | (refine Exists.intro _ (And.intro rfl (And.intro rfl (And.intro ?_ ?_))) <;> (conv => whnf) <;> repeat' (first
    | exact trivial
    | rfl
    | (refine And.intro (fun h => h) (Or.inl ?_))
    | (refine And.intro (fun _ => rfl) (Or.inl ?_))
    | (refine And.intro (fun h => Bool.noConfusion h) (Or.inl ?_))
    | (with_reducible refine And.intro (fun _ => rfl) ?_)
    | ((with_reducible refine And.intro ?_ ?_) <;> conv => whnf)
    | (refine congrArg (Value.int _) ?_)
    | (refine congrArg (SV.arr _) ?_)
    | (refine congrArg Value.bool ?_)
    | (exact fun h => Bool.noConfusion h)))); all_goals (try unfold Side)
      all_goals try (repeat' (first | (with_reducible rfl) | (with_reducible refine And.intro ?_ ?_) | omega | rfl | exact Or.inl rfl | exact Or.inr rfl | (focus ((try simp only [minL, maxL, pickB, getD_int, getD_sl, getD_bool, len_int, len_sl, len_bool, decide_eq_true_eq, decide_eq_false_iff_not, Bool.and_eq_true, Bool.or_eq_true, Bool.and_eq_false_iff, Bool.or_eq_false_iff, Bool.not_eq_true', Bool.not_eq_false', Int.toNat_natCast, Int.ofNat_lt, Int.ofNat_le, not_true_eq_false, not_false_eq_true, or_false, false_or, and_true, true_and, or_true, true_or, and_false, false_and, InK, Path.imp, List.length_replicate, List.length_set, List.length_append, List.length_cons, List.length_nil] at *); omega)) | (refine app_le rfl ?_; omega)))
      iterate 3
        · rename_i hb
          rw [e1] at hb
          have hbf : b = false := by rw [← hg]; exact grpB_false hil (okAt_false.2 (by omega))
          rw [hbf] <;> rfl
      rename_i hb
      rw [e1] at hb
      refine ⟨i + 1, ⟨⟨by omega, fun j hj1 => ?_⟩, by omega⟩, ?_⟩
      · by_cases e : j = i
        · subst e; exact okAt_true.2 (by omega)
        · exact hj j (by omega)
      · refine ⟨rfl, ?_, ?_⟩ <;> (conv => whnf) <;> repeat' (first
    | exact trivial
    | rfl
    | (refine And.intro (fun h => h) (Or.inl ?_))
    | (refine And.intro (fun _ => rfl) (Or.inl ?_))
    | (refine And.intro (fun h => Bool.noConfusion h) (Or.inl ?_))
    | (with_reducible refine And.intro (fun _ => rfl) ?_)
    | ((with_reducible refine And.intro ?_ ?_) <;> conv => whnf)
    | (refine congrArg (Value.int _) ?_)
    | (refine congrArg (SV.arr _) ?_)
    | (refine congrArg Value.bool ?_)
    | (exact fun h => Bool.noConfusion h))
    · have hie : i = g.length := by omega
      subst hie
      have hbt : b = true := by rw [← hg]; exact grpB_true hj
      subst hbt
      repeat' (first
    | refine W.seq ?_
    | refine W.block ?_
    | (refine W.region tys_ok [] ?_; conv => whnf)
    | (refine W.drawAll tys_ok [] mixed rfl ?_; conv => whnf)
    | (refine W.ret ?_; conv => whnf)
    | (refine W.skip ?_; conv => whnf)
    | (refine W.exit ?_; conv => whnf)

    | (refine W.cond rfl (fun hb => ?_) (fun hb => ?_) <;> (try simp only [minL, maxL, pickB, getD_int, getD_sl, getD_bool, len_int, len_sl, len_bool, decide_eq_true_eq, decide_eq_false_iff_not, Bool.and_eq_true, Bool.or_eq_true, Bool.and_eq_false_iff, Bool.or_eq_false_iff, Bool.not_eq_true', Bool.not_eq_false', Int.toNat_natCast, Int.ofNat_lt, Int.ofNat_le, not_true_eq_false, not_false_eq_true, or_false, false_or, and_true, true_and, or_true, true_or, and_false, false_and] at hb) <;> (try (first | (cases hb; done) | exact absurd hb (by decide) | (exfalso; omega))))
    | ((with_reducible refine And.intro ?_ ?_); (focus ((repeat' (first | (with_reducible rfl) | (with_reducible refine And.intro ?_ ?_) | omega | rfl | exact Or.inl rfl | exact Or.inr rfl | (focus ((try simp only [minL, maxL, pickB, getD_int, getD_sl, getD_bool, len_int, len_sl, len_bool, decide_eq_true_eq, decide_eq_false_iff_not, Bool.and_eq_true, Bool.or_eq_true, Bool.and_eq_false_iff, Bool.or_eq_false_iff, Bool.not_eq_true', Bool.not_eq_false', Int.toNat_natCast, Int.ofNat_lt, Int.ofNat_le, not_true_eq_false, not_false_eq_true, or_false, false_or, and_true, true_and, or_true, true_or, and_false, false_and, InK, Path.imp, List.length_replicate, List.length_set, List.length_append, List.length_cons, List.length_nil] at *); omega)) | (refine app_le rfl ?_; omega))); done)); (conv => whnf))
    | ((with_reducible refine And.intro (Side.out ?_) ?_); rotate_left; (conv => whnf))
    | (refine Exists.intro _ (And.intro rfl (And.intro rfl (And.intro ?_ ?_))) <;> (conv => whnf) <;> repeat' (first
    | exact trivial
    | rfl
    | (refine And.intro (fun h => h) (Or.inl ?_))
    | (refine And.intro (fun _ => rfl) (Or.inl ?_))
    | (refine And.intro (fun h => Bool.noConfusion h) (Or.inl ?_))
    | (with_reducible refine And.intro (fun _ => rfl) ?_)
    | ((with_reducible refine And.intro ?_ ?_) <;> conv => whnf)
    | (refine congrArg (Value.int _) ?_)
    | (refine congrArg (SV.arr _) ?_)
    | (refine congrArg Value.bool ?_)
    | (exact fun h => Bool.noConfusion h)))); all_goals (try unfold Side)
      all_goals try (repeat' (first | (with_reducible rfl) | (with_reducible refine And.intro ?_ ?_) | omega | rfl | exact Or.inl rfl | exact Or.inr rfl | (focus ((try simp only [minL, maxL, pickB, getD_int, getD_sl, getD_bool, len_int, len_sl, len_bool, decide_eq_true_eq, decide_eq_false_iff_not, Bool.and_eq_true, Bool.or_eq_true, Bool.and_eq_false_iff, Bool.or_eq_false_iff, Bool.not_eq_true', Bool.not_eq_false', Int.toNat_natCast, Int.ofNat_lt, Int.ofNat_le, not_true_eq_false, not_false_eq_true, or_false, false_or, and_true, true_and, or_true, true_or, and_false, false_and, InK, Path.imp, List.length_replicate, List.length_set, List.length_append, List.length_cons, List.length_nil] at *); omega)) | (refine app_le rfl ?_; omega)))

/-- The gains of the places of a group; the others gain nothing. -/
def onlyL (gs : List (List Int)) (n : Nat) (g : List Int) : List (List Int) := g.foldl (fun l a => l.set a.toNat (gs.getD a.toNat [])) (List.replicate n [])
theorem onlyL_snoc {gs : List (List Int)} {n : Nat} {g : List Int} {a : Int} : onlyL gs n (g ++ [a]) = (onlyL gs n g).set a.toNat (gs.getD a.toNat []) := by
  simp [onlyL, List.foldl_append]
theorem foldl_set_len {gs : List (List Int)} : ∀ {g : List Int} {l : List (List Int)}, (g.foldl (fun l a => l.set a.toNat (gs.getD a.toNat [])) l).length = l.length
  | [], l => rfl
  | a :: r, l => by simp only [List.foldl_cons]; rw [foldl_set_len, List.length_set]
theorem onlyL_len {gs : List (List Int)} {n : Nat} {g : List Int} : (onlyL gs n g).length = n := by rw [onlyL, foldl_set_len, List.length_replicate]
theorem foldl_set_get {gs : List (List Int)} {j : Nat} : ∀ {g : List Int} {l : List (List Int)}, (l.getD j [] = [] ∨ l.getD j [] = gs.getD j []) →
    (g.foldl (fun l a => l.set a.toNat (gs.getD a.toNat [])) l).getD j [] = [] ∨ (g.foldl (fun l a => l.set a.toNat (gs.getD a.toNat [])) l).getD j [] = gs.getD j []
  | [], l, h => h
  | a :: r, l, h => by
    simp only [List.foldl_cons]
    refine foldl_set_get ?_
    by_cases ha : a.toNat < l.length
    · rw [getD_set ha]
      split
      · rename_i e; rw [e]; exact .inr rfl
      · exact h
    · rw [List.set_eq_of_length_le (by omega)]; exact h
theorem onlyL_get {gs : List (List Int)} {n : Nat} {g : List Int} (j : Nat) : (onlyL gs n g).getD j [] = [] ∨ (onlyL gs n g).getD j [] = gs.getD j [] :=
  foldl_set_get (.inl (by rw [List.getD_eq_getElem?_getD, List.getElem?_replicate]; split <;> rfl))
theorem Riv.only {fl : List Int} {gs : List (List Int)} (h : Riv fl gs) (g : List Int) : Riv fl (onlyL gs fl.length g) := by
  refine ⟨⟨by rw [onlyL_len, h.len]; exact h.g.len, fun i hi => ?_, fun i hi j hj => ?_⟩, fun i hi => ?_, onlyL_len.symm, h.val⟩
  · rw [onlyL_len] at hi
    rcases onlyL_get (gs := gs) (n := fl.length) (g := g) i with e | e
    · rw [e]; simp
    · rw [e]; exact h.g.lens i (by have := h.len; omega)
  · rw [onlyL_len] at hi
    rcases onlyL_get (gs := gs) (n := fl.length) (g := g) i with e | e
    · rw [e] at hj; simp at hj
    · rw [e] at hj ⊢; exact h.g.val i (by have := h.len; omega) j hj
  · rw [onlyL_len] at hi
    rcases onlyL_get (gs := gs) (n := fl.length) (g := g) i with e | e
    · rw [e]; rfl
    · rw [e]; exact h.d i (by have := h.len; omega)
set_option maxHeartbeats 2000000 in
theorem only_at (fl : List Int) (gs : List (List Int)) (g : List Int) (h : Riv fl gs) (hg : Grp fl.length g) :
    FnAt Try.prog true 56 [.agg [.arr (.int .i64) fl, .arr (.sl (.int .i64)) gs], .arr (.int .i64) g] (.strct [.st true (.arr (.int .i64) fl), .own 0]) [(0, .row 22 (.sl (.int .i64)) true (onlyL gs fl.length g))] := by
  have hl := h.len
  have hl8 := h.g.len
  have hgl := hg.len
  refine FnAt.of_body tys_ok Try.func56 (by rfl) rfl Try.ntmps56 (by rw [Try.results56]) (by simp) ?_
  
  repeat' (first
    | refine W.seq ?_
    | refine W.block ?_
    | (refine W.drawNew (id := 1) tys_ok [] mixed [0, 1, 0, 4, 12, 28, 63, 0, 255] [] 8 (by decide +kernel) ?_; conv => whnf)
    | (refine W.region tys_ok [] ?_; conv => whnf)
    | (refine W.drawAll tys_ok [] mixed rfl ?_; conv => whnf)
    | (refine W.ret ?_; conv => whnf)
    | (refine W.skip ?_; conv => whnf)
    | (refine W.exit ?_; conv => whnf)

    | (refine W.cond rfl (fun hb => ?_) (fun hb => ?_) <;> (try simp only [minL, maxL, pickB, getD_int, getD_sl, getD_bool, len_int, len_sl, len_bool, decide_eq_true_eq, decide_eq_false_iff_not, Bool.and_eq_true, Bool.or_eq_true, Bool.and_eq_false_iff, Bool.or_eq_false_iff, Bool.not_eq_true', Bool.not_eq_false', Int.toNat_natCast, Int.ofNat_lt, Int.ofNat_le, not_true_eq_false, not_false_eq_true, or_false, false_or, and_true, true_and, or_true, true_or, and_false, false_and] at hb) <;> (try (first | (cases hb; done) | exact absurd hb (by decide) | (exfalso; omega))))
    | ((with_reducible refine And.intro ?_ ?_); (focus ((repeat' (first | (with_reducible rfl) | (with_reducible refine And.intro ?_ ?_) | omega | rfl | exact Or.inl rfl | exact Or.inr rfl | (focus ((try simp only [minL, maxL, pickB, getD_int, getD_sl, getD_bool, len_int, len_sl, len_bool, decide_eq_true_eq, decide_eq_false_iff_not, Bool.and_eq_true, Bool.or_eq_true, Bool.and_eq_false_iff, Bool.or_eq_false_iff, Bool.not_eq_true', Bool.not_eq_false', Int.toNat_natCast, Int.ofNat_lt, Int.ofNat_le, not_true_eq_false, not_false_eq_true, or_false, false_or, and_true, true_and, or_true, true_or, and_false, false_and, InK, Path.imp, List.length_replicate, List.length_set, List.length_append, List.length_cons, List.length_nil] at *); omega)) | (refine app_le rfl ?_; omega))); done)); (conv => whnf))
    | ((with_reducible refine And.intro (Side.out ?_) ?_); rotate_left; (conv => whnf))
    | (refine Exists.intro _ (And.intro rfl (And.intro rfl (And.intro ?_ ?_))) <;> (conv => whnf) <;> repeat' (first
    | exact trivial
    | rfl
    | (refine And.intro (fun h => h) (Or.inl ?_))
    | (refine And.intro (fun _ => rfl) (Or.inl ?_))
    | (refine And.intro (fun h => Bool.noConfusion h) (Or.inl ?_))
    | (with_reducible refine And.intro (fun _ => rfl) ?_)
    | ((with_reducible refine And.intro ?_ ?_) <;> conv => whnf)
    | (refine congrArg (Value.int _) ?_)
    | (refine congrArg (SV.arr _) ?_)
    | (refine congrArg Value.bool ?_)
    | (exact fun h => Bool.noConfusion h)))); all_goals (try unfold Side)
  all_goals try (repeat' (first | (with_reducible rfl) | (with_reducible refine And.intro ?_ ?_) | omega | rfl | exact Or.inl rfl | exact Or.inr rfl | (focus ((try simp only [minL, maxL, pickB, getD_int, getD_sl, getD_bool, len_int, len_sl, len_bool, decide_eq_true_eq, decide_eq_false_iff_not, Bool.and_eq_true, Bool.or_eq_true, Bool.and_eq_false_iff, Bool.or_eq_false_iff, Bool.not_eq_true', Bool.not_eq_false', Int.toNat_natCast, Int.ofNat_lt, Int.ofNat_le, not_true_eq_false, not_false_eq_true, or_false, false_or, and_true, true_and, or_true, true_or, and_false, false_and, InK, Path.imp, List.length_replicate, List.length_set, List.length_append, List.length_cons, List.length_nil] at *); omega)) | (refine app_le rfl ?_; omega)))
  refine W.loop (fun i : Nat => ⟨[(2, .padr 3000 0), (4, .padr 5000 0), (5, .padr 6000 0), (13, .own 14000), (15, .st true (.arr (.int .i64) g)), (16, .lit (.int .i64 g.length)), (17, .lit (.int .i64 i))],
      [(3000, .box [.st true (.arr (.int .i64) fl), .st true (.arr (.sl (.int .i64)) gs)]), (5000, .box [.lit (.slice none 0 0), .lit (.slice none 0 0)]), (6000, .box [.st true (.arr (.int .i64) fl), .own 14000]), (14000, .row 22 (.sl (.int .i64)) true (onlyL gs fl.length (g.take i)))]⟩)
    (fun i => i ≤ g.length) (fun i => g.length - i) 0 ?_ ?_
  · refine ⟨Nat.zero_le _, ?_⟩
    refine ⟨rfl, ?_, ?_⟩ <;> (conv => whnf) <;> repeat' (first
    | exact trivial
    | rfl
    | (refine And.intro (fun h => h) (Or.inl ?_))
    | (refine And.intro (fun _ => rfl) (Or.inl ?_))
    | (refine And.intro (fun h => Bool.noConfusion h) (Or.inl ?_))
    | (with_reducible refine And.intro (fun _ => rfl) ?_)
    | ((with_reducible refine And.intro ?_ ?_) <;> conv => whnf)
    | (refine congrArg (Value.int _) ?_)
    | (refine congrArg (SV.arr _) ?_)
    | (refine congrArg Value.bool ?_)
    | (exact fun h => Bool.noConfusion h))
  · intro i hi
    have hol : @List.length (Ty.sl (.int .i64)).T (onlyL gs fl.length (g.take i)) = fl.length := onlyL_len
    by_cases hil : i < g.length
    · have hv := hg.val i hil
      repeat' (first
    | refine W.seq ?_
    | refine W.block ?_
    | (refine W.drawTo (id := 5) tys_ok [] mixed [] 9 (by decide +kernel) ?_; conv => whnf)
    | (refine W.region tys_ok [] ?_; conv => whnf)
    | (refine W.drawAll tys_ok [] mixed rfl ?_; conv => whnf)
    | (refine W.ret ?_; conv => whnf)
    | (refine W.skip ?_; conv => whnf)
    | (refine W.exit ?_; conv => whnf)

    | (refine W.cond rfl (fun hb => ?_) (fun hb => ?_) <;> (try simp only [minL, maxL, pickB, getD_int, getD_sl, getD_bool, len_int, len_sl, len_bool, decide_eq_true_eq, decide_eq_false_iff_not, Bool.and_eq_true, Bool.or_eq_true, Bool.and_eq_false_iff, Bool.or_eq_false_iff, Bool.not_eq_true', Bool.not_eq_false', Int.toNat_natCast, Int.ofNat_lt, Int.ofNat_le, not_true_eq_false, not_false_eq_true, or_false, false_or, and_true, true_and, or_true, true_or, and_false, false_and] at hb) <;> (try (first | (cases hb; done) | exact absurd hb (by decide) | (exfalso; omega))))
    | ((with_reducible refine And.intro ?_ ?_); (focus ((repeat' (first | (with_reducible rfl) | (with_reducible refine And.intro ?_ ?_) | omega | rfl | exact Or.inl rfl | exact Or.inr rfl | (focus ((try simp only [minL, maxL, pickB, getD_int, getD_sl, getD_bool, len_int, len_sl, len_bool, decide_eq_true_eq, decide_eq_false_iff_not, Bool.and_eq_true, Bool.or_eq_true, Bool.and_eq_false_iff, Bool.or_eq_false_iff, Bool.not_eq_true', Bool.not_eq_false', Int.toNat_natCast, Int.ofNat_lt, Int.ofNat_le, not_true_eq_false, not_false_eq_true, or_false, false_or, and_true, true_and, or_true, true_or, and_false, false_and, InK, Path.imp, List.length_replicate, List.length_set, List.length_append, List.length_cons, List.length_nil] at *); omega)) | (refine app_le rfl ?_; omega))); done)); (conv => whnf))
    | ((with_reducible refine And.intro (Side.out ?_) ?_); rotate_left; (conv => whnf))
    | (refine Exists.intro _ (And.intro rfl (And.intro rfl (And.intro ?_ ?_))) <;> (conv => whnf) <;> repeat' (first
    | exact trivial
    | rfl
    | (refine And.intro (fun h => h) (Or.inl ?_))
    | (refine And.intro (fun _ => rfl) (Or.inl ?_))
    | (refine And.intro (fun h => Bool.noConfusion h) (Or.inl ?_))
    | (with_reducible refine And.intro (fun _ => rfl) ?_)
    | ((with_reducible refine And.intro ?_ ?_) <;> conv => whnf)
    | (refine congrArg (Value.int _) ?_)
    | (refine congrArg (SV.arr _) ?_)
    | (refine congrArg Value.bool ?_)
    | (exact fun h => Bool.noConfusion h)))); all_goals (try unfold Side)
      all_goals try (repeat' (first | (with_reducible rfl) | (with_reducible refine And.intro ?_ ?_) | omega | rfl | exact Or.inl rfl | exact Or.inr rfl | (focus ((try simp only [minL, maxL, pickB, getD_int, getD_sl, getD_bool, len_int, len_sl, len_bool, decide_eq_true_eq, decide_eq_false_iff_not, Bool.and_eq_true, Bool.or_eq_true, Bool.and_eq_false_iff, Bool.or_eq_false_iff, Bool.not_eq_true', Bool.not_eq_false', Int.toNat_natCast, Int.ofNat_lt, Int.ofNat_le, not_true_eq_false, not_false_eq_true, or_false, false_or, and_true, true_and, or_true, true_or, and_false, false_and, InK, Path.imp, List.length_replicate, List.length_set, List.length_append, List.length_cons, List.length_nil] at *); omega)) | (refine app_le rfl ?_; omega)))
      refine ⟨i + 1, ⟨by omega, by omega⟩, ?_⟩
      refine ⟨rfl, ?_, ?_⟩ <;> (conv => whnf) <;> repeat' (first
    | exact trivial
    | rfl
    | (refine And.intro (fun h => h) (Or.inl ?_))
    | (refine And.intro (fun _ => rfl) (Or.inl ?_))
    | (refine And.intro (fun h => Bool.noConfusion h) (Or.inl ?_))
    | (with_reducible refine And.intro (fun _ => rfl) ?_)
    | ((with_reducible refine And.intro ?_ ?_) <;> conv => whnf)
    | (refine congrArg (Value.int _) ?_)
    | (refine congrArg (SV.arr _) ?_)
    | (refine congrArg Value.bool ?_)
    | (exact fun h => Bool.noConfusion h))
      show (onlyL gs fl.length (g.take i)).set (g.getD i 0).toNat (gs.getD (g.getD i 0).toNat []) = onlyL gs fl.length (g.take (i + 1))
      rw [take_getD (d := 0) hil, onlyL_snoc]
    · have hie : i = g.length := by omega
      subst hie
      rw [List.take_length]
      repeat' (first
    | refine W.seq ?_
    | refine W.block ?_
    | (refine W.region tys_ok [] ?_; conv => whnf)
    | (refine W.drawAll tys_ok [] mixed rfl ?_; conv => whnf)
    | (refine W.ret ?_; conv => whnf)
    | (refine W.skip ?_; conv => whnf)
    | (refine W.exit ?_; conv => whnf)

    | (refine W.cond rfl (fun hb => ?_) (fun hb => ?_) <;> (try simp only [minL, maxL, pickB, getD_int, getD_sl, getD_bool, len_int, len_sl, len_bool, decide_eq_true_eq, decide_eq_false_iff_not, Bool.and_eq_true, Bool.or_eq_true, Bool.and_eq_false_iff, Bool.or_eq_false_iff, Bool.not_eq_true', Bool.not_eq_false', Int.toNat_natCast, Int.ofNat_lt, Int.ofNat_le, not_true_eq_false, not_false_eq_true, or_false, false_or, and_true, true_and, or_true, true_or, and_false, false_and] at hb) <;> (try (first | (cases hb; done) | exact absurd hb (by decide) | (exfalso; omega))))
    | ((with_reducible refine And.intro ?_ ?_); (focus ((repeat' (first | (with_reducible rfl) | (with_reducible refine And.intro ?_ ?_) | omega | rfl | exact Or.inl rfl | exact Or.inr rfl | (focus ((try simp only [minL, maxL, pickB, getD_int, getD_sl, getD_bool, len_int, len_sl, len_bool, decide_eq_true_eq, decide_eq_false_iff_not, Bool.and_eq_true, Bool.or_eq_true, Bool.and_eq_false_iff, Bool.or_eq_false_iff, Bool.not_eq_true', Bool.not_eq_false', Int.toNat_natCast, Int.ofNat_lt, Int.ofNat_le, not_true_eq_false, not_false_eq_true, or_false, false_or, and_true, true_and, or_true, true_or, and_false, false_and, InK, Path.imp, List.length_replicate, List.length_set, List.length_append, List.length_cons, List.length_nil] at *); omega)) | (refine app_le rfl ?_; omega))); done)); (conv => whnf))
    | ((with_reducible refine And.intro (Side.out ?_) ?_); rotate_left; (conv => whnf))
    | (refine Exists.intro _ (And.intro rfl (And.intro rfl (And.intro ?_ ?_))) <;> (conv => whnf) <;> repeat' (first
    | exact trivial
    | rfl
    | (refine And.intro (fun h => h) (Or.inl ?_))
    | (refine And.intro (fun _ => rfl) (Or.inl ?_))
    | (refine And.intro (fun h => Bool.noConfusion h) (Or.inl ?_))
    | (with_reducible refine And.intro (fun _ => rfl) ?_)
    | ((with_reducible refine And.intro ?_ ?_) <;> conv => whnf)
    | (refine congrArg (Value.int _) ?_)
    | (refine congrArg (SV.arr _) ?_)
    | (refine congrArg Value.bool ?_)
    | (exact fun h => Bool.noConfusion h)))); all_goals (try unfold Side)
      all_goals try (repeat' (first | (with_reducible rfl) | (with_reducible refine And.intro ?_ ?_) | omega | rfl | exact Or.inl rfl | exact Or.inr rfl | (focus ((try simp only [minL, maxL, pickB, getD_int, getD_sl, getD_bool, len_int, len_sl, len_bool, decide_eq_true_eq, decide_eq_false_iff_not, Bool.and_eq_true, Bool.or_eq_true, Bool.and_eq_false_iff, Bool.or_eq_false_iff, Bool.not_eq_true', Bool.not_eq_false', Int.toNat_natCast, Int.ofNat_lt, Int.ofNat_le, not_true_eq_false, not_false_eq_true, or_false, false_or, and_true, true_and, or_true, true_or, and_false, false_and, InK, Path.imp, List.length_replicate, List.length_set, List.length_append, List.length_cons, List.length_nil] at *); omega)) | (refine app_le rfl ?_; omega)))
set_option maxHeartbeats 2000000 in
theorem Aspires_ref (fl : List Int) (gs : List (List Int)) (g : List Int) (h : Riv fl gs) (hg : Grp fl.length g) :
    FnAt Try.prog false 38 [.arr (.int .i64) fl, .arr (.sl (.int .i64)) gs, .arr (.int .i64) g] (.lit (.int .i64 (val fl (onlyL gs fl.length g)))) [] := by
  have hl := h.len
  have hl8 := h.g.len
  have hgl := hg.len
  have hB := Best_ref fl (onlyL gs fl.length g) (h.only g)
  refine FnAt.of_body tys_ok Try.func38 (by rfl) rfl Try.ntmps38 (by rw [Try.results38]) (by simp) ?_
  
  repeat' (first
    | refine W.seq ?_
    | refine W.block ?_
    | (refine W.region tys_ok [] ?_; conv => whnf)
    | (refine W.drawAll tys_ok [] mixed rfl ?_; conv => whnf)
    | (refine W.ret ?_; conv => whnf)
    | (refine W.skip ?_; conv => whnf)
    | (refine W.exit ?_; conv => whnf)

    | (refine W.cond rfl (fun hb => ?_) (fun hb => ?_) <;> (try simp only [minL, maxL, pickB, getD_int, getD_sl, getD_bool, len_int, len_sl, len_bool, decide_eq_true_eq, decide_eq_false_iff_not, Bool.and_eq_true, Bool.or_eq_true, Bool.and_eq_false_iff, Bool.or_eq_false_iff, Bool.not_eq_true', Bool.not_eq_false', Int.toNat_natCast, Int.ofNat_lt, Int.ofNat_le, not_true_eq_false, not_false_eq_true, or_false, false_or, and_true, true_and, or_true, true_or, and_false, false_and] at hb) <;> (try (first | (cases hb; done) | exact absurd hb (by decide) | (exfalso; omega))))
    | ((with_reducible refine And.intro ?_ ?_); (focus ((repeat' (first | (with_reducible rfl) | (with_reducible refine And.intro ?_ ?_) | omega | rfl | exact Or.inl rfl | exact Or.inr rfl | (focus ((try simp only [minL, maxL, pickB, getD_int, getD_sl, getD_bool, len_int, len_sl, len_bool, decide_eq_true_eq, decide_eq_false_iff_not, Bool.and_eq_true, Bool.or_eq_true, Bool.and_eq_false_iff, Bool.or_eq_false_iff, Bool.not_eq_true', Bool.not_eq_false', Int.toNat_natCast, Int.ofNat_lt, Int.ofNat_le, not_true_eq_false, not_false_eq_true, or_false, false_or, and_true, true_and, or_true, true_or, and_false, false_and, InK, Path.imp, List.length_replicate, List.length_set, List.length_append, List.length_cons, List.length_nil] at *); omega)) | (refine app_le rfl ?_; omega))); done)); (conv => whnf))
    | ((with_reducible refine And.intro (Side.out ?_) ?_); rotate_left; (conv => whnf))
    | (refine Exists.intro _ (And.intro rfl (And.intro rfl (And.intro ?_ ?_))) <;> (conv => whnf) <;> repeat' (first
    | exact trivial
    | rfl
    | (refine And.intro (fun h => h) (Or.inl ?_))
    | (refine And.intro (fun _ => rfl) (Or.inl ?_))
    | (refine And.intro (fun h => Bool.noConfusion h) (Or.inl ?_))
    | (with_reducible refine And.intro (fun _ => rfl) ?_)
    | ((with_reducible refine And.intro ?_ ?_) <;> conv => whnf)
    | (refine congrArg (Value.int _) ?_)
    | (refine congrArg (SV.arr _) ?_)
    | (refine congrArg Value.bool ?_)
    | (exact fun h => Bool.noConfusion h)))); all_goals (try unfold Side)
  refine W.loop (fun i : Nat => ⟨[(0, .st false (.arr (.int .i64) fl)), (1, .st false (.arr (.sl (.int .i64)) gs)), (2, .st false (.arr (.int .i64) g)), (7, .own 14000), (8, .lit (.int .i64 i))],
      [(14000, .row 22 (.sl (.int .i64)) false (onlyL gs fl.length (g.take i)))]⟩)
    (fun i => i ≤ g.length) (fun i => g.length - i) 0 ?_ ?_
  · refine ⟨Nat.zero_le _, ?_⟩
    refine ⟨rfl, ?_, ?_⟩ <;> (conv => whnf) <;> repeat' (first
    | exact trivial
    | rfl
    | (refine And.intro (fun h => h) (Or.inl ?_))
    | (refine And.intro (fun _ => rfl) (Or.inl ?_))
    | (refine And.intro (fun h => Bool.noConfusion h) (Or.inl ?_))
    | (with_reducible refine And.intro (fun _ => rfl) ?_)
    | ((with_reducible refine And.intro ?_ ?_) <;> conv => whnf)
    | (refine congrArg (Value.int _) ?_)
    | (refine congrArg (SV.arr _) ?_)
    | (refine congrArg Value.bool ?_)
    | (exact fun h => Bool.noConfusion h))
    show List.replicate ((gs.length : Nat) : Int).toNat ([] : List Int) = List.replicate fl.length []
    rw [hl]; rfl
  · intro i hi
    have hol : @List.length (Ty.sl (.int .i64)).T (onlyL gs fl.length (g.take i)) = fl.length := onlyL_len
    by_cases hil : i < g.length
    · have hv := hg.val i hil
      repeat' (first
    | refine W.seq ?_
    | refine W.block ?_
    | (refine W.drawTo (id := 5) tys_ok [] mixed [] 13 (by decide +kernel) ?_; conv => whnf)
    | (refine W.region tys_ok [] ?_; conv => whnf)
    | (refine W.drawAll tys_ok [] mixed rfl ?_; conv => whnf)
    | (refine W.ret ?_; conv => whnf)
    | (refine W.skip ?_; conv => whnf)
    | (refine W.exit ?_; conv => whnf)

    | (refine W.cond rfl (fun hb => ?_) (fun hb => ?_) <;> (try simp only [minL, maxL, pickB, getD_int, getD_sl, getD_bool, len_int, len_sl, len_bool, decide_eq_true_eq, decide_eq_false_iff_not, Bool.and_eq_true, Bool.or_eq_true, Bool.and_eq_false_iff, Bool.or_eq_false_iff, Bool.not_eq_true', Bool.not_eq_false', Int.toNat_natCast, Int.ofNat_lt, Int.ofNat_le, not_true_eq_false, not_false_eq_true, or_false, false_or, and_true, true_and, or_true, true_or, and_false, false_and] at hb) <;> (try (first | (cases hb; done) | exact absurd hb (by decide) | (exfalso; omega))))
    | ((with_reducible refine And.intro ?_ ?_); (focus ((repeat' (first | (with_reducible rfl) | (with_reducible refine And.intro ?_ ?_) | omega | rfl | exact Or.inl rfl | exact Or.inr rfl | (focus ((try simp only [minL, maxL, pickB, getD_int, getD_sl, getD_bool, len_int, len_sl, len_bool, decide_eq_true_eq, decide_eq_false_iff_not, Bool.and_eq_true, Bool.or_eq_true, Bool.and_eq_false_iff, Bool.or_eq_false_iff, Bool.not_eq_true', Bool.not_eq_false', Int.toNat_natCast, Int.ofNat_lt, Int.ofNat_le, not_true_eq_false, not_false_eq_true, or_false, false_or, and_true, true_and, or_true, true_or, and_false, false_and, InK, Path.imp, List.length_replicate, List.length_set, List.length_append, List.length_cons, List.length_nil] at *); omega)) | (refine app_le rfl ?_; omega))); done)); (conv => whnf))
    | ((with_reducible refine And.intro (Side.out ?_) ?_); rotate_left; (conv => whnf))
    | (refine Exists.intro _ (And.intro rfl (And.intro rfl (And.intro ?_ ?_))) <;> (conv => whnf) <;> repeat' (first
    | exact trivial
    | rfl
    | (refine And.intro (fun h => h) (Or.inl ?_))
    | (refine And.intro (fun _ => rfl) (Or.inl ?_))
    | (refine And.intro (fun h => Bool.noConfusion h) (Or.inl ?_))
    | (with_reducible refine And.intro (fun _ => rfl) ?_)
    | ((with_reducible refine And.intro ?_ ?_) <;> conv => whnf)
    | (refine congrArg (Value.int _) ?_)
    | (refine congrArg (SV.arr _) ?_)
    | (refine congrArg Value.bool ?_)
    | (exact fun h => Bool.noConfusion h)))); all_goals (try unfold Side)
      all_goals try (repeat' (first | (with_reducible rfl) | (with_reducible refine And.intro ?_ ?_) | omega | rfl | exact Or.inl rfl | exact Or.inr rfl | (focus ((try simp only [minL, maxL, pickB, getD_int, getD_sl, getD_bool, len_int, len_sl, len_bool, decide_eq_true_eq, decide_eq_false_iff_not, Bool.and_eq_true, Bool.or_eq_true, Bool.and_eq_false_iff, Bool.or_eq_false_iff, Bool.not_eq_true', Bool.not_eq_false', Int.toNat_natCast, Int.ofNat_lt, Int.ofNat_le, not_true_eq_false, not_false_eq_true, or_false, false_or, and_true, true_and, or_true, true_or, and_false, false_and, InK, Path.imp, List.length_replicate, List.length_set, List.length_append, List.length_cons, List.length_nil] at *); omega)) | (refine app_le rfl ?_; omega)))
      refine ⟨i + 1, ⟨by omega, by omega⟩, ?_⟩
      refine ⟨rfl, ?_, ?_⟩ <;> (conv => whnf) <;> repeat' (first
    | exact trivial
    | rfl
    | (refine And.intro (fun h => h) (Or.inl ?_))
    | (refine And.intro (fun _ => rfl) (Or.inl ?_))
    | (refine And.intro (fun h => Bool.noConfusion h) (Or.inl ?_))
    | (with_reducible refine And.intro (fun _ => rfl) ?_)
    | ((with_reducible refine And.intro ?_ ?_) <;> conv => whnf)
    | (refine congrArg (Value.int _) ?_)
    | (refine congrArg (SV.arr _) ?_)
    | (refine congrArg Value.bool ?_)
    | (exact fun h => Bool.noConfusion h))
      show (onlyL gs fl.length (g.take i)).set (g.getD i 0).toNat (gs.getD (g.getD i 0).toNat []) = onlyL gs fl.length (g.take (i + 1))
      rw [take_getD (d := 0) hil, onlyL_snoc]
    · have hie : i = g.length := by omega
      subst hie
      rw [List.take_length]
      repeat' (first
    | refine W.seq ?_
    | refine W.block ?_
    | (refine W.region tys_ok [] ?_; conv => whnf)
    | (refine W.drawAll tys_ok [] mixed rfl ?_; conv => whnf)
    | (refine W.ret ?_; conv => whnf)
    | (refine W.skip ?_; conv => whnf)
    | (refine W.exit ?_; conv => whnf)
    | (refine ⟨false, _, _, _, _, rfl, Path.imp_of (hB), rfl, rfl, rfl, ?_⟩; conv => whnf)

    | (refine W.cond rfl (fun hb => ?_) (fun hb => ?_) <;> (try simp only [minL, maxL, pickB, getD_int, getD_sl, getD_bool, len_int, len_sl, len_bool, decide_eq_true_eq, decide_eq_false_iff_not, Bool.and_eq_true, Bool.or_eq_true, Bool.and_eq_false_iff, Bool.or_eq_false_iff, Bool.not_eq_true', Bool.not_eq_false', Int.toNat_natCast, Int.ofNat_lt, Int.ofNat_le, not_true_eq_false, not_false_eq_true, or_false, false_or, and_true, true_and, or_true, true_or, and_false, false_and] at hb) <;> (try (first | (cases hb; done) | exact absurd hb (by decide) | (exfalso; omega))))
    | ((with_reducible refine And.intro ?_ ?_); (focus ((repeat' (first | (with_reducible rfl) | (with_reducible refine And.intro ?_ ?_) | omega | rfl | exact Or.inl rfl | exact Or.inr rfl | (focus ((try simp only [minL, maxL, pickB, getD_int, getD_sl, getD_bool, len_int, len_sl, len_bool, decide_eq_true_eq, decide_eq_false_iff_not, Bool.and_eq_true, Bool.or_eq_true, Bool.and_eq_false_iff, Bool.or_eq_false_iff, Bool.not_eq_true', Bool.not_eq_false', Int.toNat_natCast, Int.ofNat_lt, Int.ofNat_le, not_true_eq_false, not_false_eq_true, or_false, false_or, and_true, true_and, or_true, true_or, and_false, false_and, InK, Path.imp, List.length_replicate, List.length_set, List.length_append, List.length_cons, List.length_nil] at *); omega)) | (refine app_le rfl ?_; omega))); done)); (conv => whnf))
    | ((with_reducible refine And.intro (Side.out ?_) ?_); rotate_left; (conv => whnf))
    | (refine Exists.intro _ (And.intro rfl (And.intro rfl (And.intro ?_ ?_))) <;> (conv => whnf) <;> repeat' (first
    | exact trivial
    | rfl
    | (refine And.intro (fun h => h) (Or.inl ?_))
    | (refine And.intro (fun _ => rfl) (Or.inl ?_))
    | (refine And.intro (fun h => Bool.noConfusion h) (Or.inl ?_))
    | (with_reducible refine And.intro (fun _ => rfl) ?_)
    | ((with_reducible refine And.intro ?_ ?_) <;> conv => whnf)
    | (refine congrArg (Value.int _) ?_)
    | (refine congrArg (SV.arr _) ?_)
    | (refine congrArg Value.bool ?_)
    | (exact fun h => Bool.noConfusion h)))); all_goals (try unfold Side)
      all_goals try (repeat' (first | (with_reducible rfl) | (with_reducible refine And.intro ?_ ?_) | omega | rfl | exact Or.inl rfl | exact Or.inr rfl | (focus ((try simp only [minL, maxL, pickB, getD_int, getD_sl, getD_bool, len_int, len_sl, len_bool, decide_eq_true_eq, decide_eq_false_iff_not, Bool.and_eq_true, Bool.or_eq_true, Bool.and_eq_false_iff, Bool.or_eq_false_iff, Bool.not_eq_true', Bool.not_eq_false', Int.toNat_natCast, Int.ofNat_lt, Int.ofNat_le, not_true_eq_false, not_false_eq_true, or_false, false_or, and_true, true_and, or_true, true_or, and_false, false_and, InK, Path.imp, List.length_replicate, List.length_set, List.length_append, List.length_cons, List.length_nil] at *); omega)) | (refine app_le rfl ?_; omega)))
end Go.Proofs.Ytohfemfgnohhdaa
/- Alone, Aspires; WaterGroups. No condition. -/
namespace Go.Proofs.Ytohfemfgnohhdaa
open Go Go.Vc
set_option linter.unusedVariables false
set_option linter.unusedSimpArgs false

theorem part_gen (fl : List Int) (gs : List (List Int)) (a b : Int) (h0 : 0 ≤ a) (hab : a ≤ b) (h1 : b ≤ fl.length) (h2 : b ≤ gs.length) (h3 : fl.length < 2 ^ 40) (h4 : gs.length < 2 ^ 40) :
    FnAt Try.prog true 52 [.agg [.arr (.int .i64) fl, .arr (.sl (.int .i64)) gs], .lit (.int .i64 a), .lit (.int .i64 b)] (.strct [.st true (.arr (.int .i64) ((fl.take b.toNat).drop a.toNat)), .st true (.arr (.sl (.int .i64)) ((gs.take b.toNat).drop a.toNat))]) [] := by
  refine FnAt.of_body tys_ok Try.func52 (by rfl) rfl Try.ntmps52 (by rw [Try.results52]) (by simp) ?_
  
  repeat' (first
    | refine W.seq ?_
    | refine W.block ?_
    | (refine W.drawTo (id := 1) tys_ok [] mixed [] 11 (by decide +kernel) ?_; conv => whnf)
    | (refine W.region tys_ok [] ?_; conv => whnf)
    | (refine W.drawAll tys_ok [] mixed rfl ?_; conv => whnf)
    | (refine W.ret ?_; conv => whnf)
    | (refine W.skip ?_; conv => whnf)
    | (refine W.exit ?_; conv => whnf)

    | (refine W.cond rfl (fun hb => ?_) (fun hb => ?_) <;> (try simp only [minL, maxL, pickB, getD_int, getD_sl, getD_bool, len_int, len_sl, len_bool, decide_eq_true_eq, decide_eq_false_iff_not, Bool.and_eq_true, Bool.or_eq_true, Bool.and_eq_false_iff, Bool.or_eq_false_iff, Bool.not_eq_true', Bool.not_eq_false', Int.toNat_natCast, Int.ofNat_lt, Int.ofNat_le, not_true_eq_false, not_false_eq_true, or_false, false_or, and_true, true_and, or_true, true_or, and_false, false_and] at hb) <;> (try (first | (cases hb; done) | exact absurd hb (by decide) | (exfalso; omega))))
    | ((with_reducible refine And.intro ?_ ?_); (focus ((repeat' (first | (with_reducible rfl) | (with_reducible refine And.intro ?_ ?_) | omega | rfl | exact Or.inl rfl | exact Or.inr rfl | (focus ((try simp only [minL, maxL, pickB, getD_int, getD_sl, getD_bool, len_int, len_sl, len_bool, decide_eq_true_eq, decide_eq_false_iff_not, Bool.and_eq_true, Bool.or_eq_true, Bool.and_eq_false_iff, Bool.or_eq_false_iff, Bool.not_eq_true', Bool.not_eq_false', Int.toNat_natCast, Int.ofNat_lt, Int.ofNat_le, not_true_eq_false, not_false_eq_true, or_false, false_or, and_true, true_and, or_true, true_or, and_false, false_and, InK, Path.imp, List.length_replicate, List.length_set, List.length_append, List.length_cons, List.length_nil] at *); omega)) | (refine app_le rfl ?_; omega))); done)); (conv => whnf))
    | ((with_reducible refine And.intro (Side.out ?_) ?_); rotate_left; (conv => whnf))
    | (refine Exists.intro _ (And.intro rfl (And.intro rfl (And.intro ?_ ?_))) <;> (conv => whnf) <;> repeat' (first
    | exact trivial
    | rfl
    | (refine And.intro (fun h => h) (Or.inl ?_))
    | (refine And.intro (fun _ => rfl) (Or.inl ?_))
    | (refine And.intro (fun h => Bool.noConfusion h) (Or.inl ?_))
    | (with_reducible refine And.intro (fun _ => rfl) ?_)
    | ((with_reducible refine And.intro ?_ ?_) <;> conv => whnf)
    | (refine congrArg (Value.int _) ?_)
    | (refine congrArg (SV.arr _) ?_)
    | (refine congrArg Value.bool ?_)
    | (exact fun h => Bool.noConfusion h)))); all_goals (try unfold Side)
  all_goals try (repeat' (first | (with_reducible rfl) | (with_reducible refine And.intro ?_ ?_) | omega | rfl | exact Or.inl rfl | exact Or.inr rfl | (focus ((try simp only [minL, maxL, pickB, getD_int, getD_sl, getD_bool, len_int, len_sl, len_bool, decide_eq_true_eq, decide_eq_false_iff_not, Bool.and_eq_true, Bool.or_eq_true, Bool.and_eq_false_iff, Bool.or_eq_false_iff, Bool.not_eq_true', Bool.not_eq_false', Int.toNat_natCast, Int.ofNat_lt, Int.ofNat_le, not_true_eq_false, not_false_eq_true, or_false, false_or, and_true, true_and, or_true, true_or, and_false, false_and, InK, Path.imp, List.length_replicate, List.length_set, List.length_append, List.length_cons, List.length_nil] at *); omega)) | (refine app_le rfl ?_; omega)))

theorem consec {r : List Int} {n : Nat} (hk3 : ∀ j, 0 < j → j < n → r.getD j 0 = r.getD (j - 1) 0 + 1) : ∀ m, m < n → r.getD m 0 = r.getD 0 0 + (m : Int)
  | 0, _ => by simp
  | m + 1, h => by
    have h5 := hk3 (m + 1) (by omega) h
    have h6 := consec hk3 m (by omega)
    simp only [Nat.add_sub_cancel] at h5
    omega
theorem alone_step {fl : List Int} {gs : List (List Int)} {r : List Int} {n : Nat} (hn : 0 < n) (hn2 : n ≤ r.length) (hk3 : ∀ j, 0 < j → j < n → r.getD j 0 = r.getD (j - 1) 0 + 1) (hs : ¬ (n < r.length ∧ r.getD n 0 = r.getD (n - 1) 0 + 1)) :
    aloneL fl gs r = rowV fl gs (r.getD 0 0).toNat n + aloneL fl gs (r.drop n) := by
  have hrun := runT_drop hn hn2 hk3
  rw [runT_stop hs] at hrun
  have h0 : r = r.getD 0 0 :: r.drop 1 := by conv => lhs; rw [← List.drop_zero (l := r), drop_getD 0 (by omega)]
  conv => lhs; rw [h0]
  rw [aloneL_cons, hrun, List.drop_drop, show n - 1 - 0 + 0 + 1 = n from by omega, show 1 + (n - 1 - 0 + 0) = n from by omega]

section
variable {fl : List Int} {gs : List (List Int)} {g : List Int} (h1 : fl.length ≤ 1000) (h2 : gs.length ≤ 1000) (h3 : ∀ i, i < gs.length → (gs.getD i []).length ≤ 1000)
include h1 h2 h3
set_option maxHeartbeats 2000000 in
theorem Alone_bad1 (hok : riverOk fl gs = false) : FnAt Try.prog false 34 [.arr (.int .i64) fl, .arr (.sl (.int .i64)) gs, .arr (.int .i64) g] (.tup [.lit (.int .i64 0), .lit (.int .i64 1)]) [] := by
  have hgr := group_bad1 (g := g) hok h1 h2 h3
  refine FnAt.of_body tys_ok Try.func34 (by rfl) rfl Try.ntmps34 (by rw [Try.results34]) (by simp) ?_
  
  repeat' (first
    | refine W.seq ?_
    | refine W.block ?_
    | (refine W.region tys_ok [] ?_; conv => whnf)
    | (refine W.drawAll tys_ok [] mixed rfl ?_; conv => whnf)
    | (refine W.ret ?_; conv => whnf)
    | (refine W.skip ?_; conv => whnf)
    | (refine W.exit ?_; conv => whnf)
    | (refine ⟨true, _, _, _, _, rfl, Path.imp_of (hgr), rfl, rfl, rfl, ?_⟩; conv => whnf)

    | (refine W.cond rfl (fun hb => ?_) (fun hb => ?_) <;> (try simp only [minL, maxL, pickB, getD_int, getD_sl, getD_bool, len_int, len_sl, len_bool, decide_eq_true_eq, decide_eq_false_iff_not, Bool.and_eq_true, Bool.or_eq_true, Bool.and_eq_false_iff, Bool.or_eq_false_iff, Bool.not_eq_true', Bool.not_eq_false', Int.toNat_natCast, Int.ofNat_lt, Int.ofNat_le, not_true_eq_false, not_false_eq_true, or_false, false_or, and_true, true_and, or_true, true_or, and_false, false_and] at hb) <;> (try (first | (cases hb; done) | exact absurd hb (by decide) | (exfalso; omega))))
    | ((with_reducible refine And.intro ?_ ?_); (focus ((repeat' (first | (with_reducible rfl) | (with_reducible refine And.intro ?_ ?_) | omega | rfl | exact Or.inl rfl | exact Or.inr rfl | (focus ((try simp only [minL, maxL, pickB, getD_int, getD_sl, getD_bool, len_int, len_sl, len_bool, decide_eq_true_eq, decide_eq_false_iff_not, Bool.and_eq_true, Bool.or_eq_true, Bool.and_eq_false_iff, Bool.or_eq_false_iff, Bool.not_eq_true', Bool.not_eq_false', Int.toNat_natCast, Int.ofNat_lt, Int.ofNat_le, not_true_eq_false, not_false_eq_true, or_false, false_or, and_true, true_and, or_true, true_or, and_false, false_and, InK, Path.imp, List.length_replicate, List.length_set, List.length_append, List.length_cons, List.length_nil] at *); omega)) | (refine app_le rfl ?_; omega))); done)); (conv => whnf))
    | ((with_reducible refine And.intro (Side.out ?_) ?_); rotate_left; (conv => whnf))
    | (refine Exists.intro _ (And.intro rfl (And.intro rfl (And.intro ?_ ?_))) <;> (conv => whnf) <;> repeat' (first
    | exact trivial
    | rfl
    | (refine And.intro (fun h => h) (Or.inl ?_))
    | (refine And.intro (fun _ => rfl) (Or.inl ?_))
    | (refine And.intro (fun h => Bool.noConfusion h) (Or.inl ?_))
    | (with_reducible refine And.intro (fun _ => rfl) ?_)
    | ((with_reducible refine And.intro ?_ ?_) <;> conv => whnf)
    | (refine congrArg (Value.int _) ?_)
    | (refine congrArg (SV.arr _) ?_)
    | (refine congrArg Value.bool ?_)
    | (exact fun h => Bool.noConfusion h)))); all_goals (try unfold Side)
  all_goals try (repeat' (first | (with_reducible rfl) | (with_reducible refine And.intro ?_ ?_) | omega | rfl | exact Or.inl rfl | exact Or.inr rfl | (focus ((try simp only [minL, maxL, pickB, getD_int, getD_sl, getD_bool, len_int, len_sl, len_bool, decide_eq_true_eq, decide_eq_false_iff_not, Bool.and_eq_true, Bool.or_eq_true, Bool.and_eq_false_iff, Bool.or_eq_false_iff, Bool.not_eq_true', Bool.not_eq_false', Int.toNat_natCast, Int.ofNat_lt, Int.ofNat_le, not_true_eq_false, not_false_eq_true, or_false, false_or, and_true, true_and, or_true, true_or, and_false, false_and, InK, Path.imp, List.length_replicate, List.length_set, List.length_append, List.length_cons, List.length_nil] at *); omega)) | (refine app_le rfl ?_; omega)))
set_option maxHeartbeats 2000000 in
theorem Alone_bad2 (hok : riverOk fl gs = true) (hg : grpB fl.length g = false) (hgl : g.length ≤ 1000) : FnAt Try.prog false 34 [.arr (.int .i64) fl, .arr (.sl (.int .i64)) gs, .arr (.int .i64) g] (.tup [.lit (.int .i64 0), .lit (.int .i64 2)]) [] := by
  have hgr := group_at hok hg hgl h1 h2 h3
  refine FnAt.of_body tys_ok Try.func34 (by rfl) rfl Try.ntmps34 (by rw [Try.results34]) (by simp) ?_
  
  repeat' (first
    | refine W.seq ?_
    | refine W.block ?_
    | (refine W.region tys_ok [] ?_; conv => whnf)
    | (refine W.drawAll tys_ok [] mixed rfl ?_; conv => whnf)
    | (refine W.ret ?_; conv => whnf)
    | (refine W.skip ?_; conv => whnf)
    | (refine W.exit ?_; conv => whnf)
    | (refine ⟨true, _, _, _, _, rfl, Path.imp_of (hgr), rfl, rfl, rfl, ?_⟩; conv => whnf)

    | (refine W.cond rfl (fun hb => ?_) (fun hb => ?_) <;> (try simp only [minL, maxL, pickB, getD_int, getD_sl, getD_bool, len_int, len_sl, len_bool, decide_eq_true_eq, decide_eq_false_iff_not, Bool.and_eq_true, Bool.or_eq_true, Bool.and_eq_false_iff, Bool.or_eq_false_iff, Bool.not_eq_true', Bool.not_eq_false', Int.toNat_natCast, Int.ofNat_lt, Int.ofNat_le, not_true_eq_false, not_false_eq_true, or_false, false_or, and_true, true_and, or_true, true_or, and_false, false_and] at hb) <;> (try (first | (cases hb; done) | exact absurd hb (by decide) | (exfalso; omega))))
    | ((with_reducible refine And.intro ?_ ?_); (focus ((repeat' (first | (with_reducible rfl) | (with_reducible refine And.intro ?_ ?_) | omega | rfl | exact Or.inl rfl | exact Or.inr rfl | (focus ((try simp only [minL, maxL, pickB, getD_int, getD_sl, getD_bool, len_int, len_sl, len_bool, decide_eq_true_eq, decide_eq_false_iff_not, Bool.and_eq_true, Bool.or_eq_true, Bool.and_eq_false_iff, Bool.or_eq_false_iff, Bool.not_eq_true', Bool.not_eq_false', Int.toNat_natCast, Int.ofNat_lt, Int.ofNat_le, not_true_eq_false, not_false_eq_true, or_false, false_or, and_true, true_and, or_true, true_or, and_false, false_and, InK, Path.imp, List.length_replicate, List.length_set, List.length_append, List.length_cons, List.length_nil] at *); omega)) | (refine app_le rfl ?_; omega))); done)); (conv => whnf))
    | ((with_reducible refine And.intro (Side.out ?_) ?_); rotate_left; (conv => whnf))
    | (refine Exists.intro _ (And.intro rfl (And.intro rfl (And.intro ?_ ?_))) <;> (conv => whnf) <;> repeat' (first
    | exact trivial
    | rfl
    | (refine And.intro (fun h => h) (Or.inl ?_))
    | (refine And.intro (fun _ => rfl) (Or.inl ?_))
    | (refine And.intro (fun h => Bool.noConfusion h) (Or.inl ?_))
    | (with_reducible refine And.intro (fun _ => rfl) ?_)
    | ((with_reducible refine And.intro ?_ ?_) <;> conv => whnf)
    | (refine congrArg (Value.int _) ?_)
    | (refine congrArg (SV.arr _) ?_)
    | (refine congrArg Value.bool ?_)
    | (exact fun h => Bool.noConfusion h)))); all_goals (try unfold Side)
  all_goals try (repeat' (first | (with_reducible rfl) | (with_reducible refine And.intro ?_ ?_) | omega | rfl | exact Or.inl rfl | exact Or.inr rfl | (focus ((try simp only [minL, maxL, pickB, getD_int, getD_sl, getD_bool, len_int, len_sl, len_bool, decide_eq_true_eq, decide_eq_false_iff_not, Bool.and_eq_true, Bool.or_eq_true, Bool.and_eq_false_iff, Bool.or_eq_false_iff, Bool.not_eq_true', Bool.not_eq_false', Int.toNat_natCast, Int.ofNat_lt, Int.ofNat_le, not_true_eq_false, not_false_eq_true, or_false, false_or, and_true, true_and, or_true, true_or, and_false, false_and, InK, Path.imp, List.length_replicate, List.length_set, List.length_append, List.length_cons, List.length_nil] at *); omega)) | (refine app_le rfl ?_; omega)))
set_option maxHeartbeats 2000000 in
theorem Aspires_bad1 (hok : riverOk fl gs = false) : FnAt Try.prog false 35 [.arr (.int .i64) fl, .arr (.sl (.int .i64)) gs, .arr (.int .i64) g] (.tup [.lit (.int .i64 0), .lit (.int .i64 1)]) [] := by
  have hgr := group_bad1 (g := g) hok h1 h2 h3
  refine FnAt.of_body tys_ok Try.func35 (by rfl) rfl Try.ntmps35 (by rw [Try.results35]) (by simp) ?_
  
  repeat' (first
    | refine W.seq ?_
    | refine W.block ?_
    | (refine W.region tys_ok [] ?_; conv => whnf)
    | (refine W.drawAll tys_ok [] mixed rfl ?_; conv => whnf)
    | (refine W.ret ?_; conv => whnf)
    | (refine W.skip ?_; conv => whnf)
    | (refine W.exit ?_; conv => whnf)
    | (refine ⟨true, _, _, _, _, rfl, Path.imp_of (hgr), rfl, rfl, rfl, ?_⟩; conv => whnf)

    | (refine W.cond rfl (fun hb => ?_) (fun hb => ?_) <;> (try simp only [minL, maxL, pickB, getD_int, getD_sl, getD_bool, len_int, len_sl, len_bool, decide_eq_true_eq, decide_eq_false_iff_not, Bool.and_eq_true, Bool.or_eq_true, Bool.and_eq_false_iff, Bool.or_eq_false_iff, Bool.not_eq_true', Bool.not_eq_false', Int.toNat_natCast, Int.ofNat_lt, Int.ofNat_le, not_true_eq_false, not_false_eq_true, or_false, false_or, and_true, true_and, or_true, true_or, and_false, false_and] at hb) <;> (try (first | (cases hb; done) | exact absurd hb (by decide) | (exfalso; omega))))
    | ((with_reducible refine And.intro ?_ ?_); (focus ((repeat' (first | (with_reducible rfl) | (with_reducible refine And.intro ?_ ?_) | omega | rfl | exact Or.inl rfl | exact Or.inr rfl | (focus ((try simp only [minL, maxL, pickB, getD_int, getD_sl, getD_bool, len_int, len_sl, len_bool, decide_eq_true_eq, decide_eq_false_iff_not, Bool.and_eq_true, Bool.or_eq_true, Bool.and_eq_false_iff, Bool.or_eq_false_iff, Bool.not_eq_true', Bool.not_eq_false', Int.toNat_natCast, Int.ofNat_lt, Int.ofNat_le, not_true_eq_false, not_false_eq_true, or_false, false_or, and_true, true_and, or_true, true_or, and_false, false_and, InK, Path.imp, List.length_replicate, List.length_set, List.length_append, List.length_cons, List.length_nil] at *); omega)) | (refine app_le rfl ?_; omega))); done)); (conv => whnf))
    | ((with_reducible refine And.intro (Side.out ?_) ?_); rotate_left; (conv => whnf))
    | (refine Exists.intro _ (And.intro rfl (And.intro rfl (And.intro ?_ ?_))) <;> (conv => whnf) <;> repeat' (first
    | exact trivial
    | rfl
    | (refine And.intro (fun h => h) (Or.inl ?_))
    | (refine And.intro (fun _ => rfl) (Or.inl ?_))
    | (refine And.intro (fun h => Bool.noConfusion h) (Or.inl ?_))
    | (with_reducible refine And.intro (fun _ => rfl) ?_)
    | ((with_reducible refine And.intro ?_ ?_) <;> conv => whnf)
    | (refine congrArg (Value.int _) ?_)
    | (refine congrArg (SV.arr _) ?_)
    | (refine congrArg Value.bool ?_)
    | (exact fun h => Bool.noConfusion h)))); all_goals (try unfold Side)
  all_goals try (repeat' (first | (with_reducible rfl) | (with_reducible refine And.intro ?_ ?_) | omega | rfl | exact Or.inl rfl | exact Or.inr rfl | (focus ((try simp only [minL, maxL, pickB, getD_int, getD_sl, getD_bool, len_int, len_sl, len_bool, decide_eq_true_eq, decide_eq_false_iff_not, Bool.and_eq_true, Bool.or_eq_true, Bool.and_eq_false_iff, Bool.or_eq_false_iff, Bool.not_eq_true', Bool.not_eq_false', Int.toNat_natCast, Int.ofNat_lt, Int.ofNat_le, not_true_eq_false, not_false_eq_true, or_false, false_or, and_true, true_and, or_true, true_or, and_false, false_and, InK, Path.imp, List.length_replicate, List.length_set, List.length_append, List.length_cons, List.length_nil] at *); omega)) | (refine app_le rfl ?_; omega)))
set_option maxHeartbeats 2000000 in
theorem Aspires_bad2 (hok : riverOk fl gs = true) (hg : grpB fl.length g = false) (hgl : g.length ≤ 1000) : FnAt Try.prog false 35 [.arr (.int .i64) fl, .arr (.sl (.int .i64)) gs, .arr (.int .i64) g] (.tup [.lit (.int .i64 0), .lit (.int .i64 2)]) [] := by
  have hgr := group_at hok hg hgl h1 h2 h3
  refine FnAt.of_body tys_ok Try.func35 (by rfl) rfl Try.ntmps35 (by rw [Try.results35]) (by simp) ?_
  
  repeat' (first
    | refine W.seq ?_
    | refine W.block ?_
    | (refine W.region tys_ok [] ?_; conv => whnf)
    | (refine W.drawAll tys_ok [] mixed rfl ?_; conv => whnf)
    | (refine W.ret ?_; conv => whnf)
    | (refine W.skip ?_; conv => whnf)
    | (refine W.exit ?_; conv => whnf)
    | (refine ⟨true, _, _, _, _, rfl, Path.imp_of (hgr), rfl, rfl, rfl, ?_⟩; conv => whnf)

    | (refine W.cond rfl (fun hb => ?_) (fun hb => ?_) <;> (try simp only [minL, maxL, pickB, getD_int, getD_sl, getD_bool, len_int, len_sl, len_bool, decide_eq_true_eq, decide_eq_false_iff_not, Bool.and_eq_true, Bool.or_eq_true, Bool.and_eq_false_iff, Bool.or_eq_false_iff, Bool.not_eq_true', Bool.not_eq_false', Int.toNat_natCast, Int.ofNat_lt, Int.ofNat_le, not_true_eq_false, not_false_eq_true, or_false, false_or, and_true, true_and, or_true, true_or, and_false, false_and] at hb) <;> (try (first | (cases hb; done) | exact absurd hb (by decide) | (exfalso; omega))))
    | ((with_reducible refine And.intro ?_ ?_); (focus ((repeat' (first | (with_reducible rfl) | (with_reducible refine And.intro ?_ ?_) | omega | rfl | exact Or.inl rfl | exact Or.inr rfl | (focus ((try simp only [minL, maxL, pickB, getD_int, getD_sl, getD_bool, len_int, len_sl, len_bool, decide_eq_true_eq, decide_eq_false_iff_not, Bool.and_eq_true, Bool.or_eq_true, Bool.and_eq_false_iff, Bool.or_eq_false_iff, Bool.not_eq_true', Bool.not_eq_false', Int.toNat_natCast, Int.ofNat_lt, Int.ofNat_le, not_true_eq_false, not_false_eq_true, or_false, false_or, and_true, true_and, or_true, true_or, and_false, false_and, InK, Path.imp, List.length_replicate, List.length_set, List.length_append, List.length_cons, List.length_nil] at *); omega)) | (refine app_le rfl ?_; omega))); done)); (conv => whnf))
    | ((with_reducible refine And.intro (Side.out ?_) ?_); rotate_left; (conv => whnf))
    | (refine Exists.intro _ (And.intro rfl (And.intro rfl (And.intro ?_ ?_))) <;> (conv => whnf) <;> repeat' (first
    | exact trivial
    | rfl
    | (refine And.intro (fun h => h) (Or.inl ?_))
    | (refine And.intro (fun _ => rfl) (Or.inl ?_))
    | (refine And.intro (fun h => Bool.noConfusion h) (Or.inl ?_))
    | (with_reducible refine And.intro (fun _ => rfl) ?_)
    | ((with_reducible refine And.intro ?_ ?_) <;> conv => whnf)
    | (refine congrArg (Value.int _) ?_)
    | (refine congrArg (SV.arr _) ?_)
    | (refine congrArg Value.bool ?_)
    | (exact fun h => Bool.noConfusion h)))); all_goals (try unfold Side)
  all_goals try (repeat' (first | (with_reducible rfl) | (with_reducible refine And.intro ?_ ?_) | omega | rfl | exact Or.inl rfl | exact Or.inr rfl | (focus ((try simp only [minL, maxL, pickB, getD_int, getD_sl, getD_bool, len_int, len_sl, len_bool, decide_eq_true_eq, decide_eq_false_iff_not, Bool.and_eq_true, Bool.or_eq_true, Bool.and_eq_false_iff, Bool.or_eq_false_iff, Bool.not_eq_true', Bool.not_eq_false', Int.toNat_natCast, Int.ofNat_lt, Int.ofNat_le, not_true_eq_false, not_false_eq_true, or_false, false_or, and_true, true_and, or_true, true_or, and_false, false_and, InK, Path.imp, List.length_replicate, List.length_set, List.length_append, List.length_cons, List.length_nil] at *); omega)) | (refine app_le rfl ?_; omega)))
set_option maxHeartbeats 2000000 in
theorem Aspires_good (hok : riverOk fl gs = true) (hg : grpB fl.length g = true) (hgl : g.length ≤ 1000) : FnAt Try.prog false 35 [.arr (.int .i64) fl, .arr (.sl (.int .i64)) gs, .arr (.int .i64) g] (.tup [.lit (.int .i64 (val fl (onlyL gs fl.length g))), .lit (.int .i64 0)]) [] := by
  have hgr := group_at hok hg hgl h1 h2 h3
  have h := riverOk.riv hok
  have ho := only_at fl gs g h (grpB.grp hg)
  have hR := h.only g
  have hv := value_at fl (onlyL gs fl.length g) hR.g hR.len hR.val
  refine FnAt.of_body tys_ok Try.func35 (by rfl) rfl Try.ntmps35 (by rw [Try.results35]) (by simp) ?_
  
  repeat' (first
    | refine W.seq ?_
    | refine W.block ?_
    | (refine W.region tys_ok [] ?_; conv => whnf)
    | (refine W.drawAll tys_ok [] mixed rfl ?_; conv => whnf)
    | (refine W.ret ?_; conv => whnf)
    | (refine W.skip ?_; conv => whnf)
    | (refine W.exit ?_; conv => whnf)
    | (refine ⟨true, _, _, _, _, rfl, Path.imp_of (hgr), rfl, rfl, rfl, ?_⟩; conv => whnf)
    | (refine ⟨true, _, _, _, _, rfl, Path.imp_of (ho), rfl, rfl, rfl, ?_⟩; conv => whnf)
    | (refine ⟨false, _, _, _, _, rfl, Path.imp_of (hv), rfl, rfl, rfl, ?_⟩; conv => whnf)

    | (refine W.cond rfl (fun hb => ?_) (fun hb => ?_) <;> (try simp only [minL, maxL, pickB, getD_int, getD_sl, getD_bool, len_int, len_sl, len_bool, decide_eq_true_eq, decide_eq_false_iff_not, Bool.and_eq_true, Bool.or_eq_true, Bool.and_eq_false_iff, Bool.or_eq_false_iff, Bool.not_eq_true', Bool.not_eq_false', Int.toNat_natCast, Int.ofNat_lt, Int.ofNat_le, not_true_eq_false, not_false_eq_true, or_false, false_or, and_true, true_and, or_true, true_or, and_false, false_and] at hb) <;> (try (first | (cases hb; done) | exact absurd hb (by decide) | (exfalso; omega))))
    | ((with_reducible refine And.intro ?_ ?_); (focus ((repeat' (first | (with_reducible rfl) | (with_reducible refine And.intro ?_ ?_) | omega | rfl | exact Or.inl rfl | exact Or.inr rfl | (focus ((try simp only [minL, maxL, pickB, getD_int, getD_sl, getD_bool, len_int, len_sl, len_bool, decide_eq_true_eq, decide_eq_false_iff_not, Bool.and_eq_true, Bool.or_eq_true, Bool.and_eq_false_iff, Bool.or_eq_false_iff, Bool.not_eq_true', Bool.not_eq_false', Int.toNat_natCast, Int.ofNat_lt, Int.ofNat_le, not_true_eq_false, not_false_eq_true, or_false, false_or, and_true, true_and, or_true, true_or, and_false, false_and, InK, Path.imp, List.length_replicate, List.length_set, List.length_append, List.length_cons, List.length_nil] at *); omega)) | (refine app_le rfl ?_; omega))); done)); (conv => whnf))
    | ((with_reducible refine And.intro (Side.out ?_) ?_); rotate_left; (conv => whnf))
    | (refine Exists.intro _ (And.intro rfl (And.intro rfl (And.intro ?_ ?_))) <;> (conv => whnf) <;> repeat' (first
    | exact trivial
    | rfl
    | (refine And.intro (fun h => h) (Or.inl ?_))
    | (refine And.intro (fun _ => rfl) (Or.inl ?_))
    | (refine And.intro (fun h => Bool.noConfusion h) (Or.inl ?_))
    | (with_reducible refine And.intro (fun _ => rfl) ?_)
    | ((with_reducible refine And.intro ?_ ?_) <;> conv => whnf)
    | (refine congrArg (Value.int _) ?_)
    | (refine congrArg (SV.arr _) ?_)
    | (refine congrArg Value.bool ?_)
    | (exact fun h => Bool.noConfusion h)))); all_goals (try unfold Side)
  all_goals try (repeat' (first | (with_reducible rfl) | (with_reducible refine And.intro ?_ ?_) | omega | rfl | exact Or.inl rfl | exact Or.inr rfl | (focus ((try simp only [minL, maxL, pickB, getD_int, getD_sl, getD_bool, len_int, len_sl, len_bool, decide_eq_true_eq, decide_eq_false_iff_not, Bool.and_eq_true, Bool.or_eq_true, Bool.and_eq_false_iff, Bool.or_eq_false_iff, Bool.not_eq_true', Bool.not_eq_false', Int.toNat_natCast, Int.ofNat_lt, Int.ofNat_le, not_true_eq_false, not_false_eq_true, or_false, false_or, and_true, true_and, or_true, true_or, and_false, false_and, InK, Path.imp, List.length_replicate, List.length_set, List.length_append, List.length_cons, List.length_nil] at *); omega)) | (refine app_le rfl ?_; omega)))
set_option maxHeartbeats 2000000 in
theorem Alone_good (hok : riverOk fl gs = true) (hg : grpB fl.length g = true) (hgl : g.length ≤ 1000) : FnAt Try.prog false 34 [.arr (.int .i64) fl, .arr (.sl (.int .i64)) gs, .arr (.int .i64) g] (.tup [.lit (.int .i64 (aloneL fl gs g)), .lit (.int .i64 0)]) [] := by
  have hgr := group_at hok hg hgl h1 h2 h3
  have h := riverOk.riv hok
  have hG := h.g
  have hl := h.len
  have hl8 := hG.len
  have hgp := grpB.grp hg
  have hgl := hgp.len
  refine FnAt.of_body tys_ok Try.func34 (by rfl) rfl Try.ntmps34 (by rw [Try.results34]) (by simp) ?_
  
  repeat' (first
    | refine W.seq ?_
    | refine W.block ?_
    | (refine W.region tys_ok [] ?_; conv => whnf)
    | (refine W.drawAll tys_ok [] mixed rfl ?_; conv => whnf)
    | (refine W.ret ?_; conv => whnf)
    | (refine W.skip ?_; conv => whnf)
    | (refine W.exit ?_; conv => whnf)
    | (refine ⟨true, _, _, _, _, rfl, Path.imp_of (hgr), rfl, rfl, rfl, ?_⟩; conv => whnf)

    | (refine W.cond rfl (fun hb => ?_) (fun hb => ?_) <;> (try simp only [minL, maxL, pickB, getD_int, getD_sl, getD_bool, len_int, len_sl, len_bool, decide_eq_true_eq, decide_eq_false_iff_not, Bool.and_eq_true, Bool.or_eq_true, Bool.and_eq_false_iff, Bool.or_eq_false_iff, Bool.not_eq_true', Bool.not_eq_false', Int.toNat_natCast, Int.ofNat_lt, Int.ofNat_le, not_true_eq_false, not_false_eq_true, or_false, false_or, and_true, true_and, or_true, true_or, and_false, false_and] at hb) <;> (try (first | (cases hb; done) | exact absurd hb (by decide) | (exfalso; omega))))
    | ((with_reducible refine And.intro ?_ ?_); (focus ((repeat' (first | (with_reducible rfl) | (with_reducible refine And.intro ?_ ?_) | omega | rfl | exact Or.inl rfl | exact Or.inr rfl | (focus ((try simp only [minL, maxL, pickB, getD_int, getD_sl, getD_bool, len_int, len_sl, len_bool, decide_eq_true_eq, decide_eq_false_iff_not, Bool.and_eq_true, Bool.or_eq_true, Bool.and_eq_false_iff, Bool.or_eq_false_iff, Bool.not_eq_true', Bool.not_eq_false', Int.toNat_natCast, Int.ofNat_lt, Int.ofNat_le, not_true_eq_false, not_false_eq_true, or_false, false_or, and_true, true_and, or_true, true_or, and_false, false_and, InK, Path.imp, List.length_replicate, List.length_set, List.length_append, List.length_cons, List.length_nil] at *); omega)) | (refine app_le rfl ?_; omega))); done)); (conv => whnf))
    | ((with_reducible refine And.intro (Side.out ?_) ?_); rotate_left; (conv => whnf))
    | (refine Exists.intro _ (And.intro rfl (And.intro rfl (And.intro ?_ ?_))) <;> (conv => whnf) <;> repeat' (first
    | exact trivial
    | rfl
    | (refine And.intro (fun h => h) (Or.inl ?_))
    | (refine And.intro (fun _ => rfl) (Or.inl ?_))
    | (refine And.intro (fun h => Bool.noConfusion h) (Or.inl ?_))
    | (with_reducible refine And.intro (fun _ => rfl) ?_)
    | ((with_reducible refine And.intro ?_ ?_) <;> conv => whnf)
    | (refine congrArg (Value.int _) ?_)
    | (refine congrArg (SV.arr _) ?_)
    | (refine congrArg Value.bool ?_)
    | (exact fun h => Bool.noConfusion h)))); all_goals (try unfold Side)
  all_goals try (repeat' (first | (with_reducible rfl) | (with_reducible refine And.intro ?_ ?_) | omega | rfl | exact Or.inl rfl | exact Or.inr rfl | (focus ((try simp only [minL, maxL, pickB, getD_int, getD_sl, getD_bool, len_int, len_sl, len_bool, decide_eq_true_eq, decide_eq_false_iff_not, Bool.and_eq_true, Bool.or_eq_true, Bool.and_eq_false_iff, Bool.or_eq_false_iff, Bool.not_eq_true', Bool.not_eq_false', Int.toNat_natCast, Int.ofNat_lt, Int.ofNat_le, not_true_eq_false, not_false_eq_true, or_false, false_or, and_true, true_and, or_true, true_or, and_false, false_and, InK, Path.imp, List.length_replicate, List.length_set, List.length_append, List.length_cons, List.length_nil] at *); omega)) | (refine app_le rfl ?_; omega)))
  refine W.loop (fun x : List Int × Int => ⟨[(8, .padr 9000 0), (2, .st false (.arr (.int .i64) x.1)), (10, .lit (.int .i64 x.2))], [(9000, .box [.st false (.arr (.int .i64) fl), .st false (.arr (.sl (.int .i64)) gs)])]⟩)
    (fun x => 0 ≤ x.2 ∧ (∃ i, i ≤ g.length ∧ x.1 = g.drop i ∧ x.2 ≤ 160000 * i) ∧ x.2 + aloneL fl gs x.1 = aloneL fl gs g) (fun x => x.1.length) (g, 0) ?_ ?_
  · refine ⟨⟨Int.le_refl _, ⟨0, Nat.zero_le _, rfl, Int.le_refl _⟩, by simp⟩, ?_⟩
    refine ⟨rfl, ?_, ?_⟩ <;> (conv => whnf) <;> repeat' (first
    | exact trivial
    | rfl
    | (refine And.intro (fun h => h) (Or.inl ?_))
    | (refine And.intro (fun _ => rfl) (Or.inl ?_))
    | (refine And.intro (fun h => Bool.noConfusion h) (Or.inl ?_))
    | (with_reducible refine And.intro (fun _ => rfl) ?_)
    | ((with_reducible refine And.intro ?_ ?_) <;> conv => whnf)
    | (refine congrArg (Value.int _) ?_)
    | (refine congrArg (SV.arr _) ?_)
    | (refine congrArg Value.bool ?_)
    | (exact fun h => Bool.noConfusion h))
  · rintro ⟨r, s⟩ ⟨g2, ⟨i, g1, hr, g3⟩, g4⟩
    dsimp only at g1 g2 g3 g4 hr ⊢
    have hrl : r.length = g.length - i := by rw [hr, List.length_drop]
    have hrl' : @List.length (Ty.int .i64).T r = g.length - i := hrl
    have hrv : ∀ j, j < r.length → 0 ≤ r.getD j 0 ∧ r.getD j 0 < fl.length := fun j hj => by rw [hr, getD_drop]; exact hgp.val _ (by omega)
    by_cases hi : i < g.length
    · repeat' (first
    | refine W.seq ?_
    | refine W.block ?_
    | (refine W.region tys_ok [] ?_; conv => whnf)
    | (refine W.drawAll tys_ok [] mixed rfl ?_; conv => whnf)
    | (refine W.ret ?_; conv => whnf)
    | (refine W.skip ?_; conv => whnf)
    | (refine W.exit ?_; conv => whnf)

    | (refine W.cond rfl (fun hb => ?_) (fun hb => ?_) <;> (try simp only [minL, maxL, pickB, getD_int, getD_sl, getD_bool, len_int, len_sl, len_bool, decide_eq_true_eq, decide_eq_false_iff_not, Bool.and_eq_true, Bool.or_eq_true, Bool.and_eq_false_iff, Bool.or_eq_false_iff, Bool.not_eq_true', Bool.not_eq_false', Int.toNat_natCast, Int.ofNat_lt, Int.ofNat_le, not_true_eq_false, not_false_eq_true, or_false, false_or, and_true, true_and, or_true, true_or, and_false, false_and] at hb) <;> (try (first | (cases hb; done) | exact absurd hb (by decide) | (exfalso; omega))))
    | ((with_reducible refine And.intro ?_ ?_); (focus ((repeat' (first | (with_reducible rfl) | (with_reducible refine And.intro ?_ ?_) | omega | rfl | exact Or.inl rfl | exact Or.inr rfl | (focus ((try simp only [minL, maxL, pickB, getD_int, getD_sl, getD_bool, len_int, len_sl, len_bool, decide_eq_true_eq, decide_eq_false_iff_not, Bool.and_eq_true, Bool.or_eq_true, Bool.and_eq_false_iff, Bool.or_eq_false_iff, Bool.not_eq_true', Bool.not_eq_false', Int.toNat_natCast, Int.ofNat_lt, Int.ofNat_le, not_true_eq_false, not_false_eq_true, or_false, false_or, and_true, true_and, or_true, true_or, and_false, false_and, InK, Path.imp, List.length_replicate, List.length_set, List.length_append, List.length_cons, List.length_nil] at *); omega)) | (refine app_le rfl ?_; omega))); done)); (conv => whnf))
    | ((with_reducible refine And.intro (Side.out ?_) ?_); rotate_left; (conv => whnf))
    | (refine Exists.intro _ (And.intro rfl (And.intro rfl (And.intro ?_ ?_))) <;> (conv => whnf) <;> repeat' (first
    | exact trivial
    | rfl
    | (refine And.intro (fun h => h) (Or.inl ?_))
    | (refine And.intro (fun _ => rfl) (Or.inl ?_))
    | (refine And.intro (fun h => Bool.noConfusion h) (Or.inl ?_))
    | (with_reducible refine And.intro (fun _ => rfl) ?_)
    | ((with_reducible refine And.intro ?_ ?_) <;> conv => whnf)
    | (refine congrArg (Value.int _) ?_)
    | (refine congrArg (SV.arr _) ?_)
    | (refine congrArg Value.bool ?_)
    | (exact fun h => Bool.noConfusion h)))); all_goals (try unfold Side)
      all_goals try (repeat' (first | (with_reducible rfl) | (with_reducible refine And.intro ?_ ?_) | omega | rfl | exact Or.inl rfl | exact Or.inr rfl | (focus ((try simp only [minL, maxL, pickB, getD_int, getD_sl, getD_bool, len_int, len_sl, len_bool, decide_eq_true_eq, decide_eq_false_iff_not, Bool.and_eq_true, Bool.or_eq_true, Bool.and_eq_false_iff, Bool.or_eq_false_iff, Bool.not_eq_true', Bool.not_eq_false', Int.toNat_natCast, Int.ofNat_lt, Int.ofNat_le, not_true_eq_false, not_false_eq_true, or_false, false_or, and_true, true_and, or_true, true_or, and_false, false_and, InK, Path.imp, List.length_replicate, List.length_set, List.length_append, List.length_cons, List.length_nil] at *); omega)) | (refine app_le rfl ?_; omega)))
      refine W.loop (fun n : Nat => ⟨[(8, .padr 9000 0), (2, .st false (.arr (.int .i64) r)), (10, .lit (.int .i64 s)), (11, .lit (.int .i64 n))], [(9000, .box [.st false (.arr (.int .i64) fl), .st false (.arr (.sl (.int .i64)) gs)])]⟩)
        (fun n => 0 < n ∧ n ≤ r.length ∧ ∀ j, 0 < j → j < n → r.getD j 0 = r.getD (j - 1) 0 + 1) (fun n => r.length - n) 1 ?_ ?_
      · refine ⟨⟨by omega, by omega, fun j h1 h2 => by omega⟩, ?_⟩
        refine ⟨rfl, ?_, ?_⟩ <;> (conv => whnf) <;> repeat' (first
    | exact trivial
    | rfl
    | (refine And.intro (fun h => h) (Or.inl ?_))
    | (refine And.intro (fun _ => rfl) (Or.inl ?_))
    | (refine And.intro (fun h => Bool.noConfusion h) (Or.inl ?_))
    | (with_reducible refine And.intro (fun _ => rfl) ?_)
    | ((with_reducible refine And.intro ?_ ?_) <;> conv => whnf)
    | (refine congrArg (Value.int _) ?_)
    | (refine congrArg (SV.arr _) ?_)
    | (refine congrArg Value.bool ?_)
    | (exact fun h => Bool.noConfusion h))
      · rintro n ⟨hk1, hk2, hk3⟩
        have e1 : ((n : Int) - 1).toNat = n - 1 := by omega
        have hv1 := hrv (n - 1) (by omega)
        have hv1' := hv1
        rw [← e1] at hv1'
        have hvi := hrv 0 (by omega)
        by_cases hc : n < r.length ∧ r.getD n 0 = r.getD ((n : Int) - 1).toNat 0 + 1
        · obtain ⟨hc1, hc2⟩ := hc
          repeat' (first
    | refine W.seq ?_
    | refine W.block ?_
    | (refine W.region tys_ok [] ?_; conv => whnf)
    | (refine W.drawAll tys_ok [] mixed rfl ?_; conv => whnf)
    | (refine W.ret ?_; conv => whnf)
    | (refine W.skip ?_; conv => whnf)
    | (refine W.exit ?_; conv => whnf)

    | (refine W.cond rfl (fun hb => ?_) (fun hb => ?_) <;> (try simp only [minL, maxL, pickB, getD_int, getD_sl, getD_bool, len_int, len_sl, len_bool, decide_eq_true_eq, decide_eq_false_iff_not, Bool.and_eq_true, Bool.or_eq_true, Bool.and_eq_false_iff, Bool.or_eq_false_iff, Bool.not_eq_true', Bool.not_eq_false', Int.toNat_natCast, Int.ofNat_lt, Int.ofNat_le, not_true_eq_false, not_false_eq_true, or_false, false_or, and_true, true_and, or_true, true_or, and_false, false_and] at hb) <;> (try (first | (cases hb; done) | exact absurd hb (by decide) | (exfalso; omega))))
    | ((with_reducible refine And.intro ?_ ?_); (focus ((repeat' (first | (with_reducible rfl) | (with_reducible refine And.intro ?_ ?_) | omega | rfl | exact Or.inl rfl | exact Or.inr rfl | (focus ((try simp only [minL, maxL, pickB, getD_int, getD_sl, getD_bool, len_int, len_sl, len_bool, decide_eq_true_eq, decide_eq_false_iff_not, Bool.and_eq_true, Bool.or_eq_true, Bool.and_eq_false_iff, Bool.or_eq_false_iff, Bool.not_eq_true', Bool.not_eq_false', Int.toNat_natCast, Int.ofNat_lt, Int.ofNat_le, not_true_eq_false, not_false_eq_true, or_false, false_or, and_true, true_and, or_true, true_or, and_false, false_and, InK, Path.imp, List.length_replicate, List.length_set, List.length_append, List.length_cons, List.length_nil] at *); omega)) | (refine app_le rfl ?_; omega))); done)); (conv => whnf))
    | ((with_reducible refine And.intro (Side.out ?_) ?_); rotate_left; (conv => whnf))
    | (refine Exists.intro _ (And.intro rfl (And.intro rfl (And.intro ?_ ?_))) <;> (conv => whnf) <;> repeat' (first
    | exact trivial
    | rfl
    | (refine And.intro (fun h => h) (Or.inl ?_))
    | (refine And.intro (fun _ => rfl) (Or.inl ?_))
    | (refine And.intro (fun h => Bool.noConfusion h) (Or.inl ?_))
    | (with_reducible refine And.intro (fun _ => rfl) ?_)
    | ((with_reducible refine And.intro ?_ ?_) <;> conv => whnf)
    | (refine congrArg (Value.int _) ?_)
    | (refine congrArg (SV.arr _) ?_)
    | (refine congrArg Value.bool ?_)
    | (exact fun h => Bool.noConfusion h)))); all_goals (try unfold Side)
          all_goals try (repeat' (first | (with_reducible rfl) | (with_reducible refine And.intro ?_ ?_) | omega | rfl | exact Or.inl rfl | exact Or.inr rfl | (focus ((try simp only [minL, maxL, pickB, getD_int, getD_sl, getD_bool, len_int, len_sl, len_bool, decide_eq_true_eq, decide_eq_false_iff_not, Bool.and_eq_true, Bool.or_eq_true, Bool.and_eq_false_iff, Bool.or_eq_false_iff, Bool.not_eq_true', Bool.not_eq_false', Int.toNat_natCast, Int.ofNat_lt, Int.ofNat_le, not_true_eq_false, not_false_eq_true, or_false, false_or, and_true, true_and, or_true, true_or, and_false, false_and, InK, Path.imp, List.length_replicate, List.length_set, List.length_append, List.length_cons, List.length_nil] at *); omega)) | (refine app_le rfl ?_; omega)))
          refine ⟨n + 1, ⟨⟨by omega, by omega, fun j h1 h2 => ?_⟩, by omega⟩, ?_⟩
          · by_cases e : j = n
            · subst e; rw [← e1]; exact hc2
            · exact hk3 j h1 (by omega)
          · refine ⟨rfl, ?_, ?_⟩ <;> (conv => whnf) <;> repeat' (first
    | exact trivial
    | rfl
    | (refine And.intro (fun h => h) (Or.inl ?_))
    | (refine And.intro (fun _ => rfl) (Or.inl ?_))
    | (refine And.intro (fun h => Bool.noConfusion h) (Or.inl ?_))
    | (with_reducible refine And.intro (fun _ => rfl) ?_)
    | ((with_reducible refine And.intro ?_ ?_) <;> conv => whnf)
    | (refine congrArg (Value.int _) ?_)
    | (refine congrArg (SV.arr _) ?_)
    | (refine congrArg Value.bool ?_)
    | (exact fun h => Bool.noConfusion h))
        · have hst := alone_step (fl := fl) (gs := gs) hk1 hk2 hk3 (by rw [← e1]; exact hc)
          have hcs := consec hk3 (n - 1) (by omega)
          have hcs' := hcs
          rw [← e1] at hcs'
          have hp := part_gen fl gs (r.getD 0 0) (r.getD ((n : Int) - 1).toNat 0 + 1) (by omega) (by omega) (by omega) (by omega) (by omega) (by omega)
          have hRp := h.part (r.getD 0 0).toNat (r.getD ((n : Int) - 1).toNat 0 + 1).toNat
          have hv := value_at _ _ hRp.g hRp.len hRp.val
          have hrb := rowV_bound (fl := fl) hG (r.getD 0 0).toNat n
          have e2 : val ((fl.take (r.getD ((n : Int) - 1).toNat 0 + 1).toNat).drop (r.getD 0 0).toNat) ((gs.take (r.getD ((n : Int) - 1).toNat 0 + 1).toNat).drop (r.getD 0 0).toNat) = rowV fl gs (r.getD 0 0).toNat n := by
            rw [rowV, show (r.getD 0 0).toNat + n = (r.getD ((n : Int) - 1).toNat 0 + 1).toNat from by omega]
          rw [e2] at hv
          repeat' (first
    | refine W.seq ?_
    | refine W.block ?_
    | (refine W.region tys_ok [] ?_; conv => whnf)
    | (refine W.drawAll tys_ok [] mixed rfl ?_; conv => whnf)
    | (refine W.ret ?_; conv => whnf)
    | (refine W.skip ?_; conv => whnf)
    | (refine W.exit ?_; conv => whnf)
    | (refine ⟨true, _, _, _, _, rfl, Path.imp_of (hp), rfl, rfl, rfl, ?_⟩; conv => whnf)
    | (refine ⟨false, _, _, _, _, rfl, Path.imp_of (hv), rfl, rfl, rfl, ?_⟩; conv => whnf)

    | (refine W.cond rfl (fun hb => ?_) (fun hb => ?_) <;> (try simp only [minL, maxL, pickB, getD_int, getD_sl, getD_bool, len_int, len_sl, len_bool, decide_eq_true_eq, decide_eq_false_iff_not, Bool.and_eq_true, Bool.or_eq_true, Bool.and_eq_false_iff, Bool.or_eq_false_iff, Bool.not_eq_true', Bool.not_eq_false', Int.toNat_natCast, Int.ofNat_lt, Int.ofNat_le, not_true_eq_false, not_false_eq_true, or_false, false_or, and_true, true_and, or_true, true_or, and_false, false_and] at hb) <;> (try (first | (cases hb; done) | exact absurd hb (by decide) | (exfalso; omega))))
    | ((with_reducible refine And.intro ?_ ?_); (focus ((repeat' (first | (with_reducible rfl) | (with_reducible refine And.intro ?_ ?_) | omega | rfl | exact Or.inl rfl | exact Or.inr rfl | (focus ((try simp only [minL, maxL, pickB, getD_int, getD_sl, getD_bool, len_int, len_sl, len_bool, decide_eq_true_eq, decide_eq_false_iff_not, Bool.and_eq_true, Bool.or_eq_true, Bool.and_eq_false_iff, Bool.or_eq_false_iff, Bool.not_eq_true', Bool.not_eq_false', Int.toNat_natCast, Int.ofNat_lt, Int.ofNat_le, not_true_eq_false, not_false_eq_true, or_false, false_or, and_true, true_and, or_true, true_or, and_false, false_and, InK, Path.imp, List.length_replicate, List.length_set, List.length_append, List.length_cons, List.length_nil] at *); omega)) | (refine app_le rfl ?_; omega))); done)); (conv => whnf))
    | ((with_reducible refine And.intro (Side.out ?_) ?_); rotate_left; (conv => whnf))
    | (refine Exists.intro _ (And.intro rfl (And.intro rfl (And.intro ?_ ?_))) <;> (conv => whnf) <;> repeat' (first
    | exact trivial
    | rfl
    | (refine And.intro (fun h => h) (Or.inl ?_))
    | (refine And.intro (fun _ => rfl) (Or.inl ?_))
    | (refine And.intro (fun h => Bool.noConfusion h) (Or.inl ?_))
    | (with_reducible refine And.intro (fun _ => rfl) ?_)
    | ((with_reducible refine And.intro ?_ ?_) <;> conv => whnf)
    | (refine congrArg (Value.int _) ?_)
    | (refine congrArg (SV.arr _) ?_)
    | (refine congrArg Value.bool ?_)
    | (exact fun h => Bool.noConfusion h)))); all_goals (try unfold Side)
          all_goals try (repeat' (first | (with_reducible rfl) | (with_reducible refine And.intro ?_ ?_) | omega | rfl | exact Or.inl rfl | exact Or.inr rfl | (focus ((try simp only [minL, maxL, pickB, getD_int, getD_sl, getD_bool, len_int, len_sl, len_bool, decide_eq_true_eq, decide_eq_false_iff_not, Bool.and_eq_true, Bool.or_eq_true, Bool.and_eq_false_iff, Bool.or_eq_false_iff, Bool.not_eq_true', Bool.not_eq_false', Int.toNat_natCast, Int.ofNat_lt, Int.ofNat_le, not_true_eq_false, not_false_eq_true, or_false, false_or, and_true, true_and, or_true, true_or, and_false, false_and, InK, Path.imp, List.length_replicate, List.length_set, List.length_append, List.length_cons, List.length_nil] at *); omega)) | (refine app_le rfl ?_; omega)))
          refine ⟨(r.drop n, s + rowV fl gs (r.getD 0 0).toNat n), ⟨⟨?_, ⟨i + n, ?_, ?_, ?_⟩, ?_⟩, ?_⟩, ?_⟩
          · dsimp only; omega
          · omega
          · dsimp only; rw [hr, List.drop_drop]
          · dsimp only; omega
          · dsimp only; omega
          · dsimp only; rw [List.length_drop]; omega
          · refine ⟨rfl, ?_, ?_⟩ <;> (conv => whnf) <;> repeat' (first
    | exact trivial
    | rfl
    | (refine And.intro (fun h => h) (Or.inl ?_))
    | (refine And.intro (fun _ => rfl) (Or.inl ?_))
    | (refine And.intro (fun h => Bool.noConfusion h) (Or.inl ?_))
    | (with_reducible refine And.intro (fun _ => rfl) ?_)
    | ((with_reducible refine And.intro ?_ ?_) <;> conv => whnf)
    | (refine congrArg (Value.int _) ?_)
    | (refine congrArg (SV.arr _) ?_)
    | (refine congrArg Value.bool ?_)
    | (exact fun h => Bool.noConfusion h))
            show (r.take r.length).drop n = r.drop n
            rw [List.take_length]
    · have hre : r = [] := List.eq_nil_of_length_eq_zero (by omega)
      subst hre
      rw [show aloneL fl gs [] = 0 from rfl] at g4
      repeat' (first
    | refine W.seq ?_
    | refine W.block ?_
    | (refine W.region tys_ok [] ?_; conv => whnf)
    | (refine W.drawAll tys_ok [] mixed rfl ?_; conv => whnf)
    | (refine W.ret ?_; conv => whnf)
    | (refine W.skip ?_; conv => whnf)
    | (refine W.exit ?_; conv => whnf)

    | (refine W.cond rfl (fun hb => ?_) (fun hb => ?_) <;> (try simp only [minL, maxL, pickB, getD_int, getD_sl, getD_bool, len_int, len_sl, len_bool, decide_eq_true_eq, decide_eq_false_iff_not, Bool.and_eq_true, Bool.or_eq_true, Bool.and_eq_false_iff, Bool.or_eq_false_iff, Bool.not_eq_true', Bool.not_eq_false', Int.toNat_natCast, Int.ofNat_lt, Int.ofNat_le, not_true_eq_false, not_false_eq_true, or_false, false_or, and_true, true_and, or_true, true_or, and_false, false_and] at hb) <;> (try (first | (cases hb; done) | exact absurd hb (by decide) | (exfalso; omega))))
    | ((with_reducible refine And.intro ?_ ?_); (focus ((repeat' (first | (with_reducible rfl) | (with_reducible refine And.intro ?_ ?_) | omega | rfl | exact Or.inl rfl | exact Or.inr rfl | (focus ((try simp only [minL, maxL, pickB, getD_int, getD_sl, getD_bool, len_int, len_sl, len_bool, decide_eq_true_eq, decide_eq_false_iff_not, Bool.and_eq_true, Bool.or_eq_true, Bool.and_eq_false_iff, Bool.or_eq_false_iff, Bool.not_eq_true', Bool.not_eq_false', Int.toNat_natCast, Int.ofNat_lt, Int.ofNat_le, not_true_eq_false, not_false_eq_true, or_false, false_or, and_true, true_and, or_true, true_or, and_false, false_and, InK, Path.imp, List.length_replicate, List.length_set, List.length_append, List.length_cons, List.length_nil] at *); omega)) | (refine app_le rfl ?_; omega))); done)); (conv => whnf))
    | ((with_reducible refine And.intro (Side.out ?_) ?_); rotate_left; (conv => whnf))
    | (refine Exists.intro _ (And.intro rfl (And.intro rfl (And.intro ?_ ?_))) <;> (conv => whnf) <;> repeat' (first
    | exact trivial
    | rfl
    | (refine And.intro (fun h => h) (Or.inl ?_))
    | (refine And.intro (fun _ => rfl) (Or.inl ?_))
    | (refine And.intro (fun h => Bool.noConfusion h) (Or.inl ?_))
    | (with_reducible refine And.intro (fun _ => rfl) ?_)
    | ((with_reducible refine And.intro ?_ ?_) <;> conv => whnf)
    | (refine congrArg (Value.int _) ?_)
    | (refine congrArg (SV.arr _) ?_)
    | (refine congrArg Value.bool ?_)
    | (exact fun h => Bool.noConfusion h)))); all_goals (try unfold Side)
      all_goals try (repeat' (first | (with_reducible rfl) | (with_reducible refine And.intro ?_ ?_) | omega | rfl | exact Or.inl rfl | exact Or.inr rfl | (focus ((try simp only [minL, maxL, pickB, getD_int, getD_sl, getD_bool, len_int, len_sl, len_bool, decide_eq_true_eq, decide_eq_false_iff_not, Bool.and_eq_true, Bool.or_eq_true, Bool.and_eq_false_iff, Bool.or_eq_false_iff, Bool.not_eq_true', Bool.not_eq_false', Int.toNat_natCast, Int.ofNat_lt, Int.ofNat_le, not_true_eq_false, not_false_eq_true, or_false, false_or, and_true, true_and, or_true, true_or, and_false, false_and, InK, Path.imp, List.length_replicate, List.length_set, List.length_append, List.length_cons, List.length_nil] at *); omega)) | (refine app_le rfl ?_; omega)))
end
set_option maxHeartbeats 2000000 in
theorem WaterGroups_at (fl : List Int) (gs : List (List Int)) (y : List Int) : FnAt Try.prog false 11 [.agg [.arr (.int .i64) fl, .arr (.sl (.int .i64)) gs], .arr (.int .i64) y] (.lit (.bool true)) [] := by
  obtain ⟨F, hF⟩ : ∃ F, F = fl.take 9 := ⟨_, rfl⟩
  obtain ⟨G, hG⟩ : ∃ G, G = fewG gs := ⟨_, rfl⟩
  obtain ⟨U, hUe⟩ : ∃ U, U = y.take 9 := ⟨_, rfl⟩
  have hU : U.length ≤ 9 := by rw [hUe, List.length_take]; omega
  have hfew := few_eq hF hG
  have hcut := cut_eq (n := 9) (by omega) hUe
  obtain ⟨hl1, hl2, hl3⟩ := (few_few hF hG).len
  clear hF hG hUe
  have hRv := River_ref F G hl1 hl2 hl3
  cases hok : riverOk F G with
  | false =>
    rw [hok] at hRv
    have hA := Alone_bad1 (g := U) hl1 hl2 hl3 hok
    have hB := Aspires_bad1 (g := U) hl1 hl2 hl3 hok
    refine FnAt.of_body tys_ok Try.func11 (by rfl) rfl Try.ntmps11 (by rw [Try.results11]) (by simp) ?_
  
    repeat' (first
    | refine W.seq ?_
    | refine W.block ?_
    | (refine W.region tys_ok [] ?_; conv => whnf)
    | (refine W.drawAll tys_ok [] mixed rfl ?_; conv => whnf)
    | (refine W.ret ?_; conv => whnf)
    | (refine W.skip ?_; conv => whnf)
    | (refine W.exit ?_; conv => whnf)
    | (refine ⟨false, _, _, _, _, rfl, Path.imp_of (hfew), rfl, rfl, rfl, ?_⟩; conv => whnf)
    | (refine ⟨false, _, _, _, _, rfl, Path.imp_of (hcut), rfl, rfl, rfl, ?_⟩; conv => whnf)
    | (refine ⟨false, _, _, _, _, rfl, Path.imp_of (hA), rfl, rfl, rfl, ?_⟩; conv => whnf)
    | (refine ⟨false, _, _, _, _, rfl, Path.imp_of (hB), rfl, rfl, rfl, ?_⟩; conv => whnf)
    | (refine ⟨false, _, _, _, _, rfl, Path.imp_of (hRv), rfl, rfl, rfl, ?_⟩; conv => whnf)
    | (refine ⟨false, _, _, _, _, rfl, Path.imp_of (lives_at), rfl, rfl, rfl, ?_⟩; conv => whnf)

    | (refine W.cond rfl (fun hb => ?_) (fun hb => ?_) <;> (try simp only [minL, maxL, pickB, getD_int, getD_sl, getD_bool, len_int, len_sl, len_bool, decide_eq_true_eq, decide_eq_false_iff_not, Bool.and_eq_true, Bool.or_eq_true, Bool.and_eq_false_iff, Bool.or_eq_false_iff, Bool.not_eq_true', Bool.not_eq_false', Int.toNat_natCast, Int.ofNat_lt, Int.ofNat_le, not_true_eq_false, not_false_eq_true, or_false, false_or, and_true, true_and, or_true, true_or, and_false, false_and] at hb) <;> (try (first | (cases hb; done) | exact absurd hb (by decide) | (exfalso; omega))))
    | ((with_reducible refine And.intro ?_ ?_); (focus ((repeat' (first | (with_reducible rfl) | (with_reducible refine And.intro ?_ ?_) | omega | rfl | exact Or.inl rfl | exact Or.inr rfl | (focus ((try simp only [minL, maxL, pickB, getD_int, getD_sl, getD_bool, len_int, len_sl, len_bool, decide_eq_true_eq, decide_eq_false_iff_not, Bool.and_eq_true, Bool.or_eq_true, Bool.and_eq_false_iff, Bool.or_eq_false_iff, Bool.not_eq_true', Bool.not_eq_false', Int.toNat_natCast, Int.ofNat_lt, Int.ofNat_le, not_true_eq_false, not_false_eq_true, or_false, false_or, and_true, true_and, or_true, true_or, and_false, false_and, InK, Path.imp, List.length_replicate, List.length_set, List.length_append, List.length_cons, List.length_nil] at *); omega)) | (refine app_le rfl ?_; omega))); done)); (conv => whnf))
    | ((with_reducible refine And.intro (Side.out ?_) ?_); rotate_left; (conv => whnf))
    | (refine Exists.intro _ (And.intro rfl (And.intro rfl (And.intro ?_ ?_))) <;> (conv => whnf) <;> repeat' (first
    | exact trivial
    | rfl
    | (refine And.intro (fun h => h) (Or.inl ?_))
    | (refine And.intro (fun _ => rfl) (Or.inl ?_))
    | (refine And.intro (fun h => Bool.noConfusion h) (Or.inl ?_))
    | (with_reducible refine And.intro (fun _ => rfl) ?_)
    | ((with_reducible refine And.intro ?_ ?_) <;> conv => whnf)
    | (refine congrArg (Value.int _) ?_)
    | (refine congrArg (SV.arr _) ?_)
    | (refine congrArg Value.bool ?_)
    | (exact fun h => Bool.noConfusion h)))); all_goals (try unfold Side)
    all_goals try (repeat' (first | (with_reducible rfl) | (with_reducible refine And.intro ?_ ?_) | omega | rfl | exact Or.inl rfl | exact Or.inr rfl | (focus ((try simp only [minL, maxL, pickB, getD_int, getD_sl, getD_bool, len_int, len_sl, len_bool, decide_eq_true_eq, decide_eq_false_iff_not, Bool.and_eq_true, Bool.or_eq_true, Bool.and_eq_false_iff, Bool.or_eq_false_iff, Bool.not_eq_true', Bool.not_eq_false', Int.toNat_natCast, Int.ofNat_lt, Int.ofNat_le, not_true_eq_false, not_false_eq_true, or_false, false_or, and_true, true_and, or_true, true_or, and_false, false_and, InK, Path.imp, List.length_replicate, List.length_set, List.length_append, List.length_cons, List.length_nil] at *); omega)) | (refine app_le rfl ?_; omega)))
  | true =>
    rw [hok] at hRv
    have h := riverOk.riv hok
    have hl8 := h.g.len
    have hl := h.len
    have hlp := (riverOk.river hok).pos
    have hGr := Group_ref F.length U (by omega) (by omega)
    cases hg : grpB F.length U with
    | false =>
      rw [hg] at hGr
      have hA := Alone_bad2 (g := U) hl1 hl2 hl3 hok hg (by omega)
      have hB := Aspires_bad2 (g := U) hl1 hl2 hl3 hok hg (by omega)
      refine FnAt.of_body tys_ok Try.func11 (by rfl) rfl Try.ntmps11 (by rw [Try.results11]) (by simp) ?_
  
      repeat' (first
    | refine W.seq ?_
    | refine W.block ?_
    | (refine W.region tys_ok [] ?_; conv => whnf)
    | (refine W.drawAll tys_ok [] mixed rfl ?_; conv => whnf)
    | (refine W.ret ?_; conv => whnf)
    | (refine W.skip ?_; conv => whnf)
    | (refine W.exit ?_; conv => whnf)
    | (refine ⟨false, _, _, _, _, rfl, Path.imp_of (hfew), rfl, rfl, rfl, ?_⟩; conv => whnf)
    | (refine ⟨false, _, _, _, _, rfl, Path.imp_of (hcut), rfl, rfl, rfl, ?_⟩; conv => whnf)
    | (refine ⟨false, _, _, _, _, rfl, Path.imp_of (hA), rfl, rfl, rfl, ?_⟩; conv => whnf)
    | (refine ⟨false, _, _, _, _, rfl, Path.imp_of (hB), rfl, rfl, rfl, ?_⟩; conv => whnf)
    | (refine ⟨false, _, _, _, _, rfl, Path.imp_of (hRv), rfl, rfl, rfl, ?_⟩; conv => whnf)
    | (refine ⟨false, _, _, _, _, rfl, Path.imp_of (hGr), rfl, rfl, rfl, ?_⟩; conv => whnf)
    | (refine ⟨false, _, _, _, _, rfl, Path.imp_of (lives_at), rfl, rfl, rfl, ?_⟩; conv => whnf)

    | (refine W.cond rfl (fun hb => ?_) (fun hb => ?_) <;> (try simp only [minL, maxL, pickB, getD_int, getD_sl, getD_bool, len_int, len_sl, len_bool, decide_eq_true_eq, decide_eq_false_iff_not, Bool.and_eq_true, Bool.or_eq_true, Bool.and_eq_false_iff, Bool.or_eq_false_iff, Bool.not_eq_true', Bool.not_eq_false', Int.toNat_natCast, Int.ofNat_lt, Int.ofNat_le, not_true_eq_false, not_false_eq_true, or_false, false_or, and_true, true_and, or_true, true_or, and_false, false_and] at hb) <;> (try (first | (cases hb; done) | exact absurd hb (by decide) | (exfalso; omega))))
    | ((with_reducible refine And.intro ?_ ?_); (focus ((repeat' (first | (with_reducible rfl) | (with_reducible refine And.intro ?_ ?_) | omega | rfl | exact Or.inl rfl | exact Or.inr rfl | (focus ((try simp only [minL, maxL, pickB, getD_int, getD_sl, getD_bool, len_int, len_sl, len_bool, decide_eq_true_eq, decide_eq_false_iff_not, Bool.and_eq_true, Bool.or_eq_true, Bool.and_eq_false_iff, Bool.or_eq_false_iff, Bool.not_eq_true', Bool.not_eq_false', Int.toNat_natCast, Int.ofNat_lt, Int.ofNat_le, not_true_eq_false, not_false_eq_true, or_false, false_or, and_true, true_and, or_true, true_or, and_false, false_and, InK, Path.imp, List.length_replicate, List.length_set, List.length_append, List.length_cons, List.length_nil] at *); omega)) | (refine app_le rfl ?_; omega))); done)); (conv => whnf))
    | ((with_reducible refine And.intro (Side.out ?_) ?_); rotate_left; (conv => whnf))
    | (refine Exists.intro _ (And.intro rfl (And.intro rfl (And.intro ?_ ?_))) <;> (conv => whnf) <;> repeat' (first
    | exact trivial
    | rfl
    | (refine And.intro (fun h => h) (Or.inl ?_))
    | (refine And.intro (fun _ => rfl) (Or.inl ?_))
    | (refine And.intro (fun h => Bool.noConfusion h) (Or.inl ?_))
    | (with_reducible refine And.intro (fun _ => rfl) ?_)
    | ((with_reducible refine And.intro ?_ ?_) <;> conv => whnf)
    | (refine congrArg (Value.int _) ?_)
    | (refine congrArg (SV.arr _) ?_)
    | (refine congrArg Value.bool ?_)
    | (exact fun h => Bool.noConfusion h)))); all_goals (try unfold Side)
      all_goals try (repeat' (first | (with_reducible rfl) | (with_reducible refine And.intro ?_ ?_) | omega | rfl | exact Or.inl rfl | exact Or.inr rfl | (focus ((try simp only [minL, maxL, pickB, getD_int, getD_sl, getD_bool, len_int, len_sl, len_bool, decide_eq_true_eq, decide_eq_false_iff_not, Bool.and_eq_true, Bool.or_eq_true, Bool.and_eq_false_iff, Bool.or_eq_false_iff, Bool.not_eq_true', Bool.not_eq_false', Int.toNat_natCast, Int.ofNat_lt, Int.ofNat_le, not_true_eq_false, not_false_eq_true, or_false, false_or, and_true, true_and, or_true, true_or, and_false, false_and, InK, Path.imp, List.length_replicate, List.length_set, List.length_append, List.length_cons, List.length_nil] at *); omega)) | (refine app_le rfl ?_; omega)))
    | true =>
      rw [hg] at hGr
      have hA := Alone_good (g := U) hl1 hl2 hl3 hok hg (by omega)
      have hB := Aspires_good (g := U) hl1 hl2 hl3 hok hg (by omega)
      have hA2 := Alone_ref F G U h (grpB.grp hg)
      have hB2 := Aspires_ref F G U h (grpB.grp hg)
      refine FnAt.of_body tys_ok Try.func11 (by rfl) rfl Try.ntmps11 (by rw [Try.results11]) (by simp) ?_
  
      repeat' (first
    | refine W.seq ?_
    | refine W.block ?_
    | (refine W.region tys_ok [] ?_; conv => whnf)
    | (refine W.drawAll tys_ok [] mixed rfl ?_; conv => whnf)
    | (refine W.ret ?_; conv => whnf)
    | (refine W.skip ?_; conv => whnf)
    | (refine W.exit ?_; conv => whnf)
    | (refine ⟨false, _, _, _, _, rfl, Path.imp_of (hfew), rfl, rfl, rfl, ?_⟩; conv => whnf)
    | (refine ⟨false, _, _, _, _, rfl, Path.imp_of (hcut), rfl, rfl, rfl, ?_⟩; conv => whnf)
    | (refine ⟨false, _, _, _, _, rfl, Path.imp_of (hA), rfl, rfl, rfl, ?_⟩; conv => whnf)
    | (refine ⟨false, _, _, _, _, rfl, Path.imp_of (hB), rfl, rfl, rfl, ?_⟩; conv => whnf)
    | (refine ⟨false, _, _, _, _, rfl, Path.imp_of (hRv), rfl, rfl, rfl, ?_⟩; conv => whnf)
    | (refine ⟨false, _, _, _, _, rfl, Path.imp_of (hGr), rfl, rfl, rfl, ?_⟩; conv => whnf)
    | (refine ⟨false, _, _, _, _, rfl, Path.imp_of (hA2), rfl, rfl, rfl, ?_⟩; conv => whnf)
    | (refine ⟨false, _, _, _, _, rfl, Path.imp_of (hB2), rfl, rfl, rfl, ?_⟩; conv => whnf)
    | (refine ⟨false, _, _, _, _, rfl, Path.imp_of (lives_at), rfl, rfl, rfl, ?_⟩; conv => whnf)

    | (refine W.cond rfl (fun hb => ?_) (fun hb => ?_) <;> (try simp only [minL, maxL, pickB, getD_int, getD_sl, getD_bool, len_int, len_sl, len_bool, decide_eq_true_eq, decide_eq_false_iff_not, Bool.and_eq_true, Bool.or_eq_true, Bool.and_eq_false_iff, Bool.or_eq_false_iff, Bool.not_eq_true', Bool.not_eq_false', Int.toNat_natCast, Int.ofNat_lt, Int.ofNat_le, not_true_eq_false, not_false_eq_true, or_false, false_or, and_true, true_and, or_true, true_or, and_false, false_and] at hb) <;> (try (first | (cases hb; done) | exact absurd hb (by decide) | (exfalso; omega))))
    | ((with_reducible refine And.intro ?_ ?_); (focus ((repeat' (first | (with_reducible rfl) | (with_reducible refine And.intro ?_ ?_) | omega | rfl | exact Or.inl rfl | exact Or.inr rfl | (focus ((try simp only [minL, maxL, pickB, getD_int, getD_sl, getD_bool, len_int, len_sl, len_bool, decide_eq_true_eq, decide_eq_false_iff_not, Bool.and_eq_true, Bool.or_eq_true, Bool.and_eq_false_iff, Bool.or_eq_false_iff, Bool.not_eq_true', Bool.not_eq_false', Int.toNat_natCast, Int.ofNat_lt, Int.ofNat_le, not_true_eq_false, not_false_eq_true, or_false, false_or, and_true, true_and, or_true, true_or, and_false, false_and, InK, Path.imp, List.length_replicate, List.length_set, List.length_append, List.length_cons, List.length_nil] at *); omega)) | (refine app_le rfl ?_; omega))); done)); (conv => whnf))
    | ((with_reducible refine And.intro (Side.out ?_) ?_); rotate_left; (conv => whnf))
    | (refine Exists.intro _ (And.intro rfl (And.intro rfl (And.intro ?_ ?_))) <;> (conv => whnf) <;> repeat' (first
    | exact trivial
    | rfl
    | (refine And.intro (fun h => h) (Or.inl ?_))
    | (refine And.intro (fun _ => rfl) (Or.inl ?_))
    | (refine And.intro (fun h => Bool.noConfusion h) (Or.inl ?_))
    | (with_reducible refine And.intro (fun _ => rfl) ?_)
    | ((with_reducible refine And.intro ?_ ?_) <;> conv => whnf)
    | (refine congrArg (Value.int _) ?_)
    | (refine congrArg (SV.arr _) ?_)
    | (refine congrArg Value.bool ?_)
    | (exact fun h => Bool.noConfusion h)))); all_goals (try unfold Side)
      all_goals try (repeat' (first | (with_reducible rfl) | (with_reducible refine And.intro ?_ ?_) | omega | rfl | exact Or.inl rfl | exact Or.inr rfl | (focus ((try simp only [minL, maxL, pickB, getD_int, getD_sl, getD_bool, len_int, len_sl, len_bool, decide_eq_true_eq, decide_eq_false_iff_not, Bool.and_eq_true, Bool.or_eq_true, Bool.and_eq_false_iff, Bool.or_eq_false_iff, Bool.not_eq_true', Bool.not_eq_false', Int.toNat_natCast, Int.ofNat_lt, Int.ofNat_le, not_true_eq_false, not_false_eq_true, or_false, false_or, and_true, true_and, or_true, true_or, and_false, false_and, InK, Path.imp, List.length_replicate, List.length_set, List.length_append, List.length_cons, List.length_nil] at *); omega)) | (refine app_le rfl ?_; omega)))
      simp [pickB]
end Go.Proofs.Ytohfemfgnohhdaa
