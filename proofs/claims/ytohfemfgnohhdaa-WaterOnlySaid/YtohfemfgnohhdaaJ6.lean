/- Joined of: W30 W31 W32 W33 W35 W36 W37 Vc27 W38 W40 W41. No condition. -/
import Derived.Test.YtohfemfgnohhdaaJ5
import Derived.Test.YtohfemfgnohhdaaJ3
import Derived.Test.YtohfemfgnohhdaaJ2

/- A valid river made of any numbers. No condition. -/
namespace Go.Proofs.Ytohfemfgnohhdaa
open Go Go.Vc
set_option linter.unusedVariables false
set_option linter.unusedSimpArgs false

def foldI (v n : Int) : Int := (v.tmod n + n).tmod n
theorem foldI_range {v n : Int} (hn : 0 < n) : 0 ≤ foldI v n ∧ foldI v n < n := by
  have h1 := Int.lt_tmod_of_pos v hn
  have h2 := Int.tmod_lt_of_pos v hn
  have h3 : 0 ≤ v.tmod n + n := by omega
  exact ⟨Int.tmod_nonneg n h3, Int.tmod_lt_of_pos _ hn⟩
theorem foldI_id {v n : Int} (h0 : 0 ≤ v) (hn : v < n) : foldI v n = v := by
  unfold foldI
  rw [Int.tmod_eq_of_lt h0 hn, Int.tmod_eq_emod_of_nonneg (by omega), Int.add_emod_right, Int.emod_eq_of_lt h0 hn]
theorem fold_at (v n : Int) (hn : 0 < n) (hn2 : n ≤ 1000000) : FnAt Try.prog false 25 [.lit (.int .i64 v), .lit (.int .i64 n)] (.lit (.int .i64 (foldI v n))) [] := by
  have h1 := Int.lt_tmod_of_pos v hn
  have h2 := Int.tmod_lt_of_pos v hn
  refine FnAt.of_body tys_ok Try.func25 (by rfl) rfl Try.ntmps25 (by rw [Try.results25]) (by simp) ?_
  
  repeat' (first
 | refine W.seq ?_
 | refine W.block ?_
 | (refine W.region tys_ok [] ?_; conv => whnf)
 | (refine W.drawAll tys_ok [] mixed rfl ?_; conv => whnf)
 | (refine W.ret ?_; conv => whnf)
 | (refine W.skip ?_; conv => whnf)
 | (refine W.exit ?_; conv => whnf)

    | (refine W.cond rfl (fun hb => ?_) (fun hb => ?_) <;> (try simp only [minL, maxL, pickB, getD_int, getD_sl, getD_bool, len_int, len_sl, len_bool, decide_eq_true_eq, decide_eq_false_iff_not, Bool.and_eq_true, Bool.or_eq_true, Bool.and_eq_false_iff, Bool.or_eq_false_iff, Bool.not_eq_true', Bool.not_eq_false', Bool.true_eq_false, Bool.false_eq_true, Int.toNat_natCast, Int.ofNat_lt, Int.ofNat_le, not_true_eq_false, not_false_eq_true, or_false, false_or, and_true, true_and, or_true, true_or, and_false, false_and] at hb) <;> (try (first | (cases hb; done) | exact absurd hb (by decide) | (exfalso; omega))))
    | ((with_reducible refine And.intro ?_ ?_); (focus ((repeat' (first | (with_reducible rfl) | (with_reducible refine And.intro ?_ ?_) | omega | rfl | exact Or.inl rfl | exact Or.inr rfl | (focus ((try simp only [minL, maxL, pickB, getD_int, getD_sl, getD_bool, len_int, len_sl, len_bool, decide_eq_true_eq, decide_eq_false_iff_not, Bool.and_eq_true, Bool.or_eq_true, Bool.and_eq_false_iff, Bool.or_eq_false_iff, Bool.not_eq_true', Bool.not_eq_false', Bool.true_eq_false, Bool.false_eq_true, Int.toNat_natCast, Int.ofNat_lt, Int.ofNat_le, not_true_eq_false, not_false_eq_true, or_false, false_or, and_true, true_and, or_true, true_or, and_false, false_and, InK, Path.imp, List.length_replicate, List.length_set, List.length_append, List.length_cons, List.length_nil] at *); omega)) | (refine app_le rfl ?_; omega))); done)); (conv => whnf))
    | ((with_reducible refine And.intro (Side.out ?_) ?_); rotate_left; (conv => whnf))
    | (refine retF1 ?_ <;> (conv => whnf) <;> repeat' (first
 | exact trivial
 | (with_reducible rfl)
 | ((with_reducible refine And.intro ?_ ?_) <;> conv => whnf)
 | omega
 | rfl
 | (refine congrArg (SV.arr _) ?_)
 | (refine congrArg (Value.int _) ?_)
 | (refine congrArg Value.bool ?_)))
 | (refine retF2 ?_ <;> (conv => whnf) <;> repeat' (first
 | exact trivial
 | (with_reducible rfl)
 | ((with_reducible refine And.intro ?_ ?_) <;> conv => whnf)
 | omega
 | rfl
 | (refine congrArg (SV.arr _) ?_)
 | (refine congrArg (Value.int _) ?_)
 | (refine congrArg Value.bool ?_)))); all_goals (try unfold Side)
  all_goals try (repeat' (first | (with_reducible rfl) | (with_reducible refine And.intro ?_ ?_) | omega | rfl | exact Or.inl rfl | exact Or.inr rfl | (focus ((try simp only [minL, maxL, pickB, getD_int, getD_sl, getD_bool, len_int, len_sl, len_bool, decide_eq_true_eq, decide_eq_false_iff_not, Bool.and_eq_true, Bool.or_eq_true, Bool.and_eq_false_iff, Bool.or_eq_false_iff, Bool.not_eq_true', Bool.not_eq_false', Bool.true_eq_false, Bool.false_eq_true, Int.toNat_natCast, Int.ofNat_lt, Int.ofNat_le, not_true_eq_false, not_false_eq_true, or_false, false_or, and_true, true_and, or_true, true_or, and_false, false_and, InK, Path.imp, List.length_replicate, List.length_set, List.length_append, List.length_cons, List.length_nil] at *); omega)) | (refine app_le rfl ?_; omega)))

/-- The least so far. -/
def runMin (last : Int) : List Int → List Int
  | [] => []
  | x :: r => min last (foldI x 1001) :: runMin (min last (foldI x 1001)) r
def lastMin (last : Int) : List Int → Int
  | [] => last
  | x :: r => lastMin (min last (foldI x 1001)) r
theorem runMin_len : ∀ {l : List Int} {a : Int}, (runMin a l).length = l.length
  | [], _ => rfl
  | x :: r, a => by simp [runMin, runMin_len (l := r)]
theorem runMin_snoc {x : Int} : ∀ {l : List Int} {a : Int}, runMin a (l ++ [x]) = runMin a l ++ [min (lastMin a l) (foldI x 1001)]
  | [], a => rfl
  | y :: r, a => by simp only [List.cons_append, runMin, lastMin, runMin_snoc (l := r)]
theorem lastMin_snoc {x : Int} : ∀ {l : List Int} {a : Int}, lastMin a (l ++ [x]) = min (lastMin a l) (foldI x 1001)
  | [], a => rfl
  | y :: r, a => by simp only [List.cons_append, lastMin, lastMin_snoc (l := r)]
theorem lastMin_range : ∀ {l : List Int} {a : Int}, 0 ≤ a → a ≤ 1000 → 0 ≤ lastMin a l ∧ lastMin a l ≤ 1000
  | [], a, h0, h1 => ⟨h0, h1⟩
  | x :: r, a, h0, h1 => by
    have := foldI_range (v := x) (n := 1001) (by omega)
    exact lastMin_range (l := r) (by omega) (by omega)
theorem runMin_ok : ∀ {l : List Int} {a : Int}, 0 ≤ a → a ≤ 1000 → (∀ j, j < (runMin a l).length → 0 ≤ (runMin a l).getD j 0 ∧ (runMin a l).getD j 0 ≤ a) ∧ ∀ j, j + 1 < (runMin a l).length → (runMin a l).getD (j + 1) 0 ≤ (runMin a l).getD j 0
  | [], a, _, _ => ⟨fun j hj => by simp [runMin] at hj, fun j hj => by simp [runMin] at hj⟩
  | x :: r, a, h0, h1 => by
    have hf := foldI_range (v := x) (n := 1001) (by omega)
    obtain ⟨h2, h3⟩ := runMin_ok (l := r) (a := min a (foldI x 1001)) (by omega) (by omega)
    refine ⟨fun j hj => ?_, fun j hj => ?_⟩
    · cases j with
      | zero => simp only [runMin, List.getD_cons_zero]; omega
      | succ j =>
        simp only [runMin, List.length_cons] at hj
        have := h2 j (by omega)
        simp only [runMin, List.getD_cons_succ]; omega
    · simp only [runMin, List.length_cons] at hj
      cases j with
      | zero =>
        have := h2 0 (by omega)
        simp only [runMin, List.getD_cons_succ, List.getD_cons_zero]; omega
      | succ j =>
        have := h3 j (by omega)
        simp only [runMin, List.getD_cons_succ]; exact this
def madeR (gs : List (List Int)) (i : Nat) : List Int := runMin 1000 ((gs.getD i []).take 20)
def madeG (gs : List (List Int)) (n : Nat) : List (List Int) := (List.range n).map (madeR gs)
def madeV (fl : List Int) (i : Nat) : Int := if i < fl.length then foldI (fl.getD i 0) 31 else 0
def madeF (fl : List Int) (n : Nat) : List Int := (List.range n).map (madeV fl)
theorem madeF_len {fl : List Int} {n : Nat} : (madeF fl n).length = n := by simp [madeF]
theorem madeG_len {gs : List (List Int)} {n : Nat} : (madeG gs n).length = n := by simp [madeG]
theorem madeF_get {fl : List Int} {n i : Nat} (h : i < n) : (madeF fl n).getD i 0 = madeV fl i := by
  rw [madeF, List.getD_eq_getElem?_getD, List.getElem?_map, List.getElem?_range h]; rfl
theorem madeG_get {gs : List (List Int)} {n i : Nat} (h : i < n) : (madeG gs n).getD i [] = madeR gs i := by
  rw [madeG, List.getD_eq_getElem?_getD, List.getElem?_map, List.getElem?_range h]; rfl
theorem madeV_range {fl : List Int} {i : Nat} : 0 ≤ madeV fl i ∧ madeV fl i ≤ 30 := by
  unfold madeV
  split
  · have := foldI_range (v := fl.getD i 0) (n := 31) (by omega); omega
  · omega
theorem made_ok {fl : List Int} {gs : List (List Int)} {n : Nat} (h1 : 1 ≤ n) (h8 : n ≤ 8) : riverOk (madeF fl n) (madeG gs n) = true := by
  have hw : within (madeF fl n) 30 = true := by
    unfold within
    rw [Bool.not_eq_true', List.any_eq_false]
    intro x hx
    obtain ⟨i, _, rfl⟩ := List.mem_map.1 hx
    have := madeV_range (fl := fl) (i := i)
    simp only [Bool.or_eq_true, decide_eq_true_eq]
    omega
  have hg : (madeG gs n).all gOk = true := by
    refine List.all_eq_true.2 fun l hl => ?_
    obtain ⟨i, _, rfl⟩ := List.mem_map.1 hl
    obtain ⟨h2, h3⟩ := runMin_ok (l := (gs.getD i []).take 20) (a := 1000) (by omega) (by omega)
    simp only [gOk, Bool.and_eq_true, decide_eq_true_eq]
    refine ⟨⟨?_, ?_⟩, ?_⟩
    · rw [madeR, runMin_len, List.length_take]; omega
    · unfold within
      rw [Bool.not_eq_true', List.any_eq_false]
      intro x hx
      obtain ⟨j, hj, rfl⟩ := List.getElem_of_mem hx
      have := h2 j hj
      have e : (madeR gs i)[j] = (runMin 1000 ((gs.getD i []).take 20)).getD j 0 := by
        show (madeR gs i)[j] = (madeR gs i).getD j 0
        rw [List.getD_eq_getElem?_getD, List.getElem?_eq_getElem hj]; rfl
      simp only [Bool.or_eq_true, decide_eq_true_eq]
      omega
    · exact desc_iff.2 h3
  simp only [riverOk, madeF_len, madeG_len, hw, hg, Bool.and_true, decide_true, Bool.and_eq_true, decide_eq_true_eq]
  exact ⟨h1, h8⟩
set_option maxHeartbeats 2000000 in
theorem made_at (fl : List Int) (gs : List (List Int)) (most : Nat) (h1 : 1 ≤ most) (h8 : most ≤ 8) :
    FnAt Try.prog false 33 [.agg [.arr (.int .i64) fl, .arr (.sl (.int .i64)) gs], .lit (.int .i64 most)] (.tup [.own 0, .own 1]) [(0, .row 3 (.int .i64) true (madeF fl (max 1 (min fl.length most)))), (1, .row 22 (.sl (.int .i64)) true (madeG gs (max 1 (min fl.length most))))] := by
  obtain ⟨n, hn⟩ : ∃ n : Nat, n = max 1 (min fl.length most) := ⟨_, rfl⟩
  have hn8 : n ≤ 8 := by omega
  rw [← hn]
  refine FnAt.of_body tys_ok Try.func33 (by rfl) rfl Try.ntmps33 (by rw [Try.results33]) (by simp) ?_
  
  repeat' (first
 | refine W.seq ?_
 | refine W.block ?_
 | (refine W.region tys_ok [] ?_; conv => whnf)
 | (refine W.drawAll tys_ok [] mixed rfl ?_; conv => whnf)
 | (refine W.ret ?_; conv => whnf)
 | (refine W.skip ?_; conv => whnf)
 | (refine W.exit ?_; conv => whnf)

    | (refine W.cond rfl (fun hb => ?_) (fun hb => ?_) <;> (try simp only [minL, maxL, pickB, getD_int, getD_sl, getD_bool, len_int, len_sl, len_bool, decide_eq_true_eq, decide_eq_false_iff_not, Bool.and_eq_true, Bool.or_eq_true, Bool.and_eq_false_iff, Bool.or_eq_false_iff, Bool.not_eq_true', Bool.not_eq_false', Bool.true_eq_false, Bool.false_eq_true, Int.toNat_natCast, Int.ofNat_lt, Int.ofNat_le, not_true_eq_false, not_false_eq_true, or_false, false_or, and_true, true_and, or_true, true_or, and_false, false_and] at hb) <;> (try (first | (cases hb; done) | exact absurd hb (by decide) | (exfalso; omega))))
    | ((with_reducible refine And.intro ?_ ?_); (focus ((repeat' (first | (with_reducible rfl) | (with_reducible refine And.intro ?_ ?_) | omega | rfl | exact Or.inl rfl | exact Or.inr rfl | (focus ((try simp only [minL, maxL, pickB, getD_int, getD_sl, getD_bool, len_int, len_sl, len_bool, decide_eq_true_eq, decide_eq_false_iff_not, Bool.and_eq_true, Bool.or_eq_true, Bool.and_eq_false_iff, Bool.or_eq_false_iff, Bool.not_eq_true', Bool.not_eq_false', Bool.true_eq_false, Bool.false_eq_true, Int.toNat_natCast, Int.ofNat_lt, Int.ofNat_le, not_true_eq_false, not_false_eq_true, or_false, false_or, and_true, true_and, or_true, true_or, and_false, false_and, InK, Path.imp, List.length_replicate, List.length_set, List.length_append, List.length_cons, List.length_nil] at *); omega)) | (refine app_le rfl ?_; omega))); done)); (conv => whnf))
    | ((with_reducible refine And.intro (Side.out ?_) ?_); rotate_left; (conv => whnf))
    | (refine retF1 ?_ <;> (conv => whnf) <;> repeat' (first
 | exact trivial
 | (with_reducible rfl)
 | ((with_reducible refine And.intro ?_ ?_) <;> conv => whnf)
 | omega
 | rfl
 | (refine congrArg (SV.arr _) ?_)
 | (refine congrArg (Value.int _) ?_)
 | (refine congrArg Value.bool ?_)))
 | (refine retF2 ?_ <;> (conv => whnf) <;> repeat' (first
 | exact trivial
 | (with_reducible rfl)
 | ((with_reducible refine And.intro ?_ ?_) <;> conv => whnf)
 | omega
 | rfl
 | (refine congrArg (SV.arr _) ?_)
 | (refine congrArg (Value.int _) ?_)
 | (refine congrArg Value.bool ?_)))); all_goals (try unfold Side)
  all_goals try (repeat' (first | (with_reducible rfl) | (with_reducible refine And.intro ?_ ?_) | omega | rfl | exact Or.inl rfl | exact Or.inr rfl | (focus ((try simp only [minL, maxL, pickB, getD_int, getD_sl, getD_bool, len_int, len_sl, len_bool, decide_eq_true_eq, decide_eq_false_iff_not, Bool.and_eq_true, Bool.or_eq_true, Bool.and_eq_false_iff, Bool.or_eq_false_iff, Bool.not_eq_true', Bool.not_eq_false', Bool.true_eq_false, Bool.false_eq_true, Int.toNat_natCast, Int.ofNat_lt, Int.ofNat_le, not_true_eq_false, not_false_eq_true, or_false, false_or, and_true, true_and, or_true, true_or, and_false, false_and, InK, Path.imp, List.length_replicate, List.length_set, List.length_append, List.length_cons, List.length_nil] at *); omega)) | (refine app_le rfl ?_; omega)))
  refine W.loop (fun i : Nat => ⟨[(2, .padr 3000 0), (6, .lit (.int .i64 n)), (7, .own 79000), (8, .own 83000), (9, .lit (.int .i64 i))],
      [(3000, .box [.st false (.arr (.int .i64) fl), .st false (.arr (.sl (.int .i64)) gs)]), (79000, .row 3 (.int .i64) true (madeF fl i)), (83000, .row 22 (.sl (.int .i64)) true (madeG gs i))]⟩)
    (fun i => i ≤ n) (fun i => n - i) 0 ?_ ?_
  · refine ⟨Nat.zero_le _, ?_⟩
    refine subF.ok ?_ <;> (conv => whnf) <;> repeat' (first
 | exact trivial
 | (with_reducible rfl)
 | ((with_reducible refine And.intro ?_ ?_) <;> conv => whnf)
 | omega
 | rfl
 | (refine congrArg (SV.arr _) ?_)
 | (refine congrArg (Value.int _) ?_)
 | (refine congrArg Value.bool ?_))
    show max (1 : Int) (min (fl.length : Int) (most : Int)) = (n : Int)
    omega
  · intro i hi
    have hfl' : @List.length (Ty.int .i64).T (madeF fl i) = i := madeF_len
    have hgl' : @List.length (Ty.sl (.int .i64)).T (madeG gs i) = i := madeG_len
    have hfs : madeF fl (i + 1) = madeF fl i ++ [madeV fl i] := by simp [madeF, List.range_succ]
    have hgs : madeG gs (i + 1) = madeG gs i ++ [madeR gs i] := by simp [madeG, List.range_succ]
    by_cases hin : i < n
    · have hf := fold_at (fl.getD i 0) 31 (by omega) (by omega)
      obtain ⟨r, hr⟩ : ∃ r, r = (gs.getD i []).take 20 := ⟨_, rfl⟩
      have hrm : madeR gs i = runMin 1000 r := by rw [hr]; rfl
      have hrl : r.length = min 20 (gs.getD i []).length := by rw [hr, List.length_take]
      have hro : ¬ i < gs.length → (gs.getD i []).length = 0 := fun h => by rw [List.getD_eq_getElem?_getD, List.getElem?_eq_none (by omega)]; rfl
      repeat' (first
 | refine W.seq ?_
 | refine W.block ?_
 | (refine W.region tys_ok [] ?_; conv => whnf)
 | (refine W.drawAll tys_ok [] mixed rfl ?_; conv => whnf)
 | (refine W.ret ?_; conv => whnf)
 | (refine W.skip ?_; conv => whnf)
 | (refine W.exit ?_; conv => whnf)
 | (refine call_at (al := false) (hf) rfl rfl rfl rfl ?_; conv => whnf)

    | (refine W.cond rfl (fun hb => ?_) (fun hb => ?_) <;> (try simp only [minL, maxL, pickB, getD_int, getD_sl, getD_bool, len_int, len_sl, len_bool, decide_eq_true_eq, decide_eq_false_iff_not, Bool.and_eq_true, Bool.or_eq_true, Bool.and_eq_false_iff, Bool.or_eq_false_iff, Bool.not_eq_true', Bool.not_eq_false', Bool.true_eq_false, Bool.false_eq_true, Int.toNat_natCast, Int.ofNat_lt, Int.ofNat_le, not_true_eq_false, not_false_eq_true, or_false, false_or, and_true, true_and, or_true, true_or, and_false, false_and] at hb) <;> (try (first | (cases hb; done) | exact absurd hb (by decide) | (exfalso; omega))))
    | ((with_reducible refine And.intro ?_ ?_); (focus ((repeat' (first | (with_reducible rfl) | (with_reducible refine And.intro ?_ ?_) | omega | rfl | exact Or.inl rfl | exact Or.inr rfl | (focus ((try simp only [minL, maxL, pickB, getD_int, getD_sl, getD_bool, len_int, len_sl, len_bool, decide_eq_true_eq, decide_eq_false_iff_not, Bool.and_eq_true, Bool.or_eq_true, Bool.and_eq_false_iff, Bool.or_eq_false_iff, Bool.not_eq_true', Bool.not_eq_false', Bool.true_eq_false, Bool.false_eq_true, Int.toNat_natCast, Int.ofNat_lt, Int.ofNat_le, not_true_eq_false, not_false_eq_true, or_false, false_or, and_true, true_and, or_true, true_or, and_false, false_and, InK, Path.imp, List.length_replicate, List.length_set, List.length_append, List.length_cons, List.length_nil] at *); omega)) | (refine app_le rfl ?_; omega))); done)); (conv => whnf))
    | ((with_reducible refine And.intro (Side.out ?_) ?_); rotate_left; (conv => whnf))
    | (refine retF1 ?_ <;> (conv => whnf) <;> repeat' (first
 | exact trivial
 | (with_reducible rfl)
 | ((with_reducible refine And.intro ?_ ?_) <;> conv => whnf)
 | omega
 | rfl
 | (refine congrArg (SV.arr _) ?_)
 | (refine congrArg (Value.int _) ?_)
 | (refine congrArg Value.bool ?_)))
 | (refine retF2 ?_ <;> (conv => whnf) <;> repeat' (first
 | exact trivial
 | (with_reducible rfl)
 | ((with_reducible refine And.intro ?_ ?_) <;> conv => whnf)
 | omega
 | rfl
 | (refine congrArg (SV.arr _) ?_)
 | (refine congrArg (Value.int _) ?_)
 | (refine congrArg Value.bool ?_)))); all_goals (try unfold Side)
      all_goals try (repeat' (first | (with_reducible rfl) | (with_reducible refine And.intro ?_ ?_) | omega | rfl | exact Or.inl rfl | exact Or.inr rfl | (focus ((try simp only [minL, maxL, pickB, getD_int, getD_sl, getD_bool, len_int, len_sl, len_bool, decide_eq_true_eq, decide_eq_false_iff_not, Bool.and_eq_true, Bool.or_eq_true, Bool.and_eq_false_iff, Bool.or_eq_false_iff, Bool.not_eq_true', Bool.not_eq_false', Bool.true_eq_false, Bool.false_eq_true, Int.toNat_natCast, Int.ofNat_lt, Int.ofNat_le, not_true_eq_false, not_false_eq_true, or_false, false_or, and_true, true_and, or_true, true_or, and_false, false_and, InK, Path.imp, List.length_replicate, List.length_set, List.length_append, List.length_cons, List.length_nil] at *); omega)) | (refine app_le rfl ?_; omega)))
      iterate 2
        · rename_i hb
          refine W.loop (fun k : Nat => ⟨[(2, .padr 3000 0), (6, .lit (.int .i64 n)), (7, .own 79000), (8, .own 83000), (9, .lit (.int .i64 i)), (10, .lit (.int .i64 (madeV fl i))), (11, .own 75000), (12, .lit (.int .i64 (lastMin 1000 (r.take k)))), (13, .lit (.int .i64 k))],
              [(3000, .box [.st false (.arr (.int .i64) fl), .st false (.arr (.sl (.int .i64)) gs)]), (79000, .row 3 (.int .i64) true (madeF fl i)), (83000, .row 22 (.sl (.int .i64)) true (madeG gs i)), (75000, .row 3 (.int .i64) true (runMin 1000 (r.take k)))]⟩)
            (fun k => k ≤ r.length) (fun k => r.length - k) 0 ?_ ?_
          · refine ⟨Nat.zero_le _, ?_⟩
            refine subF.ok ?_ <;> (conv => whnf) <;> repeat' (first
 | exact trivial
 | (with_reducible rfl)
 | ((with_reducible refine And.intro ?_ ?_) <;> conv => whnf)
 | omega
 | rfl
 | (refine congrArg (SV.arr _) ?_)
 | (refine congrArg (Value.int _) ?_)
 | (refine congrArg Value.bool ?_))
            simp only [madeV, hb, if_true, if_false]
          · intro k hk
            have hml : @List.length (Ty.int .i64).T (runMin 1000 (r.take k)) = k := by
              show (runMin 1000 (r.take k)).length = k
              rw [runMin_len, List.length_take]; omega
            have hlm := lastMin_range (l := r.take k) (a := 1000) (by omega) (by omega)
            by_cases hkr : k < r.length
            · have hig : i < gs.length := by
                by_cases h : i < gs.length
                · exact h
                · have := hro h; omega
              have hkg : k < (gs.getD i []).length := by omega
              have hf2 := fold_at ((gs.getD i []).getD k 0) 1001 (by omega) (by omega)
              have hrk : r.getD k 0 = (gs.getD i []).getD k 0 := by rw [hr, getD_take (by omega)]
              have hts : r.take (k + 1) = r.take k ++ [(gs.getD i []).getD k 0] := by rw [take_getD (d := 0) hkr, hrk]
              repeat' (first
 | refine W.seq ?_
 | refine W.block ?_
 | (refine W.region tys_ok [] ?_; conv => whnf)
 | (refine W.drawAll tys_ok [] mixed rfl ?_; conv => whnf)
 | (refine W.ret ?_; conv => whnf)
 | (refine W.skip ?_; conv => whnf)
 | (refine W.exit ?_; conv => whnf)
 | (refine call_at (al := false) (hf2) rfl rfl rfl rfl ?_; conv => whnf)

    | (refine W.cond rfl (fun hb => ?_) (fun hb => ?_) <;> (try simp only [minL, maxL, pickB, getD_int, getD_sl, getD_bool, len_int, len_sl, len_bool, decide_eq_true_eq, decide_eq_false_iff_not, Bool.and_eq_true, Bool.or_eq_true, Bool.and_eq_false_iff, Bool.or_eq_false_iff, Bool.not_eq_true', Bool.not_eq_false', Bool.true_eq_false, Bool.false_eq_true, Int.toNat_natCast, Int.ofNat_lt, Int.ofNat_le, not_true_eq_false, not_false_eq_true, or_false, false_or, and_true, true_and, or_true, true_or, and_false, false_and] at hb) <;> (try (first | (cases hb; done) | exact absurd hb (by decide) | (exfalso; omega))))
    | ((with_reducible refine And.intro ?_ ?_); (focus ((repeat' (first | (with_reducible rfl) | (with_reducible refine And.intro ?_ ?_) | omega | rfl | exact Or.inl rfl | exact Or.inr rfl | (focus ((try simp only [minL, maxL, pickB, getD_int, getD_sl, getD_bool, len_int, len_sl, len_bool, decide_eq_true_eq, decide_eq_false_iff_not, Bool.and_eq_true, Bool.or_eq_true, Bool.and_eq_false_iff, Bool.or_eq_false_iff, Bool.not_eq_true', Bool.not_eq_false', Bool.true_eq_false, Bool.false_eq_true, Int.toNat_natCast, Int.ofNat_lt, Int.ofNat_le, not_true_eq_false, not_false_eq_true, or_false, false_or, and_true, true_and, or_true, true_or, and_false, false_and, InK, Path.imp, List.length_replicate, List.length_set, List.length_append, List.length_cons, List.length_nil] at *); omega)) | (refine app_le rfl ?_; omega))); done)); (conv => whnf))
    | ((with_reducible refine And.intro (Side.out ?_) ?_); rotate_left; (conv => whnf))
    | (refine retF1 ?_ <;> (conv => whnf) <;> repeat' (first
 | exact trivial
 | (with_reducible rfl)
 | ((with_reducible refine And.intro ?_ ?_) <;> conv => whnf)
 | omega
 | rfl
 | (refine congrArg (SV.arr _) ?_)
 | (refine congrArg (Value.int _) ?_)
 | (refine congrArg Value.bool ?_)))
 | (refine retF2 ?_ <;> (conv => whnf) <;> repeat' (first
 | exact trivial
 | (with_reducible rfl)
 | ((with_reducible refine And.intro ?_ ?_) <;> conv => whnf)
 | omega
 | rfl
 | (refine congrArg (SV.arr _) ?_)
 | (refine congrArg (Value.int _) ?_)
 | (refine congrArg Value.bool ?_)))); all_goals (try unfold Side)
              all_goals try (repeat' (first | (with_reducible rfl) | (with_reducible refine And.intro ?_ ?_) | omega | rfl | exact Or.inl rfl | exact Or.inr rfl | (focus ((try simp only [minL, maxL, pickB, getD_int, getD_sl, getD_bool, len_int, len_sl, len_bool, decide_eq_true_eq, decide_eq_false_iff_not, Bool.and_eq_true, Bool.or_eq_true, Bool.and_eq_false_iff, Bool.or_eq_false_iff, Bool.not_eq_true', Bool.not_eq_false', Bool.true_eq_false, Bool.false_eq_true, Int.toNat_natCast, Int.ofNat_lt, Int.ofNat_le, not_true_eq_false, not_false_eq_true, or_false, false_or, and_true, true_and, or_true, true_or, and_false, false_and, InK, Path.imp, List.length_replicate, List.length_set, List.length_append, List.length_cons, List.length_nil] at *); omega)) | (refine app_le rfl ?_; omega)))
              refine ⟨k + 1, ⟨by omega, by omega⟩, ?_⟩
              rw [hts, lastMin_snoc, runMin_snoc]
              refine subF.ok ?_ <;> (conv => whnf) <;> repeat' (first
 | exact trivial
 | (with_reducible rfl)
 | ((with_reducible refine And.intro ?_ ?_) <;> conv => whnf)
 | omega
 | rfl
 | (refine congrArg (SV.arr _) ?_)
 | (refine congrArg (Value.int _) ?_)
 | (refine congrArg Value.bool ?_))
            · have hke : k = r.length := by omega
              subst hke
              rw [List.take_length]
              repeat' (first
 | refine W.seq ?_
 | refine W.block ?_
 | (refine W.resub (x := Code.region 15 _ _) (Γ' := ⟨[(2, .padr 3000 0), (6, .lit (.int .i64 n)), (7, .own 79000), (8, .own 83000), (9, .lit (.int .i64 i)), (10, .lit (.int .i64 (madeV fl i))), (11, .st true (.arr (.int .i64) (madeR gs i)))], [(3000, .box [.st false (.arr (.int .i64) fl), .st false (.arr (.sl (.int .i64)) gs)]), (79000, .row 3 (.int .i64) true (madeF fl i)), (83000, .row 22 (.sl (.int .i64)) true (madeG gs i))]⟩) ?_ (W.region tys_ok [] ?_); rotate_left; (conv => whnf))
 | (refine W.region tys_ok [] ?_; conv => whnf)
 | (refine W.drawAll tys_ok [] mixed rfl ?_; conv => whnf)
 | (refine W.ret ?_; conv => whnf)
 | (refine W.skip ?_; conv => whnf)
 | (refine W.exit ?_; conv => whnf)

    | (refine W.cond rfl (fun hb => ?_) (fun hb => ?_) <;> (try simp only [minL, maxL, pickB, getD_int, getD_sl, getD_bool, len_int, len_sl, len_bool, decide_eq_true_eq, decide_eq_false_iff_not, Bool.and_eq_true, Bool.or_eq_true, Bool.and_eq_false_iff, Bool.or_eq_false_iff, Bool.not_eq_true', Bool.not_eq_false', Bool.true_eq_false, Bool.false_eq_true, Int.toNat_natCast, Int.ofNat_lt, Int.ofNat_le, not_true_eq_false, not_false_eq_true, or_false, false_or, and_true, true_and, or_true, true_or, and_false, false_and] at hb) <;> (try (first | (cases hb; done) | exact absurd hb (by decide) | (exfalso; omega))))
    | ((with_reducible refine And.intro ?_ ?_); (focus ((repeat' (first | (with_reducible rfl) | (with_reducible refine And.intro ?_ ?_) | omega | rfl | exact Or.inl rfl | exact Or.inr rfl | (focus ((try simp only [minL, maxL, pickB, getD_int, getD_sl, getD_bool, len_int, len_sl, len_bool, decide_eq_true_eq, decide_eq_false_iff_not, Bool.and_eq_true, Bool.or_eq_true, Bool.and_eq_false_iff, Bool.or_eq_false_iff, Bool.not_eq_true', Bool.not_eq_false', Bool.true_eq_false, Bool.false_eq_true, Int.toNat_natCast, Int.ofNat_lt, Int.ofNat_le, not_true_eq_false, not_false_eq_true, or_false, false_or, and_true, true_and, or_true, true_or, and_false, false_and, InK, Path.imp, List.length_replicate, List.length_set, List.length_append, List.length_cons, List.length_nil] at *); omega)) | (refine app_le rfl ?_; omega))); done)); (conv => whnf))
    | ((with_reducible refine And.intro (Side.out ?_) ?_); rotate_left; (conv => whnf))
    | (refine retF1 ?_ <;> (conv => whnf) <;> repeat' (first
 | exact trivial
 | (with_reducible rfl)
 | ((with_reducible refine And.intro ?_ ?_) <;> conv => whnf)
 | omega
 | rfl
 | (refine congrArg (SV.arr _) ?_)
 | (refine congrArg (Value.int _) ?_)
 | (refine congrArg Value.bool ?_)))
 | (refine retF2 ?_ <;> (conv => whnf) <;> repeat' (first
 | exact trivial
 | (with_reducible rfl)
 | ((with_reducible refine And.intro ?_ ?_) <;> conv => whnf)
 | omega
 | rfl
 | (refine congrArg (SV.arr _) ?_)
 | (refine congrArg (Value.int _) ?_)
 | (refine congrArg Value.bool ?_)))); all_goals (try unfold Side)
              all_goals try (repeat' (first | (with_reducible rfl) | (with_reducible refine And.intro ?_ ?_) | omega | rfl | exact Or.inl rfl | exact Or.inr rfl | (focus ((try simp only [minL, maxL, pickB, getD_int, getD_sl, getD_bool, len_int, len_sl, len_bool, decide_eq_true_eq, decide_eq_false_iff_not, Bool.and_eq_true, Bool.or_eq_true, Bool.and_eq_false_iff, Bool.or_eq_false_iff, Bool.not_eq_true', Bool.not_eq_false', Bool.true_eq_false, Bool.false_eq_true, Int.toNat_natCast, Int.ofNat_lt, Int.ofNat_le, not_true_eq_false, not_false_eq_true, or_false, false_or, and_true, true_and, or_true, true_or, and_false, false_and, InK, Path.imp, List.length_replicate, List.length_set, List.length_append, List.length_cons, List.length_nil] at *); omega)) | (refine app_le rfl ?_; omega)))
              · refine ⟨i + 1, ⟨by omega, by omega⟩, ?_⟩
                rw [hfs, hgs]
                refine subF.ok ?_ <;> (conv => whnf) <;> repeat' (first
 | exact trivial
 | (with_reducible rfl)
 | ((with_reducible refine And.intro ?_ ?_) <;> conv => whnf)
 | omega
 | rfl
 | (refine congrArg (SV.arr _) ?_)
 | (refine congrArg (Value.int _) ?_)
 | (refine congrArg Value.bool ?_))
              · refine subF.ok ?_ <;> (conv => whnf) <;> repeat' (first
 | exact trivial
 | (with_reducible rfl)
 | ((with_reducible refine And.intro ?_ ?_) <;> conv => whnf)
 | omega
 | rfl
 | (refine congrArg (SV.arr _) ?_)
 | (refine congrArg (Value.int _) ?_)
 | (refine congrArg Value.bool ?_))
                exact hrm.symm
    · have hie : i = n := by omega
      subst hie
      repeat' (first
 | refine W.seq ?_
 | refine W.block ?_
 | (refine W.region tys_ok [] ?_; conv => whnf)
 | (refine W.drawAll tys_ok [] mixed rfl ?_; conv => whnf)
 | (refine W.ret ?_; conv => whnf)
 | (refine W.skip ?_; conv => whnf)
 | (refine W.exit ?_; conv => whnf)

    | (refine W.cond rfl (fun hb => ?_) (fun hb => ?_) <;> (try simp only [minL, maxL, pickB, getD_int, getD_sl, getD_bool, len_int, len_sl, len_bool, decide_eq_true_eq, decide_eq_false_iff_not, Bool.and_eq_true, Bool.or_eq_true, Bool.and_eq_false_iff, Bool.or_eq_false_iff, Bool.not_eq_true', Bool.not_eq_false', Bool.true_eq_false, Bool.false_eq_true, Int.toNat_natCast, Int.ofNat_lt, Int.ofNat_le, not_true_eq_false, not_false_eq_true, or_false, false_or, and_true, true_and, or_true, true_or, and_false, false_and] at hb) <;> (try (first | (cases hb; done) | exact absurd hb (by decide) | (exfalso; omega))))
    | ((with_reducible refine And.intro ?_ ?_); (focus ((repeat' (first | (with_reducible rfl) | (with_reducible refine And.intro ?_ ?_) | omega | rfl | exact Or.inl rfl | exact Or.inr rfl | (focus ((try simp only [minL, maxL, pickB, getD_int, getD_sl, getD_bool, len_int, len_sl, len_bool, decide_eq_true_eq, decide_eq_false_iff_not, Bool.and_eq_true, Bool.or_eq_true, Bool.and_eq_false_iff, Bool.or_eq_false_iff, Bool.not_eq_true', Bool.not_eq_false', Bool.true_eq_false, Bool.false_eq_true, Int.toNat_natCast, Int.ofNat_lt, Int.ofNat_le, not_true_eq_false, not_false_eq_true, or_false, false_or, and_true, true_and, or_true, true_or, and_false, false_and, InK, Path.imp, List.length_replicate, List.length_set, List.length_append, List.length_cons, List.length_nil] at *); omega)) | (refine app_le rfl ?_; omega))); done)); (conv => whnf))
    | ((with_reducible refine And.intro (Side.out ?_) ?_); rotate_left; (conv => whnf))
    | (refine retF1 ?_ <;> (conv => whnf) <;> repeat' (first
 | exact trivial
 | (with_reducible rfl)
 | ((with_reducible refine And.intro ?_ ?_) <;> conv => whnf)
 | omega
 | rfl
 | (refine congrArg (SV.arr _) ?_)
 | (refine congrArg (Value.int _) ?_)
 | (refine congrArg Value.bool ?_)))
 | (refine retF2 ?_ <;> (conv => whnf) <;> repeat' (first
 | exact trivial
 | (with_reducible rfl)
 | ((with_reducible refine And.intro ?_ ?_) <;> conv => whnf)
 | omega
 | rfl
 | (refine congrArg (SV.arr _) ?_)
 | (refine congrArg (Value.int _) ?_)
 | (refine congrArg Value.bool ?_)))); all_goals (try unfold Side)
      all_goals try (repeat' (first | (with_reducible rfl) | (with_reducible refine And.intro ?_ ?_) | omega | rfl | exact Or.inl rfl | exact Or.inr rfl | (focus ((try simp only [minL, maxL, pickB, getD_int, getD_sl, getD_bool, len_int, len_sl, len_bool, decide_eq_true_eq, decide_eq_false_iff_not, Bool.and_eq_true, Bool.or_eq_true, Bool.and_eq_false_iff, Bool.or_eq_false_iff, Bool.not_eq_true', Bool.not_eq_false', Bool.true_eq_false, Bool.false_eq_true, Int.toNat_natCast, Int.ofNat_lt, Int.ofNat_le, not_true_eq_false, not_false_eq_true, or_false, false_or, and_true, true_and, or_true, true_or, and_false, false_and, InK, Path.imp, List.length_replicate, List.length_set, List.length_append, List.length_cons, List.length_nil] at *); omega)) | (refine app_le rfl ?_; omega)))
end Go.Proofs.Ytohfemfgnohhdaa
/- WaterBest: the law returns true. No condition. -/
namespace Go.Proofs.Ytohfemfgnohhdaa
open Go Go.Vc
set_option linter.unusedVariables false
set_option linter.unusedSimpArgs false

def clip : List (List Int) → List Int → List Int
  | g :: gs, u :: us => min u g.length :: clip gs us
  | _, us => us
theorem clip_len : ∀ {gs : List (List Int)} {us : List Int}, (clip gs us).length = us.length
  | g :: gs, u :: us => by simp [clip, clip_len (gs := gs) (us := us)]
  | [], us => by simp [clip]
  | _ :: _, [] => by simp [clip]
theorem clip_get : ∀ {gs : List (List Int)} {us : List Int} {i : Nat}, i < gs.length → i < us.length → (clip gs us).getD i 0 = min (us.getD i 0) ((gs.getD i []).length : Int)
  | g :: gs, u :: us, 0, _, _ => by simp [clip]
  | g :: gs, u :: us, i + 1, h, h' => by simpa [clip] using clip_get (gs := gs) (us := us) (i := i) (by simpa using h) (by simpa using h')
theorem clip_worth : ∀ {gs : List (List Int)} {us : List Int}, worthL gs (clip gs us) = worthL gs us
  | g :: gs, u :: us => by
    simp only [clip, worthL, clip_worth (gs := gs) (us := us)]
    by_cases h : u ≤ (g.length : Int)
    · rw [show min u (g.length : Int) = u from by omega]
    · rw [show min u (g.length : Int) = g.length from by omega, List.take_of_length_le (by omega : g.length ≤ u.toNat)]
      simp
  | [], us => by simp [clip]
  | _ :: _, [] => by simp [clip]
theorem poss_le : ∀ {fl us vs : List Int} {w v : Int}, w ≤ v → us.length = fl.length → vs.length = fl.length → (∀ i, i < fl.length → vs.getD i 0 ≤ us.getD i 0) → poss w fl us = true → poss v fl vs = true
  | [], [], [], w, v, _, _, _, _, _ => rfl
  | f :: fl, u :: us, x :: vs, w, v, hw, h1, h2, h3, hp => by
    simp only [poss, Bool.and_eq_true, Bool.not_eq_true', decide_eq_false_iff_not] at hp ⊢
    have h0 := h3 0 (by simp)
    simp only [List.getD_cons_zero] at h0
    refine ⟨by omega, poss_le (us := us) (w := w + f - u) (by omega) (by simpa using h1) (by simpa using h2) (fun i hi => ?_) hp.2⟩
    have := h3 (i + 1) (by simpa using hi)
    simpa using this
  | f :: fl, [], _, _, _, _, h, _, _, _ => by simp at h
  | f :: fl, _ :: _, [], _, _, _, _, h, _, _ => by simp at h
  | [], _ :: _, _, _, _, _, h, _, _, _ => by simp at h
  | [], [], _ :: _, _, _, _, _, h, _, _ => by simp at h
/-- No possible use is worth more. -/
theorem riv_upper {fl : List Int} {gs : List (List Int)} (h : Riv fl gs) {vs : List Int} (hl : vs.length = fl.length) (h0 : ∀ i, i < vs.length → 0 ≤ vs.getD i 0) (hp : poss 0 fl vs = true) : worthL gs vs ≤ val fl gs := by
  have hlen := h.len
  have e := fun i (hi : i < vs.length) => clip_get (gs := gs) (us := vs) (i := i) (by omega) hi
  have hb := (best_of h (vs := clip gs vs) (by rw [clip_len]; exact hl) (fun i hi => by
    rw [clip_len] at hi
    have := h0 i hi
    have := h.g.lens i (by omega)
    rw [e i hi]
    omega) (poss_le (Int.le_refl 0) hl (by rw [clip_len]; exact hl) (fun i hi => by
    rw [e i (by omega)]
    omega) hp)).1
  rwa [clip_worth] at hb
theorem badW_good {fl : List Int} {gs : List (List Int)} {us : List Int} (hok : riverOk fl gs = true) (hl : us.length = fl.length) (h0 : ∀ i, i < us.length → 0 ≤ us.getD i 0) (hp : poss 0 fl us = true) : badW fl gs us = 0 := by
  have hn : neg us = false := by
    cases hn : neg us with
    | false => rfl
    | true =>
      obtain ⟨i, h1, h2⟩ := neg_true hn
      have := h0 i h1
      omega
  simp only [badW, hok, hl, hn, hp, cond_true, decide_true, Bool.not_true, Bool.or_false, cond_false]
theorem made_ex (fl : List Int) (gs : List (List Int)) (most : Nat) (h1 : 1 ≤ most) (h8 : most ≤ 8) : ∃ (F : List Int) (G : List (List Int)), FnAt Try.prog false 33 [.agg [.arr (.int .i64) fl, .arr (.sl (.int .i64)) gs], .lit (.int .i64 most)] (.tup [.own 0, .own 1]) [(0, .row 3 (.int .i64) true F), (1, .row 22 (.sl (.int .i64)) true G)] ∧ riverOk F G = true ∧ F.length ≤ most ∧ F.length ≤ 1000 ∧ G.length ≤ 1000 ∧ ∀ i, i < G.length → (G.getD i []).length ≤ 1000 := by
  have hok := made_ok (fl := fl) (gs := gs) (n := max 1 (min fl.length most)) (by omega) (by omega)
  have h := (riverOk.riv hok)
  have h2 := h.g.len
  have h3 := h.len
  rw [madeF_len] at h3
  exact ⟨_, _, made_at fl gs most h1 h8, hok, by rw [madeF_len]; omega, by rw [madeF_len]; omega, by omega, fun i hi => by have := h.g.lens i hi; omega⟩
theorem Best_good {fl : List Int} {gs : List (List Int)} (hok : riverOk fl gs = true) (h1 : fl.length ≤ 1000) (h2 : gs.length ≤ 1000) (h3 : ∀ i, i < gs.length → (gs.getD i []).length ≤ 1000) :
    FnAt Try.prog false 16 [.arr (.int .i64) fl, .arr (.sl (.int .i64)) gs] (.tup [.own 0, .lit (.int .i64 (val fl gs)), .lit (.int .i64 0)]) [(0, .row 3 (.int .i64) true (bestL fl gs))] := by
  have h := Best_ok fl gs h1 h2 h3
  rw [hok] at h
  exact h
theorem pre_snoc {us : List Int} {v : Int} {m : Nat} : pre (us ++ [v]) m = if m < us.length then pre us m else us.sum + v := by
  unfold pre
  split
  · rw [List.take_append_of_le_length (by omega)]
  · rw [List.take_of_length_le (by simp; omega), List.sum_append]
    simp
theorem pre_all {us : List Int} {m : Nat} (h : us.length ≤ m + 1) : pre us m = us.sum := by
  unfold pre
  rw [List.take_of_length_le h]
theorem take_sum_pre {us : List Int} {m : Nat} : (us.take (m + 1)).sum = pre us m := rfl
/-- A use that is being chosen. -/
structure UseJ (F : List Int) (i : Nat) (us : List Int) (left : Int) : Prop where
  len : us.length = i
  eq : left = (F.take i).sum - us.sum
  l0 : 0 ≤ left
  l1 : left ≤ 30 * i
  u0 : ∀ j, j < i → 0 ≤ us.getD j 0
  pre : ∀ m, m < i → Go.Proofs.Ytohfemfgnohhdaa.pre us m ≤ Go.Proofs.Ytohfemfgnohhdaa.pre F m
theorem UseJ.step {F : List Int} {i : Nat} {us : List Int} {left v : Int} (h : UseJ F i us left) (hi : i < F.length) (hf : 0 ≤ F.getD i 0 ∧ F.getD i 0 ≤ 30) (h0 : 0 ≤ v) (hv : v ≤ left + F.getD i 0) : UseJ F (i + 1) (us ++ [v]) (left + F.getD i 0 - v) := by
  have h1 := h.len
  have h2 := h.eq
  have h3 := h.l1
  have hs := sum_take_succ hi
  refine ⟨by simp [h1], by rw [hs, List.sum_append]; simp; omega, by omega, by omega, fun j hj => ?_, fun m hm => ?_⟩
  · by_cases e : j < i
    · rw [List.getD_eq_getElem?_getD, List.getElem?_append_left (by omega), ← List.getD_eq_getElem?_getD]; exact h.u0 j e
    · rw [List.getD_eq_getElem?_getD, List.getElem?_append_right (by omega), show j - us.length = 0 from by omega]; exact h0
  · rw [pre_snoc]
    split
    · exact h.pre m (by omega)
    · have : m = i := by omega
      subst this
      show us.sum + v ≤ (F.take (m + 1)).sum
      omega
theorem UseJ.poss {F us : List Int} {left : Int} (h : UseJ F F.length us left) : poss 0 F us = true :=
  (poss_iff h.len).2 fun m hm => by rw [h.len] at hm; have := h.pre m hm; omega
set_option maxHeartbeats 2000000 in
theorem WaterBest_at (fl : List Int) (gs : List (List Int)) (y : List Int) : FnAt Try.prog false 8 [.agg [.arr (.int .i64) fl, .arr (.sl (.int .i64)) gs], .arr (.int .i64) y] (.lit (.bool true)) [] := by
  obtain ⟨F, G, hmade, hok, hm8, hl1, hl2, hl3⟩ := made_ex fl gs 8 (by omega) (by omega)
  have hR := riverOk.riv hok
  have hl := hR.len
  have hF30 := (riverOk.river hok).val
  have hB := Best_good hok hl1 hl2 hl3
  have hbl := hR.best_len
  have hbv := hR.best_val
  have hW := Worth_eq (badW_good hok hbl (fun i hi => (hbv i hi).1) hR.best_poss) (w := val F G) rfl hl1 hl2 hl3 (by omega)
  refine FnAt.of_body tys_ok Try.func8 (by rfl) rfl Try.ntmps8 (by rw [Try.results8]) (by simp) ?_
  
  repeat' (first
 | refine W.seq ?_
 | refine W.block ?_
 | (refine W.region tys_ok [] ?_; conv => whnf)
 | (refine W.drawAll tys_ok [] mixed rfl ?_; conv => whnf)
 | (refine W.ret ?_; conv => whnf)
 | (refine W.skip ?_; conv => whnf)
 | (refine W.exit ?_; conv => whnf)
 | (refine call_at (al := false) (hmade) rfl rfl rfl rfl ?_; conv => whnf)
 | (refine call_at (al := false) (hB) rfl rfl rfl rfl ?_; conv => whnf)
 | (refine call_at (al := false) (hW) rfl rfl rfl rfl ?_; conv => whnf)
 | (refine call_at (al := false) (lives_at) rfl rfl rfl rfl ?_; conv => whnf)

    | (refine W.cond rfl (fun hb => ?_) (fun hb => ?_) <;> (try simp only [minL, maxL, pickB, getD_int, getD_sl, getD_bool, len_int, len_sl, len_bool, decide_eq_true_eq, decide_eq_false_iff_not, Bool.and_eq_true, Bool.or_eq_true, Bool.and_eq_false_iff, Bool.or_eq_false_iff, Bool.not_eq_true', Bool.not_eq_false', Bool.true_eq_false, Bool.false_eq_true, Int.toNat_natCast, Int.ofNat_lt, Int.ofNat_le, not_true_eq_false, not_false_eq_true, or_false, false_or, and_true, true_and, or_true, true_or, and_false, false_and] at hb) <;> (try (first | (cases hb; done) | exact absurd hb (by decide) | (exfalso; omega))))
    | ((with_reducible refine And.intro ?_ ?_); (focus ((repeat' (first | (with_reducible rfl) | (with_reducible refine And.intro ?_ ?_) | omega | rfl | exact Or.inl rfl | exact Or.inr rfl | (focus ((try simp only [minL, maxL, pickB, getD_int, getD_sl, getD_bool, len_int, len_sl, len_bool, decide_eq_true_eq, decide_eq_false_iff_not, Bool.and_eq_true, Bool.or_eq_true, Bool.and_eq_false_iff, Bool.or_eq_false_iff, Bool.not_eq_true', Bool.not_eq_false', Bool.true_eq_false, Bool.false_eq_true, Int.toNat_natCast, Int.ofNat_lt, Int.ofNat_le, not_true_eq_false, not_false_eq_true, or_false, false_or, and_true, true_and, or_true, true_or, and_false, false_and, InK, Path.imp, List.length_replicate, List.length_set, List.length_append, List.length_cons, List.length_nil] at *); omega)) | (refine app_le rfl ?_; omega))); done)); (conv => whnf))
    | ((with_reducible refine And.intro (Side.out ?_) ?_); rotate_left; (conv => whnf))
    | (refine retF1 ?_ <;> (conv => whnf) <;> repeat' (first
 | exact trivial
 | (with_reducible rfl)
 | ((with_reducible refine And.intro ?_ ?_) <;> conv => whnf)
 | omega
 | rfl
 | (refine congrArg (SV.arr _) ?_)
 | (refine congrArg (Value.int _) ?_)
 | (refine congrArg Value.bool ?_)))
 | (refine retF2 ?_ <;> (conv => whnf) <;> repeat' (first
 | exact trivial
 | (with_reducible rfl)
 | ((with_reducible refine And.intro ?_ ?_) <;> conv => whnf)
 | omega
 | rfl
 | (refine congrArg (SV.arr _) ?_)
 | (refine congrArg (Value.int _) ?_)
 | (refine congrArg Value.bool ?_)))); all_goals (try unfold Side)
  all_goals try (repeat' (first | (with_reducible rfl) | (with_reducible refine And.intro ?_ ?_) | omega | rfl | exact Or.inl rfl | exact Or.inr rfl | (focus ((try simp only [minL, maxL, pickB, getD_int, getD_sl, getD_bool, len_int, len_sl, len_bool, decide_eq_true_eq, decide_eq_false_iff_not, Bool.and_eq_true, Bool.or_eq_true, Bool.and_eq_false_iff, Bool.or_eq_false_iff, Bool.not_eq_true', Bool.not_eq_false', Bool.true_eq_false, Bool.false_eq_true, Int.toNat_natCast, Int.ofNat_lt, Int.ofNat_le, not_true_eq_false, not_false_eq_true, or_false, false_or, and_true, true_and, or_true, true_or, and_false, false_and, InK, Path.imp, List.length_replicate, List.length_set, List.length_append, List.length_cons, List.length_nil] at *); omega)) | (refine app_le rfl ?_; omega)))
  have hbl' : @List.length (Ty.int .i64).T (bestL F G) = F.length := hbl
  refine W.loop (fun i : Nat => ⟨[(1, .st false (.arr (.int .i64) y)), (5, .own 15000), (6, .own 15001), (7, .own 19000), (8, .lit (.int .i64 (val F G))), (12, .lit (.int .i64 i))],
      [(15000, .row 3 (.int .i64) true F), (15001, .row 22 (.sl (.int .i64)) true G), (19000, .row 3 (.int .i64) true (bestL F G))]⟩)
    (fun i => i ≤ F.length) (fun i => F.length - i) 0 ?_ ?_
  · refine ⟨Nat.zero_le _, ?_⟩
    refine subF.ok ?_ <;> (conv => whnf) <;> repeat' (first
 | exact trivial
 | (with_reducible rfl)
 | ((with_reducible refine And.intro ?_ ?_) <;> conv => whnf)
 | omega
 | rfl
 | (refine congrArg (SV.arr _) ?_)
 | (refine congrArg (Value.int _) ?_)
 | (refine congrArg Value.bool ?_))
  · intro i hi
    by_cases hil : i < F.length
    · have hv := hbv i (by omega)
      repeat' (first
 | refine W.seq ?_
 | refine W.block ?_
 | (refine W.region tys_ok [] ?_; conv => whnf)
 | (refine W.drawAll tys_ok [] mixed rfl ?_; conv => whnf)
 | (refine W.ret ?_; conv => whnf)
 | (refine W.skip ?_; conv => whnf)
 | (refine W.exit ?_; conv => whnf)

    | (refine W.cond rfl (fun hb => ?_) (fun hb => ?_) <;> (try simp only [minL, maxL, pickB, getD_int, getD_sl, getD_bool, len_int, len_sl, len_bool, decide_eq_true_eq, decide_eq_false_iff_not, Bool.and_eq_true, Bool.or_eq_true, Bool.and_eq_false_iff, Bool.or_eq_false_iff, Bool.not_eq_true', Bool.not_eq_false', Bool.true_eq_false, Bool.false_eq_true, Int.toNat_natCast, Int.ofNat_lt, Int.ofNat_le, not_true_eq_false, not_false_eq_true, or_false, false_or, and_true, true_and, or_true, true_or, and_false, false_and] at hb) <;> (try (first | (cases hb; done) | exact absurd hb (by decide) | (exfalso; omega))))
    | ((with_reducible refine And.intro ?_ ?_); (focus ((repeat' (first | (with_reducible rfl) | (with_reducible refine And.intro ?_ ?_) | omega | rfl | exact Or.inl rfl | exact Or.inr rfl | (focus ((try simp only [minL, maxL, pickB, getD_int, getD_sl, getD_bool, len_int, len_sl, len_bool, decide_eq_true_eq, decide_eq_false_iff_not, Bool.and_eq_true, Bool.or_eq_true, Bool.and_eq_false_iff, Bool.or_eq_false_iff, Bool.not_eq_true', Bool.not_eq_false', Bool.true_eq_false, Bool.false_eq_true, Int.toNat_natCast, Int.ofNat_lt, Int.ofNat_le, not_true_eq_false, not_false_eq_true, or_false, false_or, and_true, true_and, or_true, true_or, and_false, false_and, InK, Path.imp, List.length_replicate, List.length_set, List.length_append, List.length_cons, List.length_nil] at *); omega)) | (refine app_le rfl ?_; omega))); done)); (conv => whnf))
    | ((with_reducible refine And.intro (Side.out ?_) ?_); rotate_left; (conv => whnf))
    | (refine retF1 ?_ <;> (conv => whnf) <;> repeat' (first
 | exact trivial
 | (with_reducible rfl)
 | ((with_reducible refine And.intro ?_ ?_) <;> conv => whnf)
 | omega
 | rfl
 | (refine congrArg (SV.arr _) ?_)
 | (refine congrArg (Value.int _) ?_)
 | (refine congrArg Value.bool ?_)))
 | (refine retF2 ?_ <;> (conv => whnf) <;> repeat' (first
 | exact trivial
 | (with_reducible rfl)
 | ((with_reducible refine And.intro ?_ ?_) <;> conv => whnf)
 | omega
 | rfl
 | (refine congrArg (SV.arr _) ?_)
 | (refine congrArg (Value.int _) ?_)
 | (refine congrArg Value.bool ?_)))); all_goals (try unfold Side)
      all_goals try (repeat' (first | (with_reducible rfl) | (with_reducible refine And.intro ?_ ?_) | omega | rfl | exact Or.inl rfl | exact Or.inr rfl | (focus ((try simp only [minL, maxL, pickB, getD_int, getD_sl, getD_bool, len_int, len_sl, len_bool, decide_eq_true_eq, decide_eq_false_iff_not, Bool.and_eq_true, Bool.or_eq_true, Bool.and_eq_false_iff, Bool.or_eq_false_iff, Bool.not_eq_true', Bool.not_eq_false', Bool.true_eq_false, Bool.false_eq_true, Int.toNat_natCast, Int.ofNat_lt, Int.ofNat_le, not_true_eq_false, not_false_eq_true, or_false, false_or, and_true, true_and, or_true, true_or, and_false, false_and, InK, Path.imp, List.length_replicate, List.length_set, List.length_append, List.length_cons, List.length_nil] at *); omega)) | (refine app_le rfl ?_; omega)))
      refine ⟨i + 1, ⟨by omega, by omega⟩, ?_⟩
      refine subF.ok ?_ <;> (conv => whnf) <;> repeat' (first
 | exact trivial
 | (with_reducible rfl)
 | ((with_reducible refine And.intro ?_ ?_) <;> conv => whnf)
 | omega
 | rfl
 | (refine congrArg (SV.arr _) ?_)
 | (refine congrArg (Value.int _) ?_)
 | (refine congrArg Value.bool ?_))
    · have hie : i = F.length := by omega
      subst hie
      repeat' (first
 | refine W.seq ?_
 | refine W.block ?_
 | (refine W.region tys_ok [] ?_; conv => whnf)
 | (refine W.drawAll tys_ok [] mixed rfl ?_; conv => whnf)
 | (refine W.ret ?_; conv => whnf)
 | (refine W.skip ?_; conv => whnf)
 | (refine W.exit ?_; conv => whnf)

    | (refine W.cond rfl (fun hb => ?_) (fun hb => ?_) <;> (try simp only [minL, maxL, pickB, getD_int, getD_sl, getD_bool, len_int, len_sl, len_bool, decide_eq_true_eq, decide_eq_false_iff_not, Bool.and_eq_true, Bool.or_eq_true, Bool.and_eq_false_iff, Bool.or_eq_false_iff, Bool.not_eq_true', Bool.not_eq_false', Bool.true_eq_false, Bool.false_eq_true, Int.toNat_natCast, Int.ofNat_lt, Int.ofNat_le, not_true_eq_false, not_false_eq_true, or_false, false_or, and_true, true_and, or_true, true_or, and_false, false_and] at hb) <;> (try (first | (cases hb; done) | exact absurd hb (by decide) | (exfalso; omega))))
    | ((with_reducible refine And.intro ?_ ?_); (focus ((repeat' (first | (with_reducible rfl) | (with_reducible refine And.intro ?_ ?_) | omega | rfl | exact Or.inl rfl | exact Or.inr rfl | (focus ((try simp only [minL, maxL, pickB, getD_int, getD_sl, getD_bool, len_int, len_sl, len_bool, decide_eq_true_eq, decide_eq_false_iff_not, Bool.and_eq_true, Bool.or_eq_true, Bool.and_eq_false_iff, Bool.or_eq_false_iff, Bool.not_eq_true', Bool.not_eq_false', Bool.true_eq_false, Bool.false_eq_true, Int.toNat_natCast, Int.ofNat_lt, Int.ofNat_le, not_true_eq_false, not_false_eq_true, or_false, false_or, and_true, true_and, or_true, true_or, and_false, false_and, InK, Path.imp, List.length_replicate, List.length_set, List.length_append, List.length_cons, List.length_nil] at *); omega)) | (refine app_le rfl ?_; omega))); done)); (conv => whnf))
    | ((with_reducible refine And.intro (Side.out ?_) ?_); rotate_left; (conv => whnf))
    | (refine retF1 ?_ <;> (conv => whnf) <;> repeat' (first
 | exact trivial
 | (with_reducible rfl)
 | ((with_reducible refine And.intro ?_ ?_) <;> conv => whnf)
 | omega
 | rfl
 | (refine congrArg (SV.arr _) ?_)
 | (refine congrArg (Value.int _) ?_)
 | (refine congrArg Value.bool ?_)))
 | (refine retF2 ?_ <;> (conv => whnf) <;> repeat' (first
 | exact trivial
 | (with_reducible rfl)
 | ((with_reducible refine And.intro ?_ ?_) <;> conv => whnf)
 | omega
 | rfl
 | (refine congrArg (SV.arr _) ?_)
 | (refine congrArg (Value.int _) ?_)
 | (refine congrArg Value.bool ?_)))); all_goals (try unfold Side)
      all_goals try (repeat' (first | (with_reducible rfl) | (with_reducible refine And.intro ?_ ?_) | omega | rfl | exact Or.inl rfl | exact Or.inr rfl | (focus ((try simp only [minL, maxL, pickB, getD_int, getD_sl, getD_bool, len_int, len_sl, len_bool, decide_eq_true_eq, decide_eq_false_iff_not, Bool.and_eq_true, Bool.or_eq_true, Bool.and_eq_false_iff, Bool.or_eq_false_iff, Bool.not_eq_true', Bool.not_eq_false', Bool.true_eq_false, Bool.false_eq_true, Int.toNat_natCast, Int.ofNat_lt, Int.ofNat_le, not_true_eq_false, not_false_eq_true, or_false, false_or, and_true, true_and, or_true, true_or, and_false, false_and, InK, Path.imp, List.length_replicate, List.length_set, List.length_append, List.length_cons, List.length_nil] at *); omega)) | (refine app_le rfl ?_; omega)))
      refine W.loop (fun x : Nat × List Int × Int => ⟨[(1, .st false (.arr (.int .i64) y)), (5, .own 15000), (6, .own 15001), (8, .lit (.int .i64 (val F G))), (13, .own 70000), (14, .lit (.int .i64 x.2.2)), (15, .lit (.int .i64 x.1))],
          [(15000, .row 3 (.int .i64) true F), (15001, .row 22 (.sl (.int .i64)) true G), (70000, .row 3 (.int .i64) true x.2.1)]⟩)
        (fun x => x.1 ≤ F.length ∧ UseJ F x.1 x.2.1 x.2.2) (fun x => F.length - x.1) (0, [], 0) ?_ ?_
      · refine ⟨⟨Nat.zero_le _, ⟨rfl, rfl, Int.le_refl _, Int.le_refl _, fun j hj => by omega, fun j hj => by omega⟩⟩, ?_⟩
        refine subF.ok ?_ <;> (conv => whnf) <;> repeat' (first
 | exact trivial
 | (with_reducible rfl)
 | ((with_reducible refine And.intro ?_ ?_) <;> conv => whnf)
 | omega
 | rfl
 | (refine congrArg (SV.arr _) ?_)
 | (refine congrArg (Value.int _) ?_)
 | (refine congrArg Value.bool ?_))
      · rintro ⟨i, us, left⟩ ⟨hi, hJ⟩
        dsimp only at hi hJ ⊢
        have hul : @List.length (Ty.int .i64).T us = i := hJ.len
        have hl0 := hJ.l0
        have hlj := hJ.l1
        by_cases hil : i < F.length
        · have hv := hF30 i hil
          have hf := fold_at (y.getD i 0) (left + F.getD i 0 + 1) (by omega) (by omega)
          have hfr := foldI_range (v := y.getD i 0) (n := left + F.getD i 0 + 1) (by omega)
          repeat' (first
 | refine W.seq ?_
 | refine W.block ?_
 | (refine W.region tys_ok [] ?_; conv => whnf)
 | (refine W.drawAll tys_ok [] mixed rfl ?_; conv => whnf)
 | (refine W.ret ?_; conv => whnf)
 | (refine W.skip ?_; conv => whnf)
 | (refine W.exit ?_; conv => whnf)
 | (refine call_at (al := false) (hf) rfl rfl rfl rfl ?_; conv => whnf)

    | (refine W.cond rfl (fun hb => ?_) (fun hb => ?_) <;> (try simp only [minL, maxL, pickB, getD_int, getD_sl, getD_bool, len_int, len_sl, len_bool, decide_eq_true_eq, decide_eq_false_iff_not, Bool.and_eq_true, Bool.or_eq_true, Bool.and_eq_false_iff, Bool.or_eq_false_iff, Bool.not_eq_true', Bool.not_eq_false', Bool.true_eq_false, Bool.false_eq_true, Int.toNat_natCast, Int.ofNat_lt, Int.ofNat_le, not_true_eq_false, not_false_eq_true, or_false, false_or, and_true, true_and, or_true, true_or, and_false, false_and] at hb) <;> (try (first | (cases hb; done) | exact absurd hb (by decide) | (exfalso; omega))))
    | ((with_reducible refine And.intro ?_ ?_); (focus ((repeat' (first | (with_reducible rfl) | (with_reducible refine And.intro ?_ ?_) | omega | rfl | exact Or.inl rfl | exact Or.inr rfl | (focus ((try simp only [minL, maxL, pickB, getD_int, getD_sl, getD_bool, len_int, len_sl, len_bool, decide_eq_true_eq, decide_eq_false_iff_not, Bool.and_eq_true, Bool.or_eq_true, Bool.and_eq_false_iff, Bool.or_eq_false_iff, Bool.not_eq_true', Bool.not_eq_false', Bool.true_eq_false, Bool.false_eq_true, Int.toNat_natCast, Int.ofNat_lt, Int.ofNat_le, not_true_eq_false, not_false_eq_true, or_false, false_or, and_true, true_and, or_true, true_or, and_false, false_and, InK, Path.imp, List.length_replicate, List.length_set, List.length_append, List.length_cons, List.length_nil] at *); omega)) | (refine app_le rfl ?_; omega))); done)); (conv => whnf))
    | ((with_reducible refine And.intro (Side.out ?_) ?_); rotate_left; (conv => whnf))
    | (refine retF1 ?_ <;> (conv => whnf) <;> repeat' (first
 | exact trivial
 | (with_reducible rfl)
 | ((with_reducible refine And.intro ?_ ?_) <;> conv => whnf)
 | omega
 | rfl
 | (refine congrArg (SV.arr _) ?_)
 | (refine congrArg (Value.int _) ?_)
 | (refine congrArg Value.bool ?_)))
 | (refine retF2 ?_ <;> (conv => whnf) <;> repeat' (first
 | exact trivial
 | (with_reducible rfl)
 | ((with_reducible refine And.intro ?_ ?_) <;> conv => whnf)
 | omega
 | rfl
 | (refine congrArg (SV.arr _) ?_)
 | (refine congrArg (Value.int _) ?_)
 | (refine congrArg Value.bool ?_)))); all_goals (try unfold Side)
          all_goals try (repeat' (first | (with_reducible rfl) | (with_reducible refine And.intro ?_ ?_) | omega | rfl | exact Or.inl rfl | exact Or.inr rfl | (focus ((try simp only [minL, maxL, pickB, getD_int, getD_sl, getD_bool, len_int, len_sl, len_bool, decide_eq_true_eq, decide_eq_false_iff_not, Bool.and_eq_true, Bool.or_eq_true, Bool.and_eq_false_iff, Bool.or_eq_false_iff, Bool.not_eq_true', Bool.not_eq_false', Bool.true_eq_false, Bool.false_eq_true, Int.toNat_natCast, Int.ofNat_lt, Int.ofNat_le, not_true_eq_false, not_false_eq_true, or_false, false_or, and_true, true_and, or_true, true_or, and_false, false_and, InK, Path.imp, List.length_replicate, List.length_set, List.length_append, List.length_cons, List.length_nil] at *); omega)) | (refine app_le rfl ?_; omega)))
          · refine ⟨(i + 1, us ++ [foldI (y.getD i 0) (left + F.getD i 0 + 1)], left + F.getD i 0 - foldI (y.getD i 0) (left + F.getD i 0 + 1)), ⟨⟨?_, hJ.step hil hv (by omega) (by omega)⟩, ?_⟩, ?_⟩
            · exact hil
            · dsimp only; omega
            · refine subF.ok ?_ <;> (conv => whnf) <;> repeat' (first
 | exact trivial
 | (with_reducible rfl)
 | ((with_reducible refine And.intro ?_ ?_) <;> conv => whnf)
 | omega
 | rfl
 | (refine congrArg (SV.arr _) ?_)
 | (refine congrArg (Value.int _) ?_)
 | (refine congrArg Value.bool ?_))
          · refine ⟨(i + 1, us ++ [0], left + F.getD i 0 - 0), ⟨⟨?_, hJ.step hil hv (by omega) (by omega)⟩, ?_⟩, ?_⟩
            · exact hil
            · dsimp only; omega
            · refine subF.ok ?_ <;> (conv => whnf) <;> repeat' (first
 | exact trivial
 | (with_reducible rfl)
 | ((with_reducible refine And.intro ?_ ?_) <;> conv => whnf)
 | omega
 | rfl
 | (refine congrArg (SV.arr _) ?_)
 | (refine congrArg (Value.int _) ?_)
 | (refine congrArg Value.bool ?_))
        · have hie : i = F.length := by omega
          subst hie
          have hup := riv_upper hR hJ.len (fun i hi => hJ.u0 i (by rw [hJ.len] at hi; exact hi)) hJ.poss
          have hW2 := Worth_eq (badW_good hok hJ.len (fun i hi => hJ.u0 i (by rw [hJ.len] at hi; exact hi)) hJ.poss) (w := worthL G us) rfl hl1 hl2 hl3 (by rw [hJ.len]; omega)
          repeat' (first
 | refine W.seq ?_
 | refine W.block ?_
 | (refine W.region tys_ok [] ?_; conv => whnf)
 | (refine W.drawAll tys_ok [] mixed rfl ?_; conv => whnf)
 | (refine W.ret ?_; conv => whnf)
 | (refine W.skip ?_; conv => whnf)
 | (refine W.exit ?_; conv => whnf)
 | (refine call_at (al := false) (hW2) rfl rfl rfl rfl ?_; conv => whnf)

    | (refine W.cond rfl (fun hb => ?_) (fun hb => ?_) <;> (try simp only [minL, maxL, pickB, getD_int, getD_sl, getD_bool, len_int, len_sl, len_bool, decide_eq_true_eq, decide_eq_false_iff_not, Bool.and_eq_true, Bool.or_eq_true, Bool.and_eq_false_iff, Bool.or_eq_false_iff, Bool.not_eq_true', Bool.not_eq_false', Bool.true_eq_false, Bool.false_eq_true, Int.toNat_natCast, Int.ofNat_lt, Int.ofNat_le, not_true_eq_false, not_false_eq_true, or_false, false_or, and_true, true_and, or_true, true_or, and_false, false_and] at hb) <;> (try (first | (cases hb; done) | exact absurd hb (by decide) | (exfalso; omega))))
    | ((with_reducible refine And.intro ?_ ?_); (focus ((repeat' (first | (with_reducible rfl) | (with_reducible refine And.intro ?_ ?_) | omega | rfl | exact Or.inl rfl | exact Or.inr rfl | (focus ((try simp only [minL, maxL, pickB, getD_int, getD_sl, getD_bool, len_int, len_sl, len_bool, decide_eq_true_eq, decide_eq_false_iff_not, Bool.and_eq_true, Bool.or_eq_true, Bool.and_eq_false_iff, Bool.or_eq_false_iff, Bool.not_eq_true', Bool.not_eq_false', Bool.true_eq_false, Bool.false_eq_true, Int.toNat_natCast, Int.ofNat_lt, Int.ofNat_le, not_true_eq_false, not_false_eq_true, or_false, false_or, and_true, true_and, or_true, true_or, and_false, false_and, InK, Path.imp, List.length_replicate, List.length_set, List.length_append, List.length_cons, List.length_nil] at *); omega)) | (refine app_le rfl ?_; omega))); done)); (conv => whnf))
    | ((with_reducible refine And.intro (Side.out ?_) ?_); rotate_left; (conv => whnf))
    | (refine retF1 ?_ <;> (conv => whnf) <;> repeat' (first
 | exact trivial
 | (with_reducible rfl)
 | ((with_reducible refine And.intro ?_ ?_) <;> conv => whnf)
 | omega
 | rfl
 | (refine congrArg (SV.arr _) ?_)
 | (refine congrArg (Value.int _) ?_)
 | (refine congrArg Value.bool ?_)))
 | (refine retF2 ?_ <;> (conv => whnf) <;> repeat' (first
 | exact trivial
 | (with_reducible rfl)
 | ((with_reducible refine And.intro ?_ ?_) <;> conv => whnf)
 | omega
 | rfl
 | (refine congrArg (SV.arr _) ?_)
 | (refine congrArg (Value.int _) ?_)
 | (refine congrArg Value.bool ?_)))); all_goals (try unfold Side)
          all_goals try (repeat' (first | (with_reducible rfl) | (with_reducible refine And.intro ?_ ?_) | omega | rfl | exact Or.inl rfl | exact Or.inr rfl | (focus ((try simp only [minL, maxL, pickB, getD_int, getD_sl, getD_bool, len_int, len_sl, len_bool, decide_eq_true_eq, decide_eq_false_iff_not, Bool.and_eq_true, Bool.or_eq_true, Bool.and_eq_false_iff, Bool.or_eq_false_iff, Bool.not_eq_true', Bool.not_eq_false', Bool.true_eq_false, Bool.false_eq_true, Int.toNat_natCast, Int.ofNat_lt, Int.ofNat_le, not_true_eq_false, not_false_eq_true, or_false, false_or, and_true, true_and, or_true, true_or, and_false, false_and, InK, Path.imp, List.length_replicate, List.length_set, List.length_append, List.length_cons, List.length_nil] at *); omega)) | (refine app_le rfl ?_; omega)))
end Go.Proofs.Ytohfemfgnohhdaa
/- Prices and marginal gains: the mathematics; WaterMarginal. No condition. -/
namespace Go.Proofs.Ytohfemfgnohhdaa
open Go Go.Vc
set_option linter.unusedVariables false
set_option linter.unusedSimpArgs false

theorem pre_step (us : List Int) (m : Nat) : pre us (m + 1) = pre us m + us.getD (m + 1) 0 := by
  unfold pre
  exact sum_take_inc us (m + 1)
/-- The last place at which v has more. -/
theorem last_more {us vs : List Int} : ∀ {j : Nat}, pre us j < pre vs j → ∃ k, k ≤ j ∧ us.getD k 0 < vs.getD k 0 ∧ ∀ l, k ≤ l → l ≤ j → pre vs j - pre us j ≤ pre vs l - pre us l
  | 0, h => by
    refine ⟨0, Nat.le_refl _, ?_, fun l h1 h2 => ?_⟩
    · unfold pre at h
      have e : ∀ xs : List Int, (xs.take (0 + 1)).sum = xs.getD 0 0 := fun xs => by rw [sum_take_inc]; simp
      rw [e, e] at h
      exact h
    · have : l = 0 := by omega
      subst this; omega
  | j + 1, h => by
    have h1 := pre_step us j
    have h2 := pre_step vs j
    by_cases hj : us.getD (j + 1) 0 < vs.getD (j + 1) 0
    · refine ⟨j + 1, Nat.le_refl _, hj, fun l h1 h2 => ?_⟩
      have : l = j + 1 := by omega
      subst this; omega
    · obtain ⟨k, h3, h4, h5⟩ := last_more (us := us) (vs := vs) (j := j) (by omega)
      refine ⟨k, by omega, h4, fun l h6 h7 => ?_⟩
      by_cases e : l = j + 1
      · subst e; omega
      · have := h5 l h6 (by omega); omega
theorem worth_dec {gs : List (List Int)} {us : List Int} {j : Nat} (hl : us.length = gs.length) (hj : j < us.length) (h : 1 ≤ us.getD j 0) :
    worthL gs us = worthL gs (us.set j (us.getD j 0 - 1)) + gk gs j (us.getD j 0 - 1) := by
  have h1 := worth_set (gs := gs) (us := us.set j (us.getD j 0 - 1)) (i := j) (by simpa using hl) (by simpa using hj) (by rw [set_getD hj, if_pos rfl]; omega)
  rw [set_set_back hj, set_getD hj, if_pos rfl] at h1
  exact h1
/-- The least number at which something holds. -/
theorem least_nat (p : Nat → Prop) : ∀ n, p n → ∃ m, m ≤ n ∧ p m ∧ ∀ k, k < m → ¬ p k := by
  intro n
  induction n using Nat.strongRecOn with
  | _ n ih =>
    intro hn
    by_cases h : ∃ k, k < n ∧ p k
    · obtain ⟨k, h1, h2⟩ := h
      obtain ⟨m, h3, h4, h5⟩ := ih k h1 h2
      exact ⟨m, by omega, h4, h5⟩
    · exact ⟨n, Nat.le_refl _, hn, fun k hk hp => h ⟨k, hk, hp⟩⟩
section
variable {fl : List Int} {gs : List (List Int)} (h : Riv fl gs) (hs : ∀ i, i < fl.length → fl.getD i 0 ≤ 30)
include h hs
theorem price_nonneg (i : Nat) (hi : i < fl.length) : val fl gs ≤ val (fl.set i (fl.getD i 0 + 1)) gs := by
  have hm := h.more hs i
  have hb := h.best_len
  refine riv_upper hm (vs := bestL fl gs) (by rw [List.length_set]; exact hb) (fun j hj => (h.best_val j hj).1) ?_
  refine (poss_iff (by rw [List.length_set]; exact hb)).2 fun m hmm => ?_
  have := (poss_iff hb).1 h.best_poss m hmm
  rw [pre_set hi]
  split <;> omega
theorem price_falls (i : Nat) (hi : i + 1 < fl.length) : val (fl.set (i + 1) (fl.getD (i + 1) 0 + 1)) gs ≤ val (fl.set i (fl.getD i 0 + 1)) gs := by
  have hm := h.more hs i
  have hm1 := h.more hs (i + 1)
  have hb := hm1.best_len
  rw [List.length_set] at hb
  refine riv_upper hm (vs := bestL _ gs) (by rw [List.length_set]; exact hb) (fun j hj => (hm1.best_val j hj).1) ?_
  refine (poss_iff (by rw [List.length_set]; exact hb)).2 fun m hmm => ?_
  have := (poss_iff (by rw [List.length_set]; exact hb)).1 hm1.best_poss m hmm
  rw [pre_set (by omega)] at this ⊢
  split at this <;> split <;> omega
theorem price_ge (i : Nat) (hi : i < fl.length) : gk gs i ((bestL fl gs).getD i 0) ≤ val (fl.set i (fl.getD i 0 + 1)) gs - val fl gs := by
  have hm := h.more hs i
  have hb := h.best_len
  have hlen := h.len
  have hu := (h.best_val i (by omega)).1
  have hw := worth_set (gs := gs) (us := bestL fl gs) (i := i) (by omega) (by omega) hu
  have hup := riv_upper hm (vs := (bestL fl gs).set i ((bestL fl gs).getD i 0 + 1)) (by rw [List.length_set, List.length_set]; exact hb) (fun j hj => by
    rw [List.length_set] at hj
    rw [set_getD (by omega)]
    have := (h.best_val j hj).1
    split <;> omega) ((poss_iff (by rw [List.length_set, List.length_set]; exact hb)).2 fun m hmm => by
    rw [List.length_set] at hmm
    have := (poss_iff hb).1 h.best_poss m hmm
    rw [pre_set (by omega), pre_set hi]
    split <;> omega)
  have e : worthL gs (bestL fl gs) = val fl gs := rfl
  omega
theorem price_le (i : Nat) (hi : i < fl.length) (hpos : 0 < (bestL fl gs).getD i 0) : val (fl.set i (fl.getD i 0 + 1)) gs - val fl gs ≤ gk gs i ((bestL fl gs).getD i 0 - 1) := by
  have hm := h.more hs i
  have hlen := h.len
  have hF := h.falls
  obtain ⟨u, hu⟩ : ∃ u, u = bestL fl gs := ⟨_, rfl⟩
  obtain ⟨v, hv⟩ : ∃ v, v = bestL (fl.set i (fl.getD i 0 + 1)) gs := ⟨_, rfl⟩
  have hul : u.length = fl.length := by rw [hu]; exact h.best_len
  have hvl : v.length = fl.length := by rw [hv, hm.best_len, List.length_set]
  have hu0 : ∀ j, j < u.length → 0 ≤ u.getD j 0 := fun j hj => by rw [hu] at hj ⊢; exact (h.best_val j hj).1
  have hv0 : ∀ j, j < v.length → 0 ≤ v.getD j 0 := fun j hj => by rw [hv] at hj ⊢; exact (hm.best_val j hj).1
  have hup : ∀ m, m < u.length → pre u m ≤ 0 + pre fl m := by rw [hu]; exact (poss_iff h.best_len).1 h.best_poss
  have hvp : ∀ m, m < v.length → pre v m ≤ 0 + pre (fl.set i (fl.getD i 0 + 1)) m := by rw [hv]; exact (poss_iff (by rw [hm.best_len])).1 hm.best_poss
  have eu : worthL gs u = val fl gs := by rw [hu]; rfl
  have ev : worthL gs v = val (fl.set i (fl.getD i 0 + 1)) gs := by rw [hv]; rfl
  rw [← hu] at hpos ⊢
  rw [← ev, ← eu]
  have upper : ∀ ws : List Int, ws.length = fl.length → (∀ j, j < ws.length → 0 ≤ ws.getD j 0) → (∀ m, m < ws.length → pre ws m ≤ pre fl m) → worthL gs ws ≤ worthL gs u := fun ws h1 h2 h3 => by
    rw [eu]
    exact riv_upper h h1 h2 ((poss_iff h1).2 fun m hmm => by have := h3 m hmm; omega)
  have gpos : ∀ a k, 0 ≤ gk gs a k := fun a k => hF.pos a _
  by_cases hB : ∃ m, m < v.length ∧ pre fl m < pre v m
  rotate_left
  · have := upper v hvl hv0 fun m hmm => Classical.byContradiction fun hc => hB ⟨m, hmm, by omega⟩
    have := gpos i (u.getD i 0 - 1)
    omega
  obtain ⟨m0, hm0⟩ := hB
  obtain ⟨j, _, ⟨hj1, hj2⟩, hj3⟩ := least_nat (fun m => m < v.length ∧ pre fl m < pre v m) m0 hm0
  have hjv : pre v j = pre fl j + 1 ∧ i ≤ j := by
    have := hvp j hj1
    rw [pre_set hi] at this
    split at this <;> omega
  obtain ⟨hjv, hij⟩ := hjv
  obtain ⟨k, hk1, hk2, hk3⟩ := last_more (us := u) (vs := v) (j := j) (by have := hup j (by omega); omega)
  have huk := hu0 k (by omega)
  have hvw := worth_dec (gs := gs) (us := v) (j := k) (by omega) (by omega) (by omega)
  have hv1 := upper (v.set k (v.getD k 0 - 1)) (by rw [List.length_set]; exact hvl) (fun l hl => by
    rw [List.length_set] at hl
    rw [set_getD (by omega)]
    have := hv0 l hl
    split <;> omega) (fun m hmm => by
    rw [List.length_set] at hmm
    rw [pre_set (by omega)]
    have h1 := hvp m hmm
    rw [pre_set hi] at h1
    by_cases hmj : m < j
    · have := hj3 m hmj
      have h2 : pre v m ≤ pre fl m := Classical.byContradiction fun hc => this ⟨hmm, by omega⟩
      split <;> omega
    · rw [if_pos (by omega)] at h1
      rw [if_pos (by omega)]
      omega)
  by_cases hki : k = i
  · subst hki
    have h2 := hF.le k (show (u.getD k 0 - 1).toNat ≤ (v.getD k 0 - 1).toNat by omega)
    have h3 : gk gs k (v.getD k 0 - 1) ≤ gk gs k (u.getD k 0 - 1) := h2
    omega
  · have hud := worth_dec (gs := gs) (us := u) (j := i) (by omega) (by omega) (by omega)
    have e1 : (u.set i (u.getD i 0 - 1)).getD k 0 = u.getD k 0 := by rw [set_getD (by omega), if_neg hki]
    have hua := worth_set (gs := gs) (us := u.set i (u.getD i 0 - 1)) (i := k) (by rw [List.length_set]; omega) (by rw [List.length_set]; omega) (by rw [e1]; exact huk)
    have hu1 := upper ((u.set i (u.getD i 0 - 1)).set k ((u.set i (u.getD i 0 - 1)).getD k 0 + 1)) (by rw [List.length_set, List.length_set]; exact hul) (fun l hl => by
      rw [List.length_set, List.length_set] at hl
      rw [set_getD (by rw [List.length_set]; omega), set_getD (by omega), set_getD (by omega)]
      have := hu0 l hl
      by_cases c1 : l = k
      · rw [if_pos c1, if_neg hki]; omega
      · rw [if_neg c1]; split <;> omega) (fun m hmm => by
      rw [List.length_set, List.length_set] at hmm
      rw [pre_set (by rw [List.length_set]; omega), pre_set (by omega)]
      have h1 := hup m hmm
      by_cases hc : k ≤ m ∧ m < i
      · have h2 := hk3 m hc.1 (by omega)
        have h3 := hup j (by omega)
        have h4 := hj3 m (by omega)
        have h5 : pre v m ≤ pre fl m := Classical.byContradiction fun hc => h4 ⟨by omega, by omega⟩
        rw [if_neg (by omega), if_pos hc.1]
        omega
      · split
        · split <;> omega
        · split <;> omega)
    rw [e1] at hua
    have h2 := hF.le k (show (u.getD k 0).toNat ≤ (v.getD k 0 - 1).toNat by omega)
    have h3 : gk gs k (v.getD k 0 - 1) ≤ gk gs k (u.getD k 0) := h2
    rw [e1] at hu1
    omega
end
theorem pricesT_get {fl : List Int} {gs : List (List Int)} {n i : Nat} (hi : i < n) : (pricesT fl gs n).getD i 0 = val (fl.set i (fl.getD i 0 + 1)) gs - val fl gs := by
  rw [pricesT, List.getD_eq_getElem?_getD, List.getElem?_map, List.getElem?_range hi]; rfl
set_option maxRecDepth 20000 in
set_option maxHeartbeats 4000000 in
theorem WaterMarginal_at (fl : List Int) (gs : List (List Int)) : FnAt Try.prog false 9 [.agg [.arr (.int .i64) fl, .arr (.sl (.int .i64)) gs]] (.lit (.bool true)) [] := by
  obtain ⟨F, G, hmade, hok, hm8, hl1, hl2, hl3⟩ := made_ex fl gs 8 (by omega) (by omega)
  have hR := riverOk.riv hok
  have hl := hR.len
  have hF30 : ∀ i, i < F.length → F.getD i 0 ≤ 30 := fun i hi => ((riverOk.river hok).val i hi).2
  have hB := Best_good hok hl1 hl2 hl3
  have hP := Prices_good hok hl1 hl2 hl3
  have hbl := hR.best_len
  have hbv := hR.best_val
  obtain ⟨p, hp⟩ : ∃ p, p = pricesT F G F.length := ⟨_, rfl⟩
  obtain ⟨u, hu⟩ : ∃ u, u = bestL F G := ⟨_, rfl⟩
  have hpl' : @List.length (Ty.int .i64).T p = @List.length (Ty.int .i64).T F := by rw [hp]; exact pricesT_len
  have hul' : @List.length (Ty.int .i64).T u = @List.length (Ty.int .i64).T F := by rw [hu]; exact hbl
  have hpg : ∀ i, i < F.length → p.getD i 0 = val (F.set i (F.getD i 0 + 1)) G - val F G := fun i hi => by rw [hp]; exact pricesT_get hi
  have hq1 := price_nonneg hR hF30
  have hq2 := price_falls hR hF30
  have hq3 := price_ge hR hF30
  have hq4 := price_le hR hF30
  rw [← hp] at hP
  rw [← hu] at hB hbl hbv hq3 hq4
  refine FnAt.of_body tys_ok Try.func9 (by rfl) rfl Try.ntmps9 (by rw [Try.results9]) (by simp) ?_
  
  repeat' (first
 | refine W.seq ?_
 | refine W.block ?_
 | (refine W.region tys_ok [] ?_; conv => whnf)
 | (refine W.drawAll tys_ok [] mixed rfl ?_; conv => whnf)
 | (refine W.ret ?_; conv => whnf)
 | (refine W.skip ?_; conv => whnf)
 | (refine W.exit ?_; conv => whnf)
 | (refine call_at (al := false) (hmade) rfl rfl rfl rfl ?_; conv => whnf)
 | (refine call_at (al := false) (hB) rfl rfl rfl rfl ?_; conv => whnf)
 | (refine call_at (al := false) (hP) rfl rfl rfl rfl ?_; conv => whnf)
 | (refine call_at (al := false) (lives_at) rfl rfl rfl rfl ?_; conv => whnf)

    | (refine W.cond rfl (fun hb => ?_) (fun hb => ?_) <;> (try simp only [minL, maxL, pickB, getD_int, getD_sl, getD_bool, len_int, len_sl, len_bool, decide_eq_true_eq, decide_eq_false_iff_not, Bool.and_eq_true, Bool.or_eq_true, Bool.and_eq_false_iff, Bool.or_eq_false_iff, Bool.not_eq_true', Bool.not_eq_false', Bool.true_eq_false, Bool.false_eq_true, Int.toNat_natCast, Int.ofNat_lt, Int.ofNat_le, not_true_eq_false, not_false_eq_true, or_false, false_or, and_true, true_and, or_true, true_or, and_false, false_and] at hb) <;> (try (first | (cases hb; done) | exact absurd hb (by decide) | (exfalso; omega))))
    | ((with_reducible refine And.intro ?_ ?_); (focus ((repeat' (first | (with_reducible rfl) | (with_reducible refine And.intro ?_ ?_) | omega | rfl | exact Or.inl rfl | exact Or.inr rfl | (focus ((try simp only [minL, maxL, pickB, getD_int, getD_sl, getD_bool, len_int, len_sl, len_bool, decide_eq_true_eq, decide_eq_false_iff_not, Bool.and_eq_true, Bool.or_eq_true, Bool.and_eq_false_iff, Bool.or_eq_false_iff, Bool.not_eq_true', Bool.not_eq_false', Bool.true_eq_false, Bool.false_eq_true, Int.toNat_natCast, Int.ofNat_lt, Int.ofNat_le, not_true_eq_false, not_false_eq_true, or_false, false_or, and_true, true_and, or_true, true_or, and_false, false_and, InK, Path.imp, List.length_replicate, List.length_set, List.length_append, List.length_cons, List.length_nil] at *); omega)) | (refine app_le rfl ?_; omega))); done)); (conv => whnf))
    | ((with_reducible refine And.intro (Side.out ?_) ?_); rotate_left; (conv => whnf))
    | (refine retF1 ?_ <;> (conv => whnf) <;> repeat' (first
 | exact trivial
 | (with_reducible rfl)
 | ((with_reducible refine And.intro ?_ ?_) <;> conv => whnf)
 | omega
 | rfl
 | (refine congrArg (SV.arr _) ?_)
 | (refine congrArg (Value.int _) ?_)
 | (refine congrArg Value.bool ?_)))
 | (refine retF2 ?_ <;> (conv => whnf) <;> repeat' (first
 | exact trivial
 | (with_reducible rfl)
 | ((with_reducible refine And.intro ?_ ?_) <;> conv => whnf)
 | omega
 | rfl
 | (refine congrArg (SV.arr _) ?_)
 | (refine congrArg (Value.int _) ?_)
 | (refine congrArg Value.bool ?_)))); all_goals (try unfold Side)
  all_goals try (repeat' (first | (with_reducible rfl) | (with_reducible refine And.intro ?_ ?_) | omega | rfl | exact Or.inl rfl | exact Or.inr rfl | (focus ((try simp only [minL, maxL, pickB, getD_int, getD_sl, getD_bool, len_int, len_sl, len_bool, decide_eq_true_eq, decide_eq_false_iff_not, Bool.and_eq_true, Bool.or_eq_true, Bool.and_eq_false_iff, Bool.or_eq_false_iff, Bool.not_eq_true', Bool.not_eq_false', Bool.true_eq_false, Bool.false_eq_true, Int.toNat_natCast, Int.ofNat_lt, Int.ofNat_le, not_true_eq_false, not_false_eq_true, or_false, false_or, and_true, true_and, or_true, true_or, and_false, false_and, InK, Path.imp, List.length_replicate, List.length_set, List.length_append, List.length_cons, List.length_nil] at *); omega)) | (refine app_le rfl ?_; omega)))
  refine W.loop (fun i : Nat => ⟨[(3, .own 14000), (4, .own 14001), (5, .own 20000), (8, .own 27000), (10, .lit (.int .i64 i))],
      [(14000, .row 3 (.int .i64) true F), (14001, .row 22 (.sl (.int .i64)) true G), (20000, .row 3 (.int .i64) true u), (27000, .row 3 (.int .i64) true p)]⟩)
    (fun i => i ≤ F.length) (fun i => F.length - i) 0 ?_ ?_
  · refine ⟨Nat.zero_le _, ?_⟩
    refine subF.ok ?_ <;> (conv => whnf) <;> repeat' (first
 | exact trivial
 | (with_reducible rfl)
 | ((with_reducible refine And.intro ?_ ?_) <;> conv => whnf)
 | omega
 | rfl
 | (refine congrArg (SV.arr _) ?_)
 | (refine congrArg (Value.int _) ?_)
 | (refine congrArg Value.bool ?_))
  · intro i hi
    by_cases hil : i < F.length
    · have hv := hbv i (by omega)
      have g1 := hpg i hil
      have g2 := hq1 i hil
      have g3 := hq3 i hil
      have g4 := hq4 i hil
      rw [← g1] at g3 g4
      have g5 : 0 < i → p.getD i 0 ≤ p.getD ((i : Int) - 1).toNat 0 := fun h0 => by
        rw [show ((i : Int) - 1).toNat = i - 1 from by omega, hpg i hil, hpg (i - 1) (by omega)]
        have := hq2 (i - 1) (by omega)
        rw [show i - 1 + 1 = i from by omega] at this
        omega
      simp only [gk] at g3 g4
      repeat' (first
 | refine W.seq ?_
 | refine W.block ?_
 | (refine W.region tys_ok [] ?_; conv => whnf)
 | (refine W.drawAll tys_ok [] mixed rfl ?_; conv => whnf)
 | (refine W.ret ?_; conv => whnf)
 | (refine W.skip ?_; conv => whnf)
 | (refine W.exit ?_; conv => whnf)

    | (refine W.cond rfl (fun hb => ?_) (fun hb => ?_) <;> (try simp only [minL, maxL, pickB, getD_int, getD_sl, getD_bool, len_int, len_sl, len_bool, decide_eq_true_eq, decide_eq_false_iff_not, Bool.and_eq_true, Bool.or_eq_true, Bool.and_eq_false_iff, Bool.or_eq_false_iff, Bool.not_eq_true', Bool.not_eq_false', Bool.true_eq_false, Bool.false_eq_true, Int.toNat_natCast, Int.ofNat_lt, Int.ofNat_le, not_true_eq_false, not_false_eq_true, or_false, false_or, and_true, true_and, or_true, true_or, and_false, false_and] at hb) <;> (try (first | (cases hb; done) | exact absurd hb (by decide) | (exfalso; omega))))
    | ((with_reducible refine And.intro ?_ ?_); (focus ((repeat' (first | (with_reducible rfl) | (with_reducible refine And.intro ?_ ?_) | omega | rfl | exact Or.inl rfl | exact Or.inr rfl | (focus ((try simp only [minL, maxL, pickB, getD_int, getD_sl, getD_bool, len_int, len_sl, len_bool, decide_eq_true_eq, decide_eq_false_iff_not, Bool.and_eq_true, Bool.or_eq_true, Bool.and_eq_false_iff, Bool.or_eq_false_iff, Bool.not_eq_true', Bool.not_eq_false', Bool.true_eq_false, Bool.false_eq_true, Int.toNat_natCast, Int.ofNat_lt, Int.ofNat_le, not_true_eq_false, not_false_eq_true, or_false, false_or, and_true, true_and, or_true, true_or, and_false, false_and, InK, Path.imp, List.length_replicate, List.length_set, List.length_append, List.length_cons, List.length_nil] at *); omega)) | (refine app_le rfl ?_; omega))); done)); (conv => whnf))
    | ((with_reducible refine And.intro (Side.out ?_) ?_); rotate_left; (conv => whnf))
    | (refine retF1 ?_ <;> (conv => whnf) <;> repeat' (first
 | exact trivial
 | (with_reducible rfl)
 | ((with_reducible refine And.intro ?_ ?_) <;> conv => whnf)
 | omega
 | rfl
 | (refine congrArg (SV.arr _) ?_)
 | (refine congrArg (Value.int _) ?_)
 | (refine congrArg Value.bool ?_)))
 | (refine retF2 ?_ <;> (conv => whnf) <;> repeat' (first
 | exact trivial
 | (with_reducible rfl)
 | ((with_reducible refine And.intro ?_ ?_) <;> conv => whnf)
 | omega
 | rfl
 | (refine congrArg (SV.arr _) ?_)
 | (refine congrArg (Value.int _) ?_)
 | (refine congrArg Value.bool ?_)))); all_goals (try unfold Side)
      all_goals try (repeat' (first | (with_reducible rfl) | (with_reducible refine And.intro ?_ ?_) | omega | rfl | exact Or.inl rfl | exact Or.inr rfl | (focus ((try simp only [minL, maxL, pickB, getD_int, getD_sl, getD_bool, len_int, len_sl, len_bool, decide_eq_true_eq, decide_eq_false_iff_not, Bool.and_eq_true, Bool.or_eq_true, Bool.and_eq_false_iff, Bool.or_eq_false_iff, Bool.not_eq_true', Bool.not_eq_false', Bool.true_eq_false, Bool.false_eq_true, Int.toNat_natCast, Int.ofNat_lt, Int.ofNat_le, not_true_eq_false, not_false_eq_true, or_false, false_or, and_true, true_and, or_true, true_or, and_false, false_and, InK, Path.imp, List.length_replicate, List.length_set, List.length_append, List.length_cons, List.length_nil] at *); omega)) | (refine app_le rfl ?_; omega)))
      refine ⟨i + 1, ⟨by omega, by omega⟩, ?_⟩
      refine subF.ok ?_ <;> (conv => whnf) <;> repeat' (first
 | exact trivial
 | (with_reducible rfl)
 | ((with_reducible refine And.intro ?_ ?_) <;> conv => whnf)
 | omega
 | rfl
 | (refine congrArg (SV.arr _) ?_)
 | (refine congrArg (Value.int _) ?_)
 | (refine congrArg Value.bool ?_))
    · have hie : i = F.length := by omega
      subst hie
      repeat' (first
 | refine W.seq ?_
 | refine W.block ?_
 | (refine W.region tys_ok [] ?_; conv => whnf)
 | (refine W.drawAll tys_ok [] mixed rfl ?_; conv => whnf)
 | (refine W.ret ?_; conv => whnf)
 | (refine W.skip ?_; conv => whnf)
 | (refine W.exit ?_; conv => whnf)

    | (refine W.cond rfl (fun hb => ?_) (fun hb => ?_) <;> (try simp only [minL, maxL, pickB, getD_int, getD_sl, getD_bool, len_int, len_sl, len_bool, decide_eq_true_eq, decide_eq_false_iff_not, Bool.and_eq_true, Bool.or_eq_true, Bool.and_eq_false_iff, Bool.or_eq_false_iff, Bool.not_eq_true', Bool.not_eq_false', Bool.true_eq_false, Bool.false_eq_true, Int.toNat_natCast, Int.ofNat_lt, Int.ofNat_le, not_true_eq_false, not_false_eq_true, or_false, false_or, and_true, true_and, or_true, true_or, and_false, false_and] at hb) <;> (try (first | (cases hb; done) | exact absurd hb (by decide) | (exfalso; omega))))
    | ((with_reducible refine And.intro ?_ ?_); (focus ((repeat' (first | (with_reducible rfl) | (with_reducible refine And.intro ?_ ?_) | omega | rfl | exact Or.inl rfl | exact Or.inr rfl | (focus ((try simp only [minL, maxL, pickB, getD_int, getD_sl, getD_bool, len_int, len_sl, len_bool, decide_eq_true_eq, decide_eq_false_iff_not, Bool.and_eq_true, Bool.or_eq_true, Bool.and_eq_false_iff, Bool.or_eq_false_iff, Bool.not_eq_true', Bool.not_eq_false', Bool.true_eq_false, Bool.false_eq_true, Int.toNat_natCast, Int.ofNat_lt, Int.ofNat_le, not_true_eq_false, not_false_eq_true, or_false, false_or, and_true, true_and, or_true, true_or, and_false, false_and, InK, Path.imp, List.length_replicate, List.length_set, List.length_append, List.length_cons, List.length_nil] at *); omega)) | (refine app_le rfl ?_; omega))); done)); (conv => whnf))
    | ((with_reducible refine And.intro (Side.out ?_) ?_); rotate_left; (conv => whnf))
    | (refine retF1 ?_ <;> (conv => whnf) <;> repeat' (first
 | exact trivial
 | (with_reducible rfl)
 | ((with_reducible refine And.intro ?_ ?_) <;> conv => whnf)
 | omega
 | rfl
 | (refine congrArg (SV.arr _) ?_)
 | (refine congrArg (Value.int _) ?_)
 | (refine congrArg Value.bool ?_)))
 | (refine retF2 ?_ <;> (conv => whnf) <;> repeat' (first
 | exact trivial
 | (with_reducible rfl)
 | ((with_reducible refine And.intro ?_ ?_) <;> conv => whnf)
 | omega
 | rfl
 | (refine congrArg (SV.arr _) ?_)
 | (refine congrArg (Value.int _) ?_)
 | (refine congrArg Value.bool ?_)))); all_goals (try unfold Side)
      all_goals try (repeat' (first | (with_reducible rfl) | (with_reducible refine And.intro ?_ ?_) | omega | rfl | exact Or.inl rfl | exact Or.inr rfl | (focus ((try simp only [minL, maxL, pickB, getD_int, getD_sl, getD_bool, len_int, len_sl, len_bool, decide_eq_true_eq, decide_eq_false_iff_not, Bool.and_eq_true, Bool.or_eq_true, Bool.and_eq_false_iff, Bool.or_eq_false_iff, Bool.not_eq_true', Bool.not_eq_false', Bool.true_eq_false, Bool.false_eq_true, Int.toNat_natCast, Int.ofNat_lt, Int.ofNat_le, not_true_eq_false, not_false_eq_true, or_false, false_or, and_true, true_and, or_true, true_or, and_false, false_and, InK, Path.imp, List.length_replicate, List.length_set, List.length_append, List.length_cons, List.length_nil] at *); omega)) | (refine app_le rfl ?_; omega)))
end Go.Proofs.Ytohfemfgnohhdaa
/- Gains that are all multiplied by a number: the mathematics. No condition. -/
namespace Go.Proofs.Ytohfemfgnohhdaa
open Go Go.Vc
set_option linter.unusedVariables false
set_option linter.unusedSimpArgs false

def scaleG (k : Int) (gs : List (List Int)) : List (List Int) := gs.map fun l => l.map (· * k)
theorem scaleG_len {k : Int} {gs : List (List Int)} : (scaleG k gs).length = gs.length := by simp [scaleG]
theorem scaleG_get {k : Int} {gs : List (List Int)} {i : Nat} : (scaleG k gs).getD i [] = (gs.getD i []).map (· * k) := by
  rw [scaleG, List.getD_eq_getElem?_getD, List.getD_eq_getElem?_getD, List.getElem?_map]
  cases gs[i]? <;> rfl
theorem map_mul_get {k : Int} {l : List Int} {j : Nat} : (l.map (· * k)).getD j 0 = l.getD j 0 * k := by
  rw [List.getD_eq_getElem?_getD, List.getD_eq_getElem?_getD, List.getElem?_map]
  cases l[j]? <;> simp
theorem map_mul_sum {k : Int} : ∀ {l : List Int}, (l.map (· * k)).sum = l.sum * k
  | [] => by simp
  | x :: r => by simp only [List.map_cons, List.sum_cons, map_mul_sum (l := r), Int.add_mul]
theorem scale_worth {k : Int} : ∀ {gs : List (List Int)} {us : List Int}, worthL (scaleG k gs) us = worthL gs us * k
  | [], us => by simp [scaleG, worthL]
  | g :: gs, [] => by simp [scaleG, worthL]
  | g :: gs, u :: us => by
    have ih := scale_worth (k := k) (gs := gs) (us := us)
    simp only [scaleG] at ih
    simp only [scaleG, List.map_cons, worthL, ih, Int.add_mul]
    rw [← List.map_take, map_mul_sum]
theorem scale_ok {k : Int} (hk : 0 < k) {fl : List Int} {gs : List (List Int)} {us : List Int} {a : Int} {i : Nat} : okB fl (scaleG k gs) us a i = okB fl gs us a i := by
  have h1 : ∀ x : Int, (0 < x * k) = (0 < x) := fun x => propext ⟨fun h => by
    rcases Int.lt_or_le 0 x with h1 | h1
    · exact h1
    · have := Int.mul_nonpos_of_nonpos_of_nonneg h1 (Int.le_of_lt hk); omega, fun h => Int.mul_pos h hk⟩
  have h2 : ∀ x y : Int, (x * k ≤ y * k) = (x ≤ y) := fun x y => propext (Int.mul_le_mul_right hk)
  simp only [okB, scaleG_get, map_mul_get, List.length_map, h1, h2]
theorem scale_pk {k : Int} (hk : 0 < k) {fl : List Int} {gs : List (List Int)} {us : List Int} : ∀ {n : Nat}, pk fl (scaleG k gs) us n = pk fl gs us n
  | 0 => rfl
  | n + 1 => by simp only [pk, scale_pk hk (n := n), scale_ok hk]
theorem scale_room {k : Int} : ∀ {gs : List (List Int)} {us : List Int}, room (scaleG k gs) us = room gs us
  | [], us => rfl
  | g :: gs, [] => rfl
  | g :: gs, u :: us => by
    have ih := scale_room (k := k) (gs := gs) (us := us)
    simp only [scaleG] at ih
    simp only [scaleG, List.map_cons, room, ih, List.length_map]
theorem scale_bestF {k : Int} (hk : 0 < k) {fl : List Int} {gs : List (List Int)} : ∀ {n : Nat} {us : List Int}, bestF fl (scaleG k gs) n us = bestF fl gs n us
  | 0, us => rfl
  | n + 1, us => by simp only [bestF, scaleG_len, scale_pk hk, scale_bestF hk (n := n)]
theorem scale_best {k : Int} (hk : 0 < k) {fl : List Int} {gs : List (List Int)} : bestL fl (scaleG k gs) = bestL fl gs := by
  simp only [bestL, scale_bestF hk, scale_room]
theorem scale_val {k : Int} (hk : 0 < k) {fl : List Int} {gs : List (List Int)} : val fl (scaleG k gs) = val fl gs * k := by
  simp only [val, scale_best hk, scale_worth]
theorem scale_take {k : Int} {gs : List (List Int)} {n : Nat} : (scaleG k gs).take n = scaleG k (gs.take n) := by
  simp [scaleG, List.map_take]
theorem scale_last {k : Int} (hk : 0 < k) {fl : List Int} {gs : List (List Int)} {n : Nat} : lastV fl (scaleG k gs) n = lastV fl gs n * k := by
  cases n with
  | zero => simp [lastV]
  | succ n => simp only [lastV, scale_take, scale_val hk]
theorem sharesT_get {fl : List Int} {gs : List (List Int)} {i : Nat} : ∀ {n : Nat}, i < n → (sharesT fl gs n).getD i 0 = lastV fl gs (i + 1) - lastV fl gs i
  | 0, h => by omega
  | n + 1, h => by
    rw [sharesT_succ, List.getD_eq_getElem?_getD]
    by_cases e : i < n
    · rw [List.getElem?_append_left (by rw [sharesT_len]; exact e), ← List.getD_eq_getElem?_getD, sharesT_get e]
    · have : i = n := by omega
      subst this
      rw [List.getElem?_append_right (by rw [sharesT_len]; exact Nat.le_refl _), sharesT_len, Nat.sub_self]
      rfl
theorem scale_shares {k : Int} (hk : 0 < k) {fl : List Int} {gs : List (List Int)} {n i : Nat} (hi : i < n) : (sharesT fl (scaleG k gs) n).getD i 0 = (sharesT fl gs n).getD i 0 * k := by
  rw [sharesT_get hi, sharesT_get hi, scale_last hk, scale_last hk, Int.sub_mul]
theorem scale_prices {k : Int} (hk : 0 < k) {fl : List Int} {gs : List (List Int)} {n i : Nat} (hi : i < n) : (pricesT fl (scaleG k gs) n).getD i 0 = (pricesT fl gs n).getD i 0 * k := by
  rw [pricesT_get hi, pricesT_get hi, scale_val hk, scale_val hk, Int.sub_mul]
/-- Without water nothing is used. -/
theorem dry {n : Nat} {gs : List (List Int)} (h : Riv (List.replicate n 0) gs) : bestL (List.replicate n 0) gs = List.replicate n 0 ∧ val (List.replicate n 0) gs = 0 := by
  have hb := h.best_len
  rw [List.length_replicate] at hb
  have hp := (poss_iff (by rw [hb, List.length_replicate])).1 h.best_poss
  have hz : ∀ m, pre (List.replicate n (0 : Int)) m = 0 := fun m => by
    unfold pre
    rw [List.take_replicate]
    generalize min (m + 1) n = q
    induction q with
    | zero => rfl
    | succ q ih => rw [List.replicate_succ, List.sum_cons, ih]; rfl
  have h0 : ∀ i, i < (bestL (List.replicate n 0) gs).length → 0 ≤ (bestL (List.replicate n 0) gs).getD i 0 := fun i hi => (h.best_val i hi).1
  have key : ∀ (us : List Int), (∀ i, i < us.length → 0 ≤ us.getD i 0) → (∀ m, m < us.length → pre us m ≤ 0) → us = List.replicate us.length 0 := by
    intro us
    induction us with
    | nil => intro _ _; rfl
    | cons u us ih =>
      intro h1 h2
      have h3 := h1 0 (by simp)
      have h4 := h2 0 (by simp)
      rw [pre_zero] at h4
      simp only [List.getD_cons_zero] at h3
      have h5 : u = 0 := by omega
      subst h5
      have := ih (fun i hi => by simpa using h1 (i + 1) (by simpa using hi)) (fun m hm => by
        have := h2 (m + 1) (by simpa using hm)
        rw [pre_succ] at this
        omega)
      rw [List.length_cons, List.replicate_succ, ← this]
  have e := key _ h0 (fun m hm => by have := hp m hm; rw [hz m] at this; omega)
  rw [hb] at e
  refine ⟨e, ?_⟩
  have hw : ∀ (gs : List (List Int)) (m : Nat), worthL gs (List.replicate m 0) = 0 := by
    intro gs
    induction gs with
    | nil => intro m; cases m <;> simp [worthL]
    | cons g gs ih =>
      intro m
      cases m with
      | zero => simp [worthL]
      | succ m => simp [List.replicate_succ, worthL, ih]
  rw [val, e, hw]
theorem gOk_iff {l : List Int} : gOk l = true ↔ l.length ≤ 20 ∧ (∀ j, j < l.length → 0 ≤ l.getD j 0 ∧ l.getD j 0 ≤ 1000) ∧ ∀ k, k + 1 < l.length → l.getD (k + 1) 0 ≤ l.getD k 0 := by
  simp only [gOk, Bool.and_eq_true, decide_eq_true_eq, desc_iff, and_assoc]
  refine and_congr_right fun _ => and_congr_left fun _ => ⟨fun h j hj => within_get h j hj, fun h => ?_⟩
  unfold within
  rw [Bool.not_eq_true', List.any_eq_false]
  intro x hx
  obtain ⟨j, hj, rfl⟩ := List.getElem_of_mem hx
  have := h j hj
  rw [List.getD_eq_getElem?_getD, List.getElem?_eq_getElem hj] at this
  simp only [Option.getD_some] at this
  simp only [Bool.or_eq_true, decide_eq_true_eq]
  omega
/-- A fourth of each gain. -/
def q4 (gs : List (List Int)) : List (List Int) := gs.map fun l => l.map fun x => x.tdiv 4
theorem q4_get {gs : List (List Int)} {i : Nat} : (q4 gs).getD i [] = (gs.getD i []).map fun x => x.tdiv 4 := by
  rw [q4, List.getD_eq_getElem?_getD, List.getD_eq_getElem?_getD, List.getElem?_map]
  cases gs[i]? <;> rfl
theorem map_q4_get {l : List Int} {j : Nat} : (l.map fun x => x.tdiv 4).getD j 0 = (l.getD j 0).tdiv 4 := by
  rw [List.getD_eq_getElem?_getD, List.getD_eq_getElem?_getD, List.getElem?_map]
  cases l[j]? <;> simp
theorem q4_bound {x k : Int} (h0 : 0 ≤ x) (h1 : x ≤ 1000) (hk : 1 ≤ k ∧ k ≤ 4) : 0 ≤ x.tdiv 4 * k ∧ x.tdiv 4 * k ≤ 1000 := by
  rw [Int.tdiv_eq_ediv_of_nonneg h0]
  have : k = 1 ∨ k = 2 ∨ k = 3 ∨ k = 4 := by omega
  rcases this with rfl | rfl | rfl | rfl <;> omega
theorem q4_mono {x y k : Int} (h0 : 0 ≤ x) (h1 : x ≤ y) (hk : 1 ≤ k ∧ k ≤ 4) : x.tdiv 4 * k ≤ y.tdiv 4 * k := by
  rw [Int.tdiv_eq_ediv_of_nonneg h0, Int.tdiv_eq_ediv_of_nonneg (by omega)]
  have : k = 1 ∨ k = 2 ∨ k = 3 ∨ k = 4 := by omega
  rcases this with rfl | rfl | rfl | rfl <;> omega
theorem q4_ok {fl : List Int} {gs : List (List Int)} {k : Int} (hk : 1 ≤ k ∧ k ≤ 4) (h : riverOk fl gs = true) : riverOk fl (scaleG k (q4 gs)) = true := by
  simp only [riverOk, Bool.and_eq_true, decide_eq_true_eq] at h ⊢
  obtain ⟨⟨⟨⟨h1, h2⟩, h3⟩, h4⟩, h5⟩ := h
  refine ⟨⟨⟨⟨h1, h2⟩, by rw [scaleG_len, q4, List.length_map]; exact h3⟩, h4⟩, ?_⟩
  refine List.all_eq_true.2 fun l hl => ?_
  obtain ⟨l1, hl1, rfl⟩ := List.mem_map.1 hl
  obtain ⟨l2, hl2, rfl⟩ := List.mem_map.1 hl1
  obtain ⟨g1, g2, g3⟩ := gOk_iff.1 (List.all_eq_true.1 h5 l2 hl2)
  refine gOk_iff.2 ⟨by simpa using g1, fun j hj => ?_, fun j hj => ?_⟩
  · rw [map_mul_get, map_q4_get]
    have := g2 j (by simpa using hj)
    exact q4_bound this.1 this.2 hk
  · rw [map_mul_get, map_q4_get, map_mul_get, map_q4_get]
    have h6 := g2 (j + 1) (by simpa using hj)
    exact q4_mono h6.1 (g3 j (by simpa using hj)) hk
theorem scaleG_one {gs : List (List Int)} : scaleG 1 gs = gs := by
  simp [scaleG]
theorem dry_ok {fl : List Int} {gs : List (List Int)} (h : riverOk fl gs = true) : riverOk (List.replicate fl.length 0) gs = true := by
  simp only [riverOk, Bool.and_eq_true, decide_eq_true_eq, List.length_replicate] at h ⊢
  obtain ⟨⟨⟨⟨h1, h2⟩, h3⟩, h4⟩, h5⟩ := h
  refine ⟨⟨⟨⟨h1, h2⟩, h3⟩, ?_⟩, h5⟩
  unfold within
  rw [Bool.not_eq_true', List.any_eq_false]
  intro x hx
  rw [List.eq_of_mem_replicate hx]
  decide
end Go.Proofs.Ytohfemfgnohhdaa
/- What groups are worth alone and aspire to, by tables: the mathematics. No condition. -/
namespace Go.Proofs.Ytohfemfgnohhdaa
open Go Go.Vc
set_option linter.unusedVariables false
set_option linter.unusedSimpArgs false

theorem mxF_at {k : Nat → Int} {n : Nat} (hn : 0 < n) (h0 : 0 ≤ k 0) : ∃ x, x < n ∧ mxF k n = k x := by
  rcases mxF_attain (k := k) (n := n) with h | h
  · exact h
  · have := mxF_ge (k := k) hn
    exact ⟨0, hn, by omega⟩
theorem mxF_le {k k' : Nat → Int} {n m : Nat} (hnm : n ≤ m) (h : ∀ x, x < n → k x ≤ k' x) : mxF k n ≤ mxF k' m := by
  rcases mxF_attain (k := k) (n := n) with ⟨x, h1, h2⟩ | h1
  · have := h x h1
    have := mxF_ge (k := k') (n := m) (x := x) (by omega)
    omega
  · have := mxF_nonneg (k := k') (n := m)
    omega
theorem mxF_add {k : Nat → Int} {C : Int} {n : Nat} (hn : 0 < n) (h0 : 0 ≤ k 0) (hC : 0 ≤ C) : mxF (fun x => k x + C) n = mxF k n + C := by
  obtain ⟨x, h1, h2⟩ := mxF_at hn h0
  obtain ⟨y, h3, h4⟩ := mxF_at (k := fun x => k x + C) hn (show 0 ≤ k 0 + C by omega)
  have h5 := mxF_ge (k := fun x => k x + C) h1
  have h6 := mxF_ge (k := k) h3
  omega
theorem cntL_pos {f : Int} {g : List Int} {w : Int} : 0 < cntL f g w := by unfold cntL; omega
theorem cntL_mono {f : Int} {g : List Int} {w w' : Int} (h : w ≤ w') : cntL f g w ≤ cntL f g w' := by unfold cntL; omega
theorem cntL_x {f : Int} {g : List Int} {w : Int} {x : Nat} (h : x < cntL f g w) (hw : 0 ≤ w + f) : (x : Int) ≤ w + f := by unfold cntL at h; omega
/-- The greatest worth of the places of a group, from place i on, alone; and when all water comes to them. -/
def mA (S : Nat → Bool) : Nat → List Int → List (List Int) → Int → Int
  | i, f :: fs, g :: gs, w => if S i = true then mxF (fun x => (g.take x).sum + mA S (i + 1) fs gs (w + f - x)) (cntL f g w) else mA S (i + 1) fs gs 0
  | _, _, _, _ => 0
def mP (S : Nat → Bool) : Nat → List Int → List (List Int) → Int → Int
  | i, f :: fs, g :: gs, w => if S i = true then mxF (fun x => (g.take x).sum + mP S (i + 1) fs gs (w + f - x)) (cntL f g w) else mP S (i + 1) fs gs (w + f)
  | _, _, _, _ => 0
theorem mA_nonneg {S : Nat → Bool} : ∀ {i : Nat} {fs : List Int} {gs : List (List Int)} {w : Int}, 0 ≤ mA S i fs gs w
  | i, f :: fs, g :: gs, w => by
    simp only [mA]
    split
    · exact mxF_nonneg
    · exact mA_nonneg
  | _, [], _, _ => by simp [mA]
  | _, _ :: _, [], _ => by simp [mA]
theorem mP_nonneg {S : Nat → Bool} : ∀ {i : Nat} {fs : List Int} {gs : List (List Int)} {w : Int}, 0 ≤ mP S i fs gs w
  | i, f :: fs, g :: gs, w => by
    simp only [mP]
    split
    · exact mxF_nonneg
    · exact mP_nonneg
  | _, [], _, _ => by simp [mP]
  | _, _ :: _, [], _ => by simp [mP]
theorem mA_mono {S : Nat → Bool} : ∀ {i : Nat} {fs : List Int} {gs : List (List Int)} {w w' : Int}, w ≤ w' → mA S i fs gs w ≤ mA S i fs gs w'
  | i, f :: fs, g :: gs, w, w', h => by
    simp only [mA]
    split
    · refine mxF_le (cntL_mono h) fun x _ => ?_
      have := mA_mono (S := S) (i := i + 1) (fs := fs) (gs := gs) (w := w + f - x) (w' := w' + f - x) (by omega)
      omega
    · exact Int.le_refl _
  | _, [], _, _, _, _ => by simp [mA]
  | _, _ :: _, [], _, _, _ => by simp [mA]
theorem mP_mono {S : Nat → Bool} : ∀ {i : Nat} {fs : List Int} {gs : List (List Int)} {w w' : Int}, w ≤ w' → mP S i fs gs w ≤ mP S i fs gs w'
  | i, f :: fs, g :: gs, w, w', h => by
    simp only [mP]
    split
    · refine mxF_le (cntL_mono h) fun x _ => ?_
      have := mP_mono (S := S) (i := i + 1) (fs := fs) (gs := gs) (w := w + f - x) (w' := w' + f - x) (by omega)
      omega
    · exact mP_mono (by omega)
  | _, [], _, _, _, _ => by simp [mP]
  | _, _ :: _, [], _, _, _ => by simp [mP]
theorem Sfx.take0 {f : Int} {fs : List Int} {g : List Int} {gs : List (List Int)} (h : Sfx (f :: fs) (g :: gs)) (k : Nat) : 0 ≤ (g.take k).sum := take_sum_nonneg h.tail.2.2 k
/-- Two groups without a common place are worth together at least what they are worth alone. -/
theorem mA_union {S T U : Nat → Bool} (hU : ∀ i, U i = (S i || T i)) (hd : ∀ i, S i = true → T i = false) : ∀ {i : Nat} {fs : List Int} {gs : List (List Int)} {a b w : Int}, Sfx fs gs → 0 ≤ a → 0 ≤ b → a + b ≤ w →
    mA S i fs gs a + mA T i fs gs b ≤ mA U i fs gs w
  | i, f :: fs, g :: gs, a, b, w, hs, ha, hb, hw => by
    have ht := hs.tail
    simp only [mA, hU]
    cases hS : S i with
    | true =>
      have hT := hd i hS
      rw [hT]
      rw [if_pos rfl, if_neg (by simp), if_pos (by simp)]
      obtain ⟨x, h1, h2⟩ := mxF_at (k := fun x => (g.take x).sum + mA S (i + 1) fs gs (a + f - x)) (n := cntL f g a) cntL_pos (by
        have := mA_nonneg (S := S) (i := i + 1) (fs := fs) (gs := gs) (w := a + f - (0 : Nat))
        have := hs.take0 0
        omega)
      rw [h2]
      have hx := cntL_x h1 (by omega)
      have h3 := mxF_ge (k := fun x => (g.take x).sum + mA U (i + 1) fs gs (w + f - x)) (n := cntL f g w) (x := x) (Nat.lt_of_lt_of_le h1 (cntL_mono (by omega)))
      have h4 := mA_union hU hd (i := i + 1) (fs := fs) (gs := gs) (a := a + f - x) (b := 0) (w := w + f - x) ht.1 (by omega) (by omega) (by omega)
      omega
    | false =>
      cases hT : T i with
      | true =>
        rw [if_neg (by simp), if_pos rfl, if_pos (by simp)]
        obtain ⟨x, h1, h2⟩ := mxF_at (k := fun x => (g.take x).sum + mA T (i + 1) fs gs (b + f - x)) (n := cntL f g b) cntL_pos (by
          have := mA_nonneg (S := T) (i := i + 1) (fs := fs) (gs := gs) (w := b + f - (0 : Nat))
          have := hs.take0 0
          omega)
        rw [h2]
        have hx := cntL_x h1 (by omega)
        have h3 := mxF_ge (k := fun x => (g.take x).sum + mA U (i + 1) fs gs (w + f - x)) (n := cntL f g w) (x := x) (Nat.lt_of_lt_of_le h1 (cntL_mono (by omega)))
        have h4 := mA_union hU hd (i := i + 1) (fs := fs) (gs := gs) (a := 0) (b := b + f - x) (w := w + f - x) ht.1 (by omega) (by omega) (by omega)
        omega
      | false =>
        rw [if_neg (by simp), if_neg (by simp), if_neg (by simp)]
        exact mA_union hU hd ht.1 (by omega) (by omega) (by omega)
  | _, [], _, _, _, _, _, _, _, _ => by simp [mA]
  | _, _ :: _, [], _, _, _, _, _, _, _ => by simp [mA]
/-- What a group aspires to never rises by more than the other one aspires to. -/
theorem mP_union {S T U : Nat → Bool} (hU : ∀ i, U i = (S i || T i)) (hd : ∀ i, S i = true → T i = false) : ∀ {i : Nat} {fs : List Int} {gs : List (List Int)} {w : Int}, Sfx fs gs → 0 ≤ w →
    mP U i fs gs w ≤ mP S i fs gs w + mP T i fs gs w
  | i, f :: fs, g :: gs, w, hs, hw => by
    have ht := hs.tail
    simp only [mP, hU]
    cases hS : S i with
    | true =>
      have hT := hd i hS
      rw [hT]
      rw [if_pos (by simp), if_pos rfl, if_neg (by simp)]
      obtain ⟨x, h1, h2⟩ := mxF_at (k := fun x => (g.take x).sum + mP U (i + 1) fs gs (w + f - x)) (n := cntL f g w) cntL_pos (by
        have := mP_nonneg (S := U) (i := i + 1) (fs := fs) (gs := gs) (w := w + f - (0 : Nat))
        have := hs.take0 0
        omega)
      rw [h2]
      have hx := cntL_x h1 (by omega)
      have h3 := mxF_ge (k := fun x => (g.take x).sum + mP S (i + 1) fs gs (w + f - x)) h1
      have h4 := mP_union hU hd (i := i + 1) (fs := fs) (gs := gs) (w := w + f - x) ht.1 (by omega)
      have h5 := mP_mono (S := T) (i := i + 1) (fs := fs) (gs := gs) (w := w + f - x) (w' := w + f) (by omega)
      omega
    | false =>
      cases hT : T i with
      | true =>
        rw [if_pos (by simp), if_neg (by simp), if_pos rfl]
        obtain ⟨x, h1, h2⟩ := mxF_at (k := fun x => (g.take x).sum + mP U (i + 1) fs gs (w + f - x)) (n := cntL f g w) cntL_pos (by
          have := mP_nonneg (S := U) (i := i + 1) (fs := fs) (gs := gs) (w := w + f - (0 : Nat))
          have := hs.take0 0
          omega)
        rw [h2]
        have hx := cntL_x h1 (by omega)
        have h3 := mxF_ge (k := fun x => (g.take x).sum + mP T (i + 1) fs gs (w + f - x)) h1
        have h4 := mP_union hU hd (i := i + 1) (fs := fs) (gs := gs) (w := w + f - x) ht.1 (by omega)
        have h5 := mP_mono (S := S) (i := i + 1) (fs := fs) (gs := gs) (w := w + f - x) (w' := w + f) (by omega)
        omega
      | false =>
        rw [if_neg (by simp), if_neg (by simp), if_neg (by simp)]
        exact mP_union hU hd ht.1 (by omega)
  | _, [], _, _, _, _ => by simp [mP]
  | _, _ :: _, [], _, _, _ => by simp [mP]
theorem mA_mP {S : Nat → Bool} : ∀ {i : Nat} {fs : List Int} {gs : List (List Int)} {w w' : Int}, Sfx fs gs → 0 ≤ w' → w ≤ w' → mA S i fs gs w ≤ mP S i fs gs w'
  | i, f :: fs, g :: gs, w, w', hs, h0, hw => by
    have ht := hs.tail
    simp only [mA, mP]
    split
    · refine mxF_le (cntL_mono hw) fun x hx => ?_
      have hx := cntL_x (Nat.lt_of_lt_of_le hx (cntL_mono hw)) (by omega)
      have := mA_mP (S := S) (i := i + 1) (fs := fs) (gs := gs) (w := w + f - x) (w' := w' + f - x) ht.1 (by omega) (by omega)
      omega
    · exact mA_mP ht.1 (by omega) (by omega)
  | _, [], _, _, _, _, _, _ => by simp [mA, mP]
  | _, _ :: _, [], _, _, _, _, _ => by simp [mA, mP]
/-- The gains of a group's places only. -/
def maskG (S : Nat → Bool) : Nat → List (List Int) → List (List Int)
  | _, [] => []
  | i, g :: gs => (if S i = true then g else []) :: maskG S (i + 1) gs
theorem maskG_len {S : Nat → Bool} : ∀ {i : Nat} {gs : List (List Int)}, (maskG S i gs).length = gs.length
  | _, [] => rfl
  | i, g :: gs => by simp [maskG, maskG_len]
theorem maskG_get {S : Nat → Bool} : ∀ {i j : Nat} {gs : List (List Int)}, (maskG S i gs).getD j [] = if S (i + j) = true then gs.getD j [] else []
  | _, _, [] => by simp [maskG]
  | i, 0, g :: gs => by simp [maskG]
  | i, j + 1, g :: gs => by
    simp only [maskG, List.getD_cons_succ]
    rw [maskG_get, show i + 1 + j = i + (j + 1) from by omega]
theorem mP_mx {S : Nat → Bool} : ∀ {i : Nat} {fs : List Int} {gs : List (List Int)} {w : Int}, Sfx fs gs → 0 ≤ w → mP S i fs gs w = mx fs (maskG S i gs) w
  | i, f :: fs, g :: gs, w, hs, hw => by
    have ht := hs.tail
    simp only [mP, maskG, mx]
    split
    · have ex : ∀ x, x < cntL f g w → (g.take x).sum + mP S (i + 1) fs gs (w + f - x) = (g.take x).sum + mx fs (maskG S (i + 1) gs) (w + f - x) := fun x hx => by
        have hx := cntL_x hx (by omega)
        rw [mP_mx ht.1 (by omega)]
      exact mxF_congr ex
    · have e : cntL f [] w = 1 := by simp only [cntL, List.length_nil]; omega
      rw [e]
      have := mx_nonneg (fs := fs) (gs := maskG S (i + 1) gs) (w := w + f)
      have e2 : w + f - ((0 : Nat) : Int) = w + f := by omega
      simp only [mxF, List.take_nil, List.sum_nil, e2]
      rw [mP_mx ht.1 (by omega)]
      omega
  | _, [], gs, _, _, _ => by cases gs <;> simp [mP, mx, maskG]
  | _, _ :: _, [], _, _, _ => by simp [mP, mx, maskG]
/-- A row of places, and what follows behind a gap. -/
theorem mA_run {S : Nat → Bool} : ∀ {k i : Nat} {fs : List Int} {gs : List (List Int)} {w : Int}, k ≤ fs.length → Sfx fs gs → 0 ≤ w → (∀ j, j < k → S (i + j) = true) → (k < fs.length → S (i + k) = false) →
    mA S i fs gs w = mx (fs.take k) (gs.take k) w + mA S (i + k) (fs.drop k) (gs.drop k) 0
  | 0, i, fs, gs, w, _, hs, hw, h1, h2 => by
    simp only [List.take_zero, List.drop_zero, mx, Nat.add_zero, Int.zero_add]
    cases fs with
    | nil => simp [mA]
    | cons f fs =>
      cases gs with
      | nil => simp [mA]
      | cons g gs =>
        have := h2 (by simp)
        simp only [Nat.add_zero] at this
        simp only [mA, this, Bool.false_eq_true, if_false]
  | k + 1, i, [], gs, w, hk, _, _, _, _ => by simp at hk
  | k + 1, i, f :: fs, [], w, _, hs, _, _, _ => by have := hs.len; simp at this
  | k + 1, i, f :: fs, g :: gs, w, hk, hs, hw, h1, h2 => by
    have ht := hs.tail
    have h3 := h1 0 (by omega)
    simp only [Nat.add_zero] at h3
    simp only [mA, h3, if_true, List.take_succ_cons, List.drop_succ_cons, mx]
    have e : ∀ x, x < cntL f g w → (g.take x).sum + mA S (i + 1) fs gs (w + f - x) = ((g.take x).sum + mx (fs.take k) (gs.take k) (w + f - x)) + mA S (i + 1 + k) (fs.drop k) (gs.drop k) 0 := fun x hx => by
      have hx := cntL_x hx (by omega)
      rw [mA_run (k := k) (by simpa using hk) ht.1 (by omega) (fun j hj => by rw [show i + 1 + j = i + (j + 1) from by omega]; exact h1 (j + 1) (by omega)) (fun hj => by rw [show i + 1 + k = i + (k + 1) from by omega]; exact h2 (by simpa using hj))]
      omega
    rw [mxF_congr e, mxF_add cntL_pos (by
      have := mx_nonneg (fs := fs.take k) (gs := gs.take k) (w := w + f - (0 : Nat))
      have := hs.take0 0
      omega) mA_nonneg]
    rw [show i + 1 + k = i + (k + 1) from by omega]
theorem mA_skip {S : Nat → Bool} : ∀ {k i : Nat} {fs : List Int} {gs : List (List Int)}, (∀ j, j < k → S (i + j) = false) → mA S i fs gs 0 = mA S (i + k) (fs.drop k) (gs.drop k) 0
  | 0, i, fs, gs, _ => rfl
  | k + 1, i, [], gs, _ => by simp [mA]
  | k + 1, i, f :: fs, [], _ => by simp [mA]
  | k + 1, i, f :: fs, g :: gs, h => by
    have h3 := h 0 (by omega)
    simp only [Nat.add_zero] at h3
    simp only [mA, h3, Bool.false_eq_true, if_false, List.drop_succ_cons]
    rw [mA_skip (k := k) fun j hj => by rw [show i + 1 + j = i + (j + 1) from by omega]; exact h (j + 1) (by omega), show i + 1 + k = i + (k + 1) from by omega]
/-- Is a place in a group? -/
def inG (g : List Int) (i : Nat) : Bool := decide ((i : Int) ∈ g)
end Go.Proofs.Ytohfemfgnohhdaa
/- What groups are worth alone and aspire to are what tables say: the mathematics. No condition. -/
namespace Go.Proofs.Ytohfemfgnohhdaa
open Go Go.Vc
set_option linter.unusedVariables false
set_option linter.unusedSimpArgs false

theorem inG_iff {g : List Int} {i : Nat} : inG g i = true ↔ ∃ j, j < g.length ∧ g.getD j 0 = (i : Int) := by
  simp only [inG, decide_eq_true_eq, List.mem_iff_getElem]
  constructor
  · rintro ⟨j, hj, e⟩
    exact ⟨j, hj, by rw [List.getD_eq_getElem?_getD, List.getElem?_eq_getElem hj]; exact e⟩
  · rintro ⟨j, hj, e⟩
    exact ⟨j, hj, by rw [List.getD_eq_getElem?_getD, List.getElem?_eq_getElem hj] at e; exact e⟩
theorem inG_false {g : List Int} {i : Nat} : inG g i = false ↔ ∀ j, j < g.length → g.getD j 0 ≠ (i : Int) := by
  rw [← Bool.not_eq_true, inG_iff]
  exact ⟨fun h j hj e => h ⟨j, hj, e⟩, fun h ⟨j, hj, e⟩ => h j hj e⟩
theorem runT_spec : ∀ {a : Int} {r : List Int}, (∀ j, j < runT a r → r.getD j 0 = a + j + 1) ∧ (runT a r < r.length → r.getD (runT a r) 0 ≠ a + (runT a r : Int) + 1)
  | a, [] => ⟨fun j h => by simp [runT] at h, fun h => by simp [runT] at h⟩
  | a, b :: r => by
    have ih := runT_spec (a := b) (r := r)
    simp only [runT]
    split
    · rename_i e
      refine ⟨fun j hj => ?_, fun hj => ?_⟩
      · cases j with
        | zero => simp only [List.getD_cons_zero]; omega
        | succ j =>
          have := ih.1 j (by omega)
          rw [List.getD_cons_succ, this]
          omega
      · rw [List.getD_cons_succ]
        have := ih.2 (by simpa using hj)
        omega
    · rename_i e
      refine ⟨fun j hj => by omega, fun _ => ?_⟩
      simp only [List.getD_cons_zero]
      omega
theorem Grp.drop {n : Nat} {g : List Int} (h : Grp n g) (k : Nat) : Grp n (g.drop k) := by
  refine ⟨fun i hi => ?_, fun i hi => ?_⟩
  · rw [List.length_drop] at hi
    rw [getD_drop]
    exact h.val _ (by omega)
  · rw [List.length_drop] at hi
    rw [getD_drop, getD_drop]
    exact h.rise (k + i) (by omega)
theorem alone_mA {fl : List Int} {gs : List (List Int)} (h : Riv fl gs) {S : Nat → Bool} : ∀ (m : Nat) {g : List Int} {p : Nat}, g.length ≤ m → Grp fl.length g → (∀ j, j < g.length → (p : Int) ≤ g.getD j 0) → (∀ i, p ≤ i → S i = inG g i) →
    aloneL fl gs g = mA S p (fl.drop p) (gs.drop p) 0 := by
  intro m
  induction m with
  | zero =>
    intro g p hm hg hp hS
    have : g = [] := List.eq_nil_of_length_eq_zero (by omega)
    subst this
    rw [mA_skip (k := (fl.drop p).length) (fun j _ => by rw [hS _ (by omega)]; rfl)]
    rw [List.drop_drop, show List.drop (p + (fl.drop p).length) fl = [] from List.drop_eq_nil_of_le (by rw [List.length_drop]; omega)]
    simp [aloneL, aloneF, mA]
  | succ m ih =>
    intro g p hm hg hp hS
    cases g with
    | nil =>
      rw [mA_skip (k := (fl.drop p).length) (fun j _ => by rw [hS _ (by omega)]; rfl)]
      rw [List.drop_drop, show List.drop (p + (fl.drop p).length) fl = [] from List.drop_eq_nil_of_le (by rw [List.length_drop]; omega)]
      simp [aloneL, aloneF, mA]
    | cons a r =>
      have h0 := hp 0 (by simp)
      have hv0 := hg.val 0 (by simp)
      simp only [List.getD_cons_zero] at h0 hv0
      obtain ⟨A, hA⟩ : ∃ A : Nat, (A : Int) = a := ⟨a.toNat, by omega⟩
      obtain ⟨n, hn⟩ : ∃ n, n = runT a r + 1 := ⟨_, rfl⟩
      have hsp := runT_spec (a := a) (r := r)
      have hle := runT_le (a := a) (r := r)
      have hidx : ∀ j, j < n → (a :: r).getD j 0 = a + j := fun j hj => by
        cases j with
        | zero => simp
        | succ j =>
          rw [List.getD_cons_succ, hsp.1 j (by omega)]
          omega
      have hbig : ∀ j, n ≤ j → j < (a :: r).length → a + n + 1 ≤ (a :: r).getD j 0 := fun j hj hl => by
        simp only [List.length_cons] at hl
        have h1 := hsp.2 (by omega)
        have h2 : (a :: r).getD n 0 = r.getD (runT a r) 0 := by rw [hn, List.getD_cons_succ]
        have h3 := hidx (n - 1) (by omega)
        have h4 := hg.rise (n - 1) (by simp only [List.length_cons]; omega)
        rw [show n - 1 + 1 = n from by omega] at h4
        by_cases e : j = n
        · subst e; omega
        · have := hg.mono (i := n) (j := j) (by omega) (by simp only [List.length_cons]; omega)
          omega
      have hAp : p ≤ A := by omega
      have hlast := hg.val (n - 1) (by simp only [List.length_cons]; omega)
      rw [hidx _ (by omega)] at hlast
      have hnl : A + n ≤ fl.length := by omega
      rw [mA_skip (k := A - p) (fun j hj => by
        rw [hS _ (by omega), inG_false]
        intro i hi e
        by_cases c : i < n
        · rw [hidx i c] at e; omega
        · have := hbig i (by omega) hi; omega)]
      rw [List.drop_drop, List.drop_drop, show p + (A - p) = A from by omega]
      rw [mA_run (k := n) (by rw [List.length_drop]; omega) (h.sfx.drop A) (Int.le_refl 0) (fun j hj => by
        rw [hS _ (by omega), inG_iff]
        exact ⟨j, by simp only [List.length_cons]; omega, by rw [hidx j hj]; omega⟩) (fun _ => by
        rw [hS _ (by omega), inG_false]
        intro i hi e
        by_cases c : i < n
        · rw [hidx i c] at e; omega
        · have := hbig i (by omega) hi; omega)]
      rw [aloneL_cons, ← hn]
      have hrow : rowV fl gs a.toNat n = mx ((fl.drop A).take n) ((gs.drop A).take n) 0 := by
        rw [show a.toNat = A from by omega, rowV, ← (h.part A (A + n)).mx, List.drop_take, List.drop_take, show A + n - A = n from by omega]
      rw [hrow, List.drop_drop, List.drop_drop]
      have hdr : r.drop (runT a r) = (a :: r).drop n := by rw [hn, List.drop_succ_cons]
      rw [hdr]
      rw [ih (g := (a :: r).drop n) (p := A + n) (by rw [List.length_drop]; simp only [List.length_cons] at hm ⊢; omega) (hg.drop n) (fun j hj => by
        rw [getD_drop]
        rw [List.length_drop] at hj
        have := hbig (n + j) (by omega) (by omega)
        omega) (fun i hi => by
        rw [hS i (by omega)]
        apply Bool.eq_iff_iff.2
        rw [inG_iff, inG_iff]
        constructor
        · rintro ⟨j, hj, e⟩
          have hjn : n ≤ j := by
            refine Nat.le_of_not_lt fun c => ?_
            rw [hidx j c] at e
            omega
          exact ⟨j - n, by rw [List.length_drop]; omega, by rw [getD_drop, show n + (j - n) = j from by omega]; exact e⟩
        · rintro ⟨j, hj, e⟩
          rw [List.length_drop] at hj
          rw [getD_drop] at e
          exact ⟨n + j, by omega, e⟩)]
theorem alone_eq {fl : List Int} {gs : List (List Int)} (h : Riv fl gs) {g : List Int} (hg : Grp fl.length g) : aloneL fl gs g = mA (inG g) 0 fl gs 0 :=
  alone_mA h g.length (Nat.le_refl _) hg (fun j hj => by have := hg.val j hj; omega) (fun _ _ => rfl)
theorem foldl_mask {gs : List (List Int)} {j : Nat} : ∀ {g : List Int} {l : List (List Int)}, (∀ i, i < g.length → 0 ≤ g.getD i 0) → j < l.length →
    (g.foldl (fun l a => l.set a.toNat (gs.getD a.toNat [])) l).getD j [] = if inG g j = true then gs.getD j [] else l.getD j []
  | [], l, _, _ => by simp [inG]
  | a :: r, l, h, hj => by
    have h0 := h 0 (by simp)
    simp only [List.getD_cons_zero] at h0
    simp only [List.foldl_cons]
    rw [foldl_mask (g := r) (fun i hi => by have := h (i + 1) (by simpa using hi); simpa using this) (by rw [List.length_set]; exact hj)]
    by_cases c : inG r j = true
    · rw [if_pos c, if_pos]
      obtain ⟨i, hi, e⟩ := inG_iff.1 c
      exact inG_iff.2 ⟨i + 1, by simpa using hi, by simpa using e⟩
    · rw [if_neg c]
      by_cases ca : a = (j : Int)
      · rw [if_pos (inG_iff.2 ⟨0, by simp, by simpa using ca⟩)]
        rw [show a.toNat = j from by omega, getD_set hj, if_pos rfl]
      · rw [if_neg]
        · by_cases cl : a.toNat < l.length
          · rw [getD_set cl, if_neg (by omega)]
          · rw [List.set_eq_of_length_le (by omega)]
        · intro hin
          obtain ⟨i, hi, e⟩ := inG_iff.1 hin
          cases i with
          | zero => exact ca (by simpa using e)
          | succ i => exact c (inG_iff.2 ⟨i, by simpa using hi, by simpa using e⟩)
theorem ext_getD {α : Type} {d : α} {l m : List α} (hl : l.length = m.length) (h : ∀ i, i < l.length → l.getD i d = m.getD i d) : l = m := by
  refine List.ext_getElem hl fun i h1 h2 => ?_
  have := h i h1
  rw [List.getD_eq_getElem?_getD, List.getD_eq_getElem?_getD, List.getElem?_eq_getElem h1, List.getElem?_eq_getElem h2] at this
  exact this
theorem onlyL_mask {gs : List (List Int)} {n : Nat} {g : List Int} (hn : gs.length = n) (hg : Grp n g) : onlyL gs n g = maskG (inG g) 0 gs := by
  refine ext_getD (d := []) (by rw [onlyL_len, maskG_len, hn]) fun i hi => ?_
  rw [onlyL_len] at hi
  rw [maskG_get, onlyL, foldl_mask (fun i hi => (hg.val i hi).1) (by rw [List.length_replicate]; exact hi), Nat.zero_add]
  rw [List.getD_eq_getElem?_getD (l := List.replicate n []), List.getElem?_replicate, if_pos hi]
  rfl
theorem aspires_eq {fl : List Int} {gs : List (List Int)} (h : Riv fl gs) {g : List Int} (hg : Grp fl.length g) : val fl (onlyL gs fl.length g) = mP (inG g) 0 fl gs 0 := by
  rw [← (h.only g).mx, mP_mx h.sfx (Int.le_refl 0), onlyL_mask h.len.symm hg]
/-- The two groups of WaterTogether, and both together. -/
structure Two (n : Nat) (a b c : List Int) : Prop where
  ga : Grp n a
  gb : Grp n b
  gc : Grp n c
  u : ∀ i, inG c i = (inG a i || inG b i)
  d : ∀ i, inG a i = true → inG b i = false
theorem Two.alone {fl : List Int} {gs : List (List Int)} (h : Riv fl gs) {a b c : List Int} (t : Two fl.length a b c) : aloneL fl gs a + aloneL fl gs b ≤ aloneL fl gs c := by
  rw [alone_eq h t.ga, alone_eq h t.gb, alone_eq h t.gc]
  exact mA_union t.u t.d h.sfx (Int.le_refl 0) (Int.le_refl 0) (Int.le_refl 0)
theorem Two.aspires {fl : List Int} {gs : List (List Int)} (h : Riv fl gs) {a b c : List Int} (t : Two fl.length a b c) :
    val fl (onlyL gs fl.length c) ≤ val fl (onlyL gs fl.length a) + val fl (onlyL gs fl.length b) := by
  rw [aspires_eq h t.ga, aspires_eq h t.gb, aspires_eq h t.gc]
  exact mP_union t.u t.d h.sfx (Int.le_refl 0)
theorem alone_aspires {fl : List Int} {gs : List (List Int)} (h : Riv fl gs) {g : List Int} (hg : Grp fl.length g) : aloneL fl gs g ≤ val fl (onlyL gs fl.length g) := by
  rw [aspires_eq h hg, alone_eq h hg]
  exact mA_mP h.sfx (Int.le_refl 0) (Int.le_refl 0)
end Go.Proofs.Ytohfemfgnohhdaa
/- What places are due is fair: the mathematics. No condition. -/
namespace Go.Proofs.Ytohfemfgnohhdaa
open Go Go.Vc
set_option linter.unusedVariables false
set_option linter.unusedSimpArgs false

/-- Flows of which only h pieces are there. -/
def trF : List Int → Int → List Int
  | [], _ => []
  | f :: fs, h => min f h :: trF fs (h - min f h)
theorem trF_len : ∀ {fs : List Int} {h : Int}, (trF fs h).length = fs.length
  | [], _ => rfl
  | f :: fs, h => by simp [trF, trF_len]
theorem trF_val : ∀ {fs : List Int} {h : Int}, 0 ≤ h → (∀ i, i < fs.length → 0 ≤ fs.getD i 0 ∧ fs.getD i 0 ≤ 1000) → ∀ i, i < fs.length → 0 ≤ (trF fs h).getD i 0 ∧ (trF fs h).getD i 0 ≤ 1000
  | [], _, _, _, i, hi => by simp at hi
  | f :: fs, h, h0, hf, i, hi => by
    have hf0 := hf 0 (by simp)
    simp only [List.getD_cons_zero] at hf0
    cases i with
    | zero => simp only [trF, List.getD_cons_zero]; omega
    | succ i =>
      simp only [trF, List.getD_cons_succ]
      exact trF_val (by omega) (fun i hi => by have := hf (i + 1) (by simpa using hi); simpa using this) i (by simpa using hi)
theorem pre_nonneg : ∀ {us : List Int} {m : Nat}, (∀ i, i < us.length → 0 ≤ us.getD i 0) → 0 ≤ pre us m
  | [], m, _ => by simp [pre]
  | u :: us, 0, h => by have := h 0 (by simp); rw [pre_zero]; simpa using this
  | u :: us, m + 1, h => by
    have h0 := h 0 (by simp)
    have := pre_nonneg (us := us) (m := m) (fun i hi => by have := h (i + 1) (by simpa using hi); simpa using this)
    rw [pre_succ]
    simp only [List.getD_cons_zero] at h0
    omega
theorem trF_pre : ∀ {fs : List Int} {h : Int} {m : Nat}, 0 ≤ h → (∀ i, i < fs.length → 0 ≤ fs.getD i 0) → m < fs.length → pre (trF fs h) m = min (pre fs m) h
  | [], _, _, _, _, hm => by simp at hm
  | f :: fs, h, 0, h0, hf, hm => by simp only [trF, pre_zero]
  | f :: fs, h, m + 1, h0, hf, hm => by
    have hf0 := hf 0 (by simp)
    simp only [List.getD_cons_zero] at hf0
    have hf' : ∀ i, i < fs.length → 0 ≤ fs.getD i 0 := fun i hi => by have := hf (i + 1) (by simpa using hi); simpa using this
    have := pre_nonneg (m := m) hf'
    simp only [trF, pre_succ]
    rw [trF_pre (by omega) hf' (by simpa using hm)]
    omega
theorem trF_all : ∀ {fs : List Int} {h : Int}, (∀ i, i < fs.length → 0 ≤ fs.getD i 0) → fs.sum ≤ h → trF fs h = fs
  | [], _, _, _ => rfl
  | f :: fs, h, hf, hs => by
    have hf' : ∀ i, i < fs.length → 0 ≤ fs.getD i 0 := fun i hi => by have := hf (i + 1) (by simpa using hi); simpa using this
    have := sum_nonneg hf'
    simp only [List.sum_cons] at hs
    simp only [trF]
    rw [show min f h = f from by omega, trF_all hf' (by omega)]
theorem Riv.tr {fl : List Int} {gs : List (List Int)} (h : Riv fl gs) {k : Int} (hk : 0 ≤ k) : Riv (trF fl k) gs :=
  ⟨h.g, h.d, by rw [trF_len]; exact h.len, fun i hi => trF_val hk h.val i (by rw [trF_len] at hi; exact hi)⟩
theorem Riv.tr_poss {fl : List Int} {gs : List (List Int)} (h : Riv fl gs) {k : Int} (hk : 0 ≤ k) {us : List Int} (hl : us.length = fl.length) :
    poss 0 (trF fl k) us = true ↔ ∀ m, m < us.length → pre us m ≤ pre fl m ∧ pre us m ≤ k := by
  rw [poss_iff (by rw [trF_len]; exact hl)]
  refine forall_congr' fun m => forall_congr' fun hm => ?_
  rw [trF_pre hk (fun i hi => (h.val i hi).1) (by omega)]
  omega
theorem pre_up {us : List Int} (h : ∀ i, i < us.length → 0 ≤ us.getD i 0) {m : Nat} : ∀ {k : Nat}, m ≤ k → pre us m ≤ pre us k
  | 0, hk => by have : m = 0 := by omega
                subst this; exact Int.le_refl _
  | k + 1, hk => by
    by_cases e : m = k + 1
    · subst e; exact Int.le_refl _
    · have h1 := pre_up h (m := m) (k := k) (by omega)
      have h2 := pre_step us k
      have h3 : 0 ≤ us.getD (k + 1) 0 := by
        by_cases c : k + 1 < us.length
        · exact h _ c
        · rw [List.getD_eq_getElem?_getD, List.getElem?_eq_none (by omega)]; simp
      omega
/-- One piece of water more is worth the more, the more places gain. -/
theorem tr_step {fl : List Int} {gT gS : List (List Int)} (hT : Riv fl gT) (hS : Riv fl gS) (hsub : ∀ j, gS.getD j [] = [] ∨ gS.getD j [] = gT.getD j []) {k : Int} (hk : 0 ≤ k) :
    val (trF fl (k + 1)) gS + val (trF fl k) gT ≤ val (trF fl (k + 1)) gT + val (trF fl k) gS := by
  have hTk := hT.tr hk
  have hSk := hS.tr hk
  have hT1 := hT.tr (show 0 ≤ k + 1 by omega)
  have hS1 := hS.tr (show 0 ≤ k + 1 by omega)
  obtain ⟨p, hp⟩ : ∃ p, p = bestL (trF fl k) gT := ⟨_, rfl⟩
  obtain ⟨q, hq⟩ : ∃ q, q = bestL (trF fl (k + 1)) gS := ⟨_, rfl⟩
  have hpl : p.length = fl.length := by rw [hp, hTk.best_len, trF_len]
  have hql : q.length = fl.length := by rw [hq, hS1.best_len, trF_len]
  have hp0 : ∀ j, j < p.length → 0 ≤ p.getD j 0 := fun j hj => by rw [hp] at hj ⊢; exact (hTk.best_val j hj).1
  have hq0 : ∀ j, j < q.length → 0 ≤ q.getD j 0 := fun j hj => by rw [hq] at hj ⊢; exact (hS1.best_val j hj).1
  have hqs : ∀ j, j < q.length → q.getD j 0 ≤ (gS.getD j []).length := fun j hj => by rw [hq] at hj ⊢; exact (hS1.best_val j hj).2.1
  have hpp := (hT.tr_poss hk hpl).1 (by rw [hp]; exact hTk.best_poss)
  have hqp := (hS.tr_poss (show 0 ≤ k + 1 by omega) hql).1 (by rw [hq]; exact hS1.best_poss)
  have ep : worthL gT p = val (trF fl k) gT := by rw [hp]; rfl
  have eq : worthL gS q = val (trF fl (k + 1)) gS := by rw [hq]; rfl
  rw [← ep, ← eq]
  have upT : ∀ vs : List Int, vs.length = fl.length → (∀ j, j < vs.length → 0 ≤ vs.getD j 0) → (∀ m, m < vs.length → pre vs m ≤ pre fl m ∧ pre vs m ≤ k + 1) → worthL gT vs ≤ val (trF fl (k + 1)) gT := fun vs h1 h2 h3 =>
    riv_upper hT1 (by rw [trF_len]; exact h1) h2 ((hT.tr_poss (by omega) h1).2 h3)
  have upS : ∀ vs : List Int, vs.length = fl.length → (∀ j, j < vs.length → 0 ≤ vs.getD j 0) → (∀ m, m < vs.length → pre vs m ≤ pre fl m ∧ pre vs m ≤ k) → worthL gS vs ≤ val (trF fl k) gS := fun vs h1 h2 h3 =>
    riv_upper hSk (by rw [trF_len]; exact h1) h2 ((hS.tr_poss hk h1).2 h3)
  by_cases hB : ∀ m, m < q.length → pre q m ≤ k
  · have h1 := upS q hql hq0 fun m hm => ⟨(hqp m hm).1, hB m hm⟩
    have h2 := upT p hpl hp0 fun m hm => by have := hpp m hm; omega
    omega
  · obtain ⟨m, hm⟩ := Classical.not_forall.1 hB
    obtain ⟨hm, hmk⟩ := Classical.not_imp.1 hm
    obtain ⟨N, hN⟩ : ∃ N, N + 1 = q.length := ⟨q.length - 1, by omega⟩
    have hup := pre_up hq0 (m := m) (k := N) (by omega)
    have hpN := hpp N (by omega)
    have hqN := hqp N (by omega)
    obtain ⟨j, hj1, hj2, hj3⟩ := last_more (us := p) (vs := q) (j := N) (by omega)
    have hpj := hp0 j (by omega)
    have hpw := worth_set (gs := gT) (us := p) (i := j) (by have := hT.len; omega) (by omega) hpj
    have hqw := worth_dec (gs := gS) (us := q) (j := j) (by have := hS.len; omega) (by omega) (by omega)
    have hsj := hqs j (by omega)
    have hg : gS.getD j [] = gT.getD j [] := by
      rcases hsub j with e | e
      · rw [e] at hsj; simp only [List.length_nil] at hsj; omega
      · exact e
    have hgk : gk gS j (q.getD j 0 - 1) ≤ gk gT j (p.getD j 0) := by
      unfold gk
      rw [hg]
      exact hT.falls.le j (by omega)
    have h1 := upT (p.set j (p.getD j 0 + 1)) (by rw [List.length_set]; exact hpl) (fun i hi => by
      rw [List.length_set] at hi
      rw [set_getD (by omega)]
      have := hp0 i hi
      split <;> omega) (fun i hi => by
      rw [List.length_set] at hi
      rw [pre_set (by omega)]
      have h3 := hpp i hi
      split
      · rename_i hji
        have h4 := hj3 i hji (by omega)
        have h5 := hqp i (by omega)
        omega
      · omega)
    have h2 := upS (q.set j (q.getD j 0 - 1)) (by rw [List.length_set]; exact hql) (fun i hi => by
      rw [List.length_set] at hi
      rw [set_getD (by omega)]
      have := hq0 i hi
      split <;> omega) (fun i hi => by
      rw [List.length_set] at hi
      rw [pre_set (by omega)]
      have h3 := hqp i hi
      split
      · omega
      · rename_i hji
        obtain ⟨j', rfl⟩ : ∃ j', j = j' + 1 := ⟨j - 1, by omega⟩
        have h4 := pre_step q j'
        have h5 := pre_up hq0 (m := i) (k := j') (by omega)
        have h6 := hqp (j' + 1) (by omega)
        omega)
    omega
theorem tr_many {fl : List Int} {gT gS : List (List Int)} (hT : Riv fl gT) (hS : Riv fl gS) (hsub : ∀ j, gS.getD j [] = [] ∨ gS.getD j [] = gT.getD j []) {h : Int} (hh : 0 ≤ h) :
    ∀ k : Nat, val (trF fl (h + k)) gS + val (trF fl h) gT ≤ val (trF fl (h + k)) gT + val (trF fl h) gS
  | 0 => by simp only [Int.natCast_zero, Int.add_zero]; omega
  | k + 1 => by
    have h1 := tr_many hT hS hsub hh k
    have h2 := tr_step hT hS hsub (k := h + k) (by omega)
    have e : h + ((k + 1 : Nat) : Int) = h + k + 1 := by omega
    rw [e]
    omega
theorem worth_snoc {g : List Int} {x : Int} : ∀ {gs : List (List Int)} {us : List Int}, us.length = gs.length → worthL (gs ++ [g]) (us ++ [x]) = worthL gs us + (g.take x.toNat).sum
  | [], [], _ => by simp [worthL]
  | [], _ :: _, h => by simp at h
  | _ :: _, [], h => by simp at h
  | a :: gs, u :: us, h => by
    simp only [List.cons_append, worthL]
    rw [worth_snoc (by simpa using h)]
    omega
theorem Riv.first {F : List Int} {G : List (List Int)} {f : Int} {g : List Int} (h : Riv (F ++ [f]) (G ++ [g])) : Riv F G := by
  have hl := h.len
  simp only [List.length_append, List.length_cons, List.length_nil] at hl
  have := h.part 0 F.length
  rw [List.drop_zero, List.drop_zero, List.take_left, show F.length = G.length from by omega, List.take_left] at this
  exact this
theorem snoc_use {F : List Int} {G : List (List Int)} {f : Int} {g : List Int} (h : Riv (F ++ [f]) (G ++ [g])) {v : List Int} {x : Int} (hl : v.length = F.length) (h0 : ∀ i, i < v.length → 0 ≤ v.getD i 0) (hx : 0 ≤ x)
    (hp : ∀ m, m < v.length → pre v m ≤ pre F m) (hs : v.sum + x ≤ F.sum + f) : worthL G v + (g.take x.toNat).sum ≤ val (F ++ [f]) (G ++ [g]) := by
  have hlen := h.first.len
  rw [← worth_snoc (by omega)]
  refine riv_upper h (by simp [hl]) (fun i hi => ?_) ?_
  · simp only [List.length_append, List.length_cons, List.length_nil] at hi
    rw [List.getD_eq_getElem?_getD]
    by_cases c : i < v.length
    · rw [List.getElem?_append_left c, ← List.getD_eq_getElem?_getD]; exact h0 i c
    · rw [List.getElem?_append_right (by omega), show i - v.length = 0 from by omega]; simpa using hx
  · refine (poss_iff (by simp [hl])).2 fun m hm => ?_
    simp only [List.length_append, List.length_cons, List.length_nil] at hm
    rw [pre_snoc, pre_snoc]
    split
    · rename_i c
      rw [if_pos (by omega)]
      have := hp m c
      omega
    · rename_i c
      rw [if_neg (by omega)]
      omega
/-- A place at the end adds the less, the more places gain. -/
theorem last_place {F : List Int} {GT GS : List (List Int)} {f : Int} {g : List Int} (hT : Riv (F ++ [f]) (GT ++ [g])) (hS : Riv (F ++ [f]) (GS ++ [g])) (hsub : ∀ j, GS.getD j [] = [] ∨ GS.getD j [] = GT.getD j []) :
    val (F ++ [f]) (GT ++ [g]) + val F GS ≤ val F GT + val (F ++ [f]) (GS ++ [g]) := by
  have hT0 := hT.first
  have hS0 := hS.first
  have hF0 : ∀ i, i < F.length → 0 ≤ F.getD i 0 := fun i hi => (hT0.val i hi).1
  have hH := sum_nonneg hF0
  obtain ⟨u, hu⟩ : ∃ u, u = bestL (F ++ [f]) (GT ++ [g]) := ⟨_, rfl⟩
  have hul : u.length = F.length + 1 := by rw [hu, hT.best_len]; simp
  have hu0 : ∀ j, j < u.length → 0 ≤ u.getD j 0 := fun j hj => by rw [hu] at hj ⊢; exact (hT.best_val j hj).1
  have hup := (poss_iff (by rw [hul]; simp)).1 (show poss 0 (F ++ [f]) u = true by rw [hu]; exact hT.best_poss)
  have eu : worthL (GT ++ [g]) u = val (F ++ [f]) (GT ++ [g]) := by rw [hu]; rfl
  obtain ⟨v, hv⟩ : ∃ v, v = u.take F.length := ⟨_, rfl⟩
  obtain ⟨x, hx⟩ : ∃ x, x = u.getD F.length 0 := ⟨_, rfl⟩
  have hvl : v.length = F.length := by rw [hv, List.length_take]; omega
  have huv : u = v ++ [x] := by
    have := take_getD (xs := u) (d := 0) (i := F.length) (by omega)
    rw [List.take_of_length_le (by omega)] at this
    rw [hv, hx]; exact this
  have hx0 : 0 ≤ x := by rw [hx]; exact hu0 _ (by omega)
  have hv0 : ∀ i, i < v.length → 0 ≤ v.getD i 0 := fun i hi => by
    rw [hv, getD_take (by omega)]; exact hu0 i (by omega)
  have hvp : ∀ m, m < v.length → pre v m ≤ pre F m := fun m hm => by
    have := hup m (by omega)
    rw [huv, pre_snoc, pre_snoc, if_pos hm, if_pos (by omega)] at this
    omega
  have hsum : v.sum + x ≤ F.sum + f := by
    have := hup F.length (by omega)
    rw [huv, pre_snoc, pre_snoc, if_neg (by omega), if_neg (by omega)] at this
    omega
  have hvs := sum_nonneg hv0
  rw [huv, worth_snoc (by have := hT0.len; omega)] at eu
  have hle : ∀ m, m < v.length → pre v m ≤ v.sum := fun m hm => by
    have := pre_up hv0 (m := m) (k := v.length) (by omega)
    rw [pre_all (m := v.length) (by omega)] at this
    exact this
  have hFle : ∀ m, m < F.length → pre F m ≤ F.sum := fun m hm => by
    have := pre_up hF0 (m := m) (k := F.length) (by omega)
    rw [pre_all (m := F.length) (by omega)] at this
    exact this
  obtain ⟨k, hk⟩ : ∃ k, k = min F.sum (F.sum + f - x) := ⟨_, rfl⟩
  have hk0 : 0 ≤ k := by omega
  have h1 := riv_upper (hT0.tr hk0) (vs := v) (by rw [trF_len]; exact hvl) hv0 ((hT0.tr_poss hk0 hvl).2 fun m hm => by
    have := hvp m hm
    have := hle m hm
    have := hFle m (by omega)
    omega)
  have h2 := tr_many hT0 hS0 hsub hk0 (F.sum - k).toNat
  rw [show k + ((F.sum - k).toNat : Int) = F.sum from by omega, trF_all hF0 (Int.le_refl _)] at h2
  obtain ⟨q, hq⟩ : ∃ q, q = bestL (trF F k) GS := ⟨_, rfl⟩
  have hSk := hS0.tr hk0
  have hql : q.length = F.length := by rw [hq, hSk.best_len, trF_len]
  have hq0 : ∀ j, j < q.length → 0 ≤ q.getD j 0 := fun j hj => by rw [hq] at hj ⊢; exact (hSk.best_val j hj).1
  have hqp := (hS0.tr_poss hk0 hql).1 (by rw [hq]; exact hSk.best_poss)
  have hqs : q.sum ≤ k := by
    by_cases c : q.length = 0
    · rw [List.eq_nil_of_length_eq_zero c]; simpa using hk0
    · have := (hqp (q.length - 1) (by omega)).2
      rw [pre_all (by omega)] at this
      exact this
  have h3 := snoc_use hS hql hq0 hx0 (fun m hm => (hqp m hm).1) (by omega)
  have eq : worthL GS q = val (trF F k) GS := by rw [hq]; rfl
  omega
/-- What the places of a group are due: a number of places from p on. -/
def dueS (V : Nat → Int) (S : Nat → Bool) (p : Nat) : Nat → Int
  | 0 => 0
  | k + 1 => dueS V S p k + if S (p + k) = true then V (p + k + 1) - V (p + k) else 0
theorem dueS_add {V : Nat → Int} {S : Nat → Bool} {p a : Nat} : ∀ {b : Nat}, dueS V S p (a + b) = dueS V S p a + dueS V S (p + a) b
  | 0 => by simp [dueS]
  | b + 1 => by
    rw [← Nat.add_assoc]
    simp only [dueS]
    rw [dueS_add (b := b), Nat.add_assoc p a b]
    omega
theorem dueS_run {V : Nat → Int} {S : Nat → Bool} {p : Nat} : ∀ {k : Nat}, (∀ j, j < k → S (p + j) = true) → dueS V S p k = V (p + k) - V p
  | 0, _ => by simp [dueS]
  | k + 1, h => by
    simp only [dueS]
    rw [dueS_run fun j hj => h j (by omega), if_pos (h k (by omega)), Nat.add_assoc]
    omega
theorem lastV_mx {fl : List Int} {gs : List (List Int)} (h : Riv fl gs) : ∀ m, lastV fl gs m = mx (fl.take m) (gs.take m) 0
  | 0 => by simp [lastV, mx]
  | m + 1 => by
    have := (h.part 0 (m + 1)).mx
    rw [List.drop_zero, List.drop_zero] at this
    rw [this]
    rfl
theorem mx_mono : ∀ {fs : List Int} {gs : List (List Int)} {w w' : Int}, w ≤ w' → mx fs gs w ≤ mx fs gs w'
  | f :: fs, g :: gs, w, w', h => by
    simp only [mx]
    refine mxF_le (cntL_mono h) fun x _ => ?_
    have := mx_mono (fs := fs) (gs := gs) (w := w + f - x) (w' := w' + f - x) (by omega)
    omega
  | [], _, _, _, _ => by simp [mx]
  | _ :: _, [], _, _, _ => by simp [mx]
theorem mx_append {fs2 : List Int} {gs2 : List (List Int)} : ∀ {fs : List Int} {gs : List (List Int)} {w : Int}, Sfx fs gs → 0 ≤ w → mx fs gs w + mx fs2 gs2 0 ≤ mx (fs ++ fs2) (gs ++ gs2) w
  | f :: fs, g :: gs, w, hs, hw => by
    have ht := hs.tail
    simp only [mx, List.cons_append]
    obtain ⟨x, h1, h2⟩ := mxF_at (k := fun x => (g.take x).sum + mx fs gs (w + f - x)) (n := cntL f g w) cntL_pos (by
      have := mx_nonneg (fs := fs) (gs := gs) (w := w + f - (0 : Nat))
      have := hs.take0 0
      omega)
    rw [h2]
    have hx := cntL_x h1 (by omega)
    have h3 := mxF_ge (k := fun x => (g.take x).sum + mx (fs ++ fs2) (gs ++ gs2) (w + f - x)) h1
    have h4 := mx_append (fs2 := fs2) (gs2 := gs2) (fs := fs) (gs := gs) (w := w + f - x) ht.1 (by omega)
    omega
  | [], [], w, hs, hw => by
    have := mx_mono (fs := fs2) (gs := gs2) hw
    simp only [mx, List.nil_append]
    omega
  | [], _ :: _, _, hs, _ => by have := hs.len; simp at this
  | _ :: _, [], _, hs, _ => by have := hs.len; simp at this
def runS (S : Nat → Bool) (p : Nat) : Nat → Nat
  | 0 => 0
  | n + 1 => if S p = true then runS S (p + 1) n + 1 else 0
theorem runS_spec {S : Nat → Bool} : ∀ {n p : Nat}, runS S p n ≤ n ∧ (∀ j, j < runS S p n → S (p + j) = true) ∧ (runS S p n < n → S (p + runS S p n) = false)
  | 0, p => by simp [runS]
  | n + 1, p => by
    have ih := runS_spec (S := S) (n := n) (p := p + 1)
    simp only [runS]
    split
    · rename_i h
      refine ⟨by omega, fun j hj => ?_, fun hj => ?_⟩
      · cases j with
        | zero => exact h
        | succ j => rw [show p + (j + 1) = p + 1 + j from by omega]; exact ih.2.1 j (by omega)
      · rw [show p + (runS S (p + 1) n + 1) = p + 1 + runS S (p + 1) n from by omega]; exact ih.2.2 (by omega)
    · rename_i h
      exact ⟨by omega, fun j hj => by omega, fun _ => by simpa using h⟩
theorem due_row {fl : List Int} {gs : List (List Int)} (h : Riv fl gs) (p k : Nat) : mx ((fl.drop p).take k) ((gs.drop p).take k) 0 ≤ lastV fl gs (p + k) - lastV fl gs p := by
  rw [lastV_mx h, lastV_mx h, List.take_add, List.take_add]
  have hs : Sfx (fl.take p) (gs.take p) := by
    have := (h.part 0 p).sfx
    rw [List.drop_zero, List.drop_zero] at this
    exact this
  have := mx_append (fs2 := (fl.drop p).take k) (gs2 := (gs.drop p).take k) hs (Int.le_refl 0)
  omega
/-- A group gets by its shares at least its worth alone. -/
theorem due_alone {fl : List Int} {gs : List (List Int)} (h : Riv fl gs) {S : Nat → Bool} : ∀ (m : Nat) {p : Nat}, p + m = fl.length → mA S p (fl.drop p) (gs.drop p) 0 ≤ dueS (lastV fl gs) S p m := by
  intro m
  induction m using Nat.strongRecOn with
  | _ m ih =>
    intro p hp
    have hr := runS_spec (S := S) (n := m) (p := p)
    obtain ⟨k, hk⟩ : ∃ k, k = runS S p m := ⟨_, rfl⟩
    rw [← hk] at hr
    by_cases hm : m = 0
    · subst hm
      rw [List.drop_eq_nil_of_le (by omega)]
      simp [mA, dueS]
    by_cases hk0 : k = 0
    · subst hk0
      have hS := hr.2.2 (by omega)
      obtain ⟨m', rfl⟩ : ∃ m', m = 1 + m' := ⟨m - 1, by omega⟩
      rw [mA_skip (k := 1) fun j hj => by rw [show j = 0 from by omega]; exact hS, List.drop_drop, List.drop_drop, dueS_add]
      have := ih m' (by omega) (p := p + 1) (by omega)
      have e : dueS (lastV fl gs) S p 1 = 0 := by
        simp only [dueS]
        rw [if_neg (by rw [hS]; simp)]
        rfl
      omega
    · obtain ⟨m', rfl⟩ : ∃ m', m = k + m' := ⟨m - k, by omega⟩
      rw [mA_run (k := k) (by rw [List.length_drop]; omega) (h.sfx.drop p) (Int.le_refl 0) hr.2.1 (fun hl => by rw [List.length_drop] at hl; exact hr.2.2 (by omega)), List.drop_drop, List.drop_drop, dueS_add, dueS_run hr.2.1]
      have h1 := ih m' (by omega) (p := p + k) (by omega)
      have h2 := due_row h p k
      omega
theorem maskG_take {S : Nat → Bool} : ∀ {i m : Nat} {gs : List (List Int)}, maskG S i (gs.take m) = (maskG S i gs).take m
  | _, 0, _ => by simp [maskG]
  | _, _ + 1, [] => by simp [maskG]
  | i, m + 1, g :: gs => by simp [maskG, maskG_take]
theorem Riv.mask {fl : List Int} {gs : List (List Int)} (h : Riv fl gs) (S : Nat → Bool) : Riv fl (maskG S 0 gs) := by
  refine ⟨⟨by rw [maskG_len]; exact h.g.len, fun i hi => ?_, fun i hi j hj => ?_⟩, fun i hi => ?_, by rw [maskG_len]; exact h.len, h.val⟩
  · rw [maskG_len] at hi
    rw [maskG_get]
    split
    · exact h.g.lens i hi
    · simp
  · rw [maskG_len] at hi
    rw [maskG_get] at hj ⊢
    split at hj
    · rename_i e
      rw [if_pos e]
      exact h.g.val i hi j hj
    · simp at hj
  · rw [maskG_len] at hi
    rw [maskG_get]
    split
    · exact h.d i hi
    · rfl
/-- A group gets by its shares at most what it aspires to. -/
theorem due_aspires {fl : List Int} {gs : List (List Int)} (h : Riv fl gs) {S : Nat → Bool} : ∀ (m : Nat), m ≤ fl.length → dueS (lastV fl gs) S 0 m ≤ val (fl.take m) (maskG S 0 (gs.take m))
  | 0, _ => by
    have := (h.mask S).part 0 0
    simp [dueS, maskG, val, worthL]
  | m + 1, hm => by
    have hlen := h.len
    have ih := due_aspires h (S := S) m (by omega)
    have hF : fl.take (m + 1) = fl.take m ++ [fl.getD m 0] := take_getD (by omega)
    have hG : gs.take (m + 1) = gs.take m ++ [gs.getD m []] := take_getD (by omega)
    have hM : maskG S 0 (gs.take (m + 1)) = maskG S 0 (gs.take m) ++ [if S m = true then gs.getD m [] else []] := by
      rw [maskG_take, maskG_take, take_getD (d := []) (by rw [maskG_len]; omega), maskG_get, Nat.zero_add]
    have hR : Riv (fl.take (m + 1)) (gs.take (m + 1)) := by
      have := h.part 0 (m + 1)
      rw [List.drop_zero, List.drop_zero] at this
      exact this
    have hRm := hR.mask S
    rw [hM, hF] at hRm
    rw [hF, hG] at hR
    have hV : ∀ k, k ≤ fl.length → lastV fl gs k = val (fl.take k) (gs.take k) := fun k hk => by
      rw [lastV_mx h]
      have := (h.part 0 k).mx
      rw [List.drop_zero, List.drop_zero] at this
      exact this
    simp only [dueS, Nat.zero_add]
    rw [hM, hF]
    by_cases hS : S m = true
    · rw [if_pos hS] at hRm ⊢
      rw [if_pos hS, hV _ hm, hV m (by omega), hF, hG]
      have := last_place hR hRm (fun j => by
        rw [maskG_get]
        split
        · exact .inr rfl
        · exact .inl rfl)
      omega
    · rw [if_neg hS] at hRm ⊢
      rw [if_neg hS]
      have hR0 := hRm.first
      obtain ⟨q, hq⟩ : ∃ q, q = bestL (fl.take m) (maskG S 0 (gs.take m)) := ⟨_, rfl⟩
      have hql : q.length = (fl.take m).length := by rw [hq, hR0.best_len]
      have hqp := (poss_iff hql).1 (by rw [hq]; exact hR0.best_poss)
      have hfm := h.val m (by omega)
      have h3 := snoc_use hRm hql (fun j hj => by rw [hq] at hj ⊢; exact (hR0.best_val j hj).1) (Int.le_refl 0) (fun j hj => by have := hqp j hj; omega) (by
        by_cases c : q.length = 0
        · have c2 : (fl.take m).length = 0 := by omega
          rw [List.eq_nil_of_length_eq_zero c, List.eq_nil_of_length_eq_zero c2]
          simp only [List.sum_nil]
          omega
        · have := hqp (q.length - 1) (by omega)
          rw [pre_all (by omega), pre_all (by omega)] at this
          omega)
      have eq : worthL (maskG S 0 (gs.take m)) q = val (fl.take m) (maskG S 0 (gs.take m)) := by rw [hq]; rfl
      simp only [List.take_nil, List.sum_nil] at h3
      omega
theorem fair {fl : List Int} {gs : List (List Int)} (h : Riv fl gs) {g : List Int} (hg : Grp fl.length g) :
    aloneL fl gs g ≤ dueS (lastV fl gs) (inG g) 0 fl.length ∧ dueS (lastV fl gs) (inG g) 0 fl.length ≤ val fl (onlyL gs fl.length g) := by
  have hlen := h.len
  refine ⟨?_, ?_⟩
  · have := due_alone h (S := inG g) fl.length (p := 0) (by omega)
    rw [List.drop_zero, List.drop_zero] at this
    rw [alone_eq h hg]
    exact this
  · have := due_aspires h (S := inG g) fl.length (Nat.le_refl _)
    rw [List.take_length, List.take_of_length_le (by omega)] at this
    rw [onlyL_mask hlen.symm hg]
    exact this
end Go.Proofs.Ytohfemfgnohhdaa
/- A region in whatever order, phase by phase: what floats, then some operations in every order, and so on. No condition. -/
namespace Go.Vc
set_option linter.unusedVariables false
set_option linter.unusedSimpArgs false

theorem wf_range {k : IntKind} {n : Int} (h : (Ty.int k).wf n) : k.min ≤ n ∧ n ≤ k.max := by
  have h : (decide (k.min ≤ n) && decide (n ≤ k.max)) = true := h
  rw [Bool.and_eq_true, decide_eq_true_iff, decide_eq_true_iff] at h
  exact h
theorem wf_u8 {n : Int} (h : (Ty.int .u8).wf n) : 0 ≤ n ∧ n ≤ 255 := by
  have := wf_range h
  simp [IntKind.min, IntKind.max, IntKind.signed, IntKind.bits] at this
  exact this
theorem wf_u16 {n : Int} (h : (Ty.int .u16).wf n) : 0 ≤ n ∧ n ≤ 65535 := by
  have := wf_range h
  simp [IntKind.min, IntKind.max, IntKind.signed, IntKind.bits] at this
  exact this
theorem wf_i64 {n : Int} (h : (Ty.int .i64).wf n) : -9223372036854775808 ≤ n ∧ n ≤ 9223372036854775807 := by
  have := wf_range h
  simp [IntKind.min, IntKind.max, IntKind.signed, IntKind.bits] at this
  exact this
theorem wpAnyH_sub {P : Program} {md : Region.Mode} {ops : Array Oper} {Q : Exit → Act → World → Prop} {S S' : World → Prop} (hS : ∀ w, S' w → S w) :
    ∀ (fuel : Nat) (listed : Array Bool) (a : Act) (w : World), wpAnyH P md ops Q S' fuel listed a w → wpAnyH P md ops Q S fuel listed a w
  | 0, _, _, _, h => h
  | fuel + 1, _, _, _, h => ⟨h.1, fun i hi => wpOp_mono (fun a' w' h' => ⟨hS _ h'.1, wpAnyH_sub hS fuel _ a' w' h'.2⟩) (h.2 i hi)⟩

def tree2 (P : Program) (T : List (Nat × TE)) (F : List Nat) (n : Nat) (ops : Array Oper) (E : List Nat) : Nat → Nat → Sy → (Nat → Sy → Prop) → Prop
  | 0, done, Γ, K => K done Γ
  | k + 1, done, Γ, K => eachP (rdy done E 0) fun i => match ops[i]? with
    | some o => opsVC P T F n (dstsOf ops) [] [o] i 0 Γ fun Γ' => tree2 P T F n ops E k (Nat.lor done (2 ^ i)) Γ' K
    | none => False

theorem tree2_sound {P : Program} {T : List (Nat × TE)} {F : List Nat} (hT : TOk P T) {c : Cx} {ops : Array Oper} {E : List Nat} (hE : dirms ops = E) {K : Nat → Sy → Prop} {Q : Exit → Act → World → Prop} {m : Nat}
    (hQ : ∀ (listed : Array Bool) done Γ' g' a' w', listed.size = ops.size → cnt listed = m → (∀ j, j < ops.size → listed[j]? = some (done.testBit j)) → K done Γ' → St c Γ' g' a' w' → wpAnyH P .any ops Q c.S m listed a' w')
    (hed : ∀ j o, ops[j]? = some o → ∀ e ∈ o.after, Region.binds .any e = true → e.on < j) :
    ∀ (k : Nat) (listed : Array Bool) (done : Nat) (Γ : Sy) (g : Nat → Value) (a : Act) (w : World), listed.size = ops.size → cnt listed = k + m → (∀ j, j < ops.size → listed[j]? = some (done.testBit j)) →
      tree2 P T F c.n ops E k done Γ K → St c Γ g a w → wpAnyH P .any ops Q c.S (k + m) listed a w := by
  intro k
  induction k with
  | zero =>
    intro listed done Γ g a w hsz hc hd h hst
    rw [Nat.zero_add] at hc ⊢
    exact hQ listed done Γ g a w hsz hc hd h hst
  | succ k ih =>
    intro listed done Γ g a w hsz hc hd h hst
    rw [show k + 1 + m = (k + m) + 1 from by omega] at hc ⊢
    refine ⟨fun hrd => ?_, fun i hi => ?_⟩
    · obtain ⟨i, h1, h2⟩ := cnt_pos (listed := listed) (by omega)
      have hi : i < ops.size := by rw [← hsz]; exact (Array.getElem?_eq_some_iff.1 h1).1
      have : i ∈ Region.ready .any ops listed := ready_mem.2 ⟨hi, by simp [Array.getD_eq_getD_getElem?, h1], fun o ho e he hb => by
        have := h2 e.on (hed i o ho e he hb)
        simp [Array.getD_eq_getD_getElem?, this]⟩
      rw [hrd] at this; cases this
    · obtain ⟨h1, h2, h3⟩ := ready_mem.1 hi
      have hoi : ops[i]? = some ops[i] := by simp [h1]
      have hdi : done.testBit i = false := by
        have := hd i h1
        simp only [Array.getD_eq_getD_getElem?, this, Option.getD_some] at h2
        exact h2
      have hEi : E[i]? = some (dirm (ops[i]).after.toList 0) := by
        rw [← hE, dirms, List.getElem?_map]
        simp [h1]
      have hm := rdy_mem (done := done) (i := i) (s := 0) hEi (by rw [Nat.zero_add]; exact hdi) fun j hj => by
        rcases dirm_bit hj with h4 | ⟨e, he, hb, rfl⟩
        · simp at h4
        · have h5 := h3 _ hoi e (by simpa using he) hb
          have h6 := hed i _ hoi e (by simpa using he) hb
          have h7 := hd e.on (by omega)
          simp only [Array.getD_eq_getD_getElem?, h7, Option.getD_some] at h5
          exact h5
      rw [Nat.zero_add] at hm
      have h4 := eachP_mem h i hm
      rw [hoi] at h4
      obtain ⟨Γ', h5, h6⟩ := one_sound hT hoi h4
      have hlf : listed[i]? = some false := by rw [hd i h1, hdi]
      refine h5 Q g a w _ hst fun g' a' w' h7 => ⟨h7.s, ih _ (Nat.lor done (2 ^ i)) Γ' g' a' w' (by simp [hsz]) (by have := cnt_set hlf; omega) (fun j hj => ?_) h6 h7⟩
      show _ = some ((done ||| 2 ^ i).testBit j)
      rw [Nat.testBit_or, Nat.testBit_two_pow]
      by_cases e : i = j
      · subst e
        rw [Array.getElem?_setIfInBounds_self_of_lt (by omega)]
        simp
      · rw [Array.getElem?_setIfInBounds_ne e, hd j hj]
        simp [e]

/-- Which of the first are done, as an array. -/
def arrOf (n done : Nat) : Array Bool := ((List.range n).map fun j => done.testBit j).toArray
theorem arrOf_eq {listed : Array Bool} {n done : Nat} (hsz : listed.size = n) (hd : ∀ j, j < n → listed[j]? = some (done.testBit j)) : listed = arrOf n done := by
  apply Array.ext_getElem?
  intro j
  by_cases h : j < n
  · rw [hd j h, arrOf, List.getElem?_toArray, List.getElem?_map, List.getElem?_range h]; rfl
  · rw [Array.getElem?_eq_none (by omega), arrOf, List.getElem?_toArray, List.getElem?_map, List.getElem?_eq_none (by simp; omega)]; rfl
def addM (done : Nat) : List Nat → Nat
  | [] => done
  | i :: r => addM (Nat.lor done (2 ^ i)) r
theorem addM_bit {j : Nat} : ∀ {L : List Nat} {done : Nat}, (addM done L).testBit j = (memN j L || done.testBit j)
  | [], done => by simp [addM, memN]
  | i :: r, done => by
    have h1 : (Nat.lor done (2 ^ i)).testBit j = (done.testBit j || decide (i = j)) := by
      show (done ||| 2 ^ i).testBit j = _
      rw [Nat.testBit_or, Nat.testBit_two_pow]
    simp only [addM, memN]
    rw [addM_bit, h1]
    have h2 : Nat.beq i j = decide (i = j) := by
      rw [Bool.eq_iff_iff, decide_eq_true_iff]
      exact ⟨Nat.eq_of_beq_eq_true, fun e => by subst e; exact Nat.beq_refl i⟩
    rw [h2]
    cases decide (i = j) <;> cases memN j r <;> cases done.testBit j <;> rfl
/-- The phases: what floats, how many operations come then in every order, and which are done behind them. -/
def phVC (P : Program) (T : List (Nat × TE)) (F : List Nat) (n : Nat) (ops : Array Oper) (E : List Nat) : List (List Nat × Nat × Nat) → Nat → Sy → (Sy → Prop) → Prop
  | [], _, Γ, K => K Γ
  | (L, k, d) :: r, done, Γ, K => floatVC T n ops L Γ fun Γ1 => tree2 P T F n ops E k (addM done L) Γ1 fun d' Γ' => ck (Nat.beq d' d) (phVC P T F n ops E r d Γ' K)
def phOk (ops : Array Oper) : List (List Nat × Nat × Nat) → Nat → Bool
  | [], done => allBelow ops.size fun j => done.testBit j
  | (L, k, d) :: r, done => floatOk ops L (arrOf ops.size done) && listOnce ops.size L && allBelow ops.size (fun j => !(memN j L && done.testBit j)) && Nat.ble (L.length + k) (cnt (arrOf ops.size done)) && phOk ops r d
theorem listOnce_lt {n : Nat} : ∀ {L : List Nat}, listOnce n L = true → ∀ k, memN k L = true → k < n
  | [], _, k, hk => by cases hk
  | i :: r, h1, k, hk => by
    simp only [listOnce, Bool.and_eq_true] at h1
    simp only [memN, Bool.or_eq_true] at hk
    rcases hk with hk | hk
    · rw [← Nat.eq_of_beq_eq_true hk]; exact Nat.le_of_ble_eq_true h1.1.1
    · exact listOnce_lt h1.2 k hk
theorem ph_sound {P : Program} {T : List (Nat × TE)} {F : List Nat} (hT : TOk P T) {ops : Array Oper} {E : List Nat} (hE : dirms ops = E) {K : Sy → Prop} {Q : Exit → Act → World → Prop} (hs : Region.noSelect ops = true) (hQp : ∀ x a w, ¬ Q (.panic x) a w)
    (hed : ∀ j o, ops[j]? = some o → ∀ e ∈ o.after, Region.binds .any e = true → e.on < j) (c0 : Cx) (hQ : ∀ Γ' g' a' w' K', K Γ' → (∀ b x, c0.K b = some x → K' b = some x) → St { c0 with K := K' } Γ' g' a' w' → Q .normal a' w') :
    ∀ (ph : List (List Nat × Nat × Nat)) (K0 : Nat → Option (Array Value × TypeId × (Nat × Nat))) (listed : Array Bool) (done : Nat) (Γ : Sy) (g : Nat → Value) (a : Act) (w : World), (∀ b x, c0.K b = some x → K0 b = some x) → listed.size = ops.size →
      (∀ j, j < ops.size → listed[j]? = some (done.testBit j)) → phOk ops ph done = true → phVC P T F c0.n ops E ph done Γ K → St { c0 with K := K0 } Γ g a w → wpAnyH P .any ops Q (Cx.S { c0 with K := K0 }) (cnt listed) listed a w
  | [], K0, listed, done, Γ, g, a, w, hK0, hsz, hd, hok, h, hst => by
    have hall : ∀ i, i < listed.size → listed[i]? = some true := fun i hi => by
      have := allBelow_get hok i (by omega)
      rw [hd i (by omega), this]
    have hc : cnt listed = 0 := by
      refine Classical.byContradiction fun hne => ?_
      obtain ⟨i, h1, _⟩ := cnt_pos (listed := listed) (by omega)
      have hi := (Array.getElem?_eq_some_iff.1 h1).1
      rw [hall i hi] at h1
      cases h1
    rw [hc]
    refine ⟨List.eq_nil_iff_forall_not_mem.2 fun i hi => ?_, hQ Γ g a w K0 h hK0 hst⟩
    obtain ⟨h1, h2, _⟩ := ready_mem.1 hi
    have := hall i (by omega)
    simp [Array.getD_eq_getD_getElem?, this] at h2
  | (L, k, d) :: r, K0, listed, done, Γ, g, a, w, hK0, hsz, hd, hok, h, hst => by
    simp only [phOk, Bool.and_eq_true] at hok
    obtain ⟨⟨⟨⟨hf, honce⟩, hnew⟩, hle⟩, hrest⟩ := hok
    have harr := arrOf_eq hsz hd
    rw [← harr] at hf hle
    have hle := Nat.le_of_ble_eq_true hle
    obtain ⟨K1, hK1, hK2⟩ := keepAll w (Oset Γ.own g)
    have hsub : ∀ b x, K0 b = some x → K1 b = some x := fun b x hb => hK2 b _ _ _ (hst.kept b x hb).1 (hst.kept b x hb).2
    have hst1 : St { c0 with K := K1 } Γ g a w := ⟨hst.defers, hst.size, hst.keep, hst.o0, hst.tmps, hK1, hst.hp⟩
    refine wpAnyH_sub (S' := Cx.S { c0 with K := K1 }) (fun w' h' b x hb => h' b x (hsub b x hb)) _ _ _ _ ?_
    have hun : ∀ i, memN i L = true → listed[i]? = some false := fun i hi => by
      have hlt := listOnce_lt honce i hi
      have h1 := allBelow_get hnew i hlt
      rw [hd i hlt]
      simp only [hi, Bool.true_and, Bool.not_eq_true'] at h1
      rw [h1]
    have hcn := cnt_listAll (L := L) (l := listed) honce hsz hun
    have hgo := floats (P := P) (c := { c0 with K := K1 }) (w := w) (Q := Q) hT hs hQp hK2 L listed Γ a (cnt (listAll L listed)) rfl hf h hst1
    rw [hcn] at hgo
    refine hgo fun Γ1 a1 h1 hst2 => ?_
    obtain ⟨m, hm⟩ : ∃ m, cnt (listAll L listed) = k + m := ⟨cnt (listAll L listed) - k, by omega⟩
    rw [hm]
    refine tree2_sound (c := { c0 with K := K1 }) hT hE (m := m) (fun listed' done' Γ' g' a' w' hsz' hc' hd' hk' hst' => ?_) hed k _ (addM done L) Γ1 g a1 _ (by rw [listAll_size]; exact hsz) hm (fun j hj => ?_) h1 hst2
    · obtain ⟨h2, h3⟩ := ck_ok hk'
      have h2 := Nat.eq_of_beq_eq_true h2
      rw [h2] at hd'
      have := ph_sound hT hE hs hQp hed c0 hQ r K1 listed' d Γ' g' a' w' (fun b x hb => hsub b x (hK0 b x hb)) hsz' hd' hrest h3 hst'
      rw [hc'] at this
      exact this
    · rw [listAll_get (by omega), addM_bit]
      cases hmm : memN j L with
      | true => simp
      | false => simp [hd j hj]

/-- A region in whatever order, phase by phase. -/
theorem W.drawPhK {P : Program} {n : Nat} {Q : Exit → Sy → Prop} {Γ : Sy} {T : List (Nat × TE)} (hT : TOk P T) (F : List Nat) (hmx : P.follows .mixedOrders = true) (E : List Nat) (ph : List (List Nat × Nat × Nat)) {id : Nat} {ops : Array Oper} {K : Sy → Prop}
    (hK : ∀ c Γ' g' a' w', K Γ' → St c Γ' g' a' w' → ∃ Γ'' g'', Q .normal Γ'' ∧ St c Γ'' g'' a' w')
    (hd : (allBelow ops.size (fun j => match ops[j]? with
      | none => false
      | some o => edgesLt j o.after.toList) && (dirms ops == E) && phOk ops ph 0 && Region.noSelect ops) = true)
    (h : phVC P T F n ops E ph 0 Γ K) : W P n (.region id ops true) Γ Q := by
  simp only [Bool.and_eq_true] at hd
  obtain ⟨⟨⟨hall, hE⟩, hok⟩, hsel⟩ := hd
  have hE : dirms ops = E := by simpa using hE
  have hed : ∀ j o, ops[j]? = some o → ∀ e ∈ o.after, Region.binds .any e = true → e.on < j := by
    intro j o ho
    have hlt := (Array.getElem?_eq_some_iff.1 ho).1
    have h1 := allBelow_get hall j hlt
    rw [ho] at h1
    exact fun e he hb => edgesLt_get h1 (by simpa using he) hb
  refine ⟨fun c g a w hn hst => ?_⟩
  have key : (Code.region id ops true).wp P (fun e a' w' => match e with | .normal => ∃ Γ' g', K Γ' ∧ St c Γ' g' a' w' | _ => False) a w := by
    refine wp_region_held (S := c.S) hmx ?_
    have hcr : cnt (Array.replicate ops.size false) = ops.size := by simp [cnt, List.filter_replicate]
    have hmain := ph_sound (K := K) (Q := fun e a' w' => match e with | .normal => ∃ Γ' g', K Γ' ∧ St c Γ' g' a' w' | _ => False) hT hE hsel (fun _ _ _ h => h) hed c (fun Γ' g' a' w' K' hq hK' hst' =>
      ⟨Γ', g', hq, hst'.defers, hst'.size, hst'.keep, hst'.o0, hst'.tmps, fun b x hb => hst'.kept b x (hK' b x hb), hst'.hp⟩) ph c.K (Array.replicate ops.size false) 0 Γ g a { w with drawn := w.drawn + 1 } (fun _ _ h => h) (by simp) (fun j hj => by simp [hj]) hok (by rw [hn]; exact h) (hst.keepW (Keep.drew w))
    rw [hcr] at hmain
    exact hmain
  refine wp_mono key fun e a' w' hq => ?_
  cases e with
  | normal =>
    obtain ⟨Γ', g', h1, h2⟩ := hq
    exact hK c Γ' g' a' w' h1 h2
  | _ => exact hq.elim
theorem W.drawPh {P : Program} {n : Nat} {Q : Exit → Sy → Prop} {Γ : Sy} {T : List (Nat × TE)} (hT : TOk P T) (F : List Nat) (hmx : P.follows .mixedOrders = true) (E : List Nat) (ph : List (List Nat × Nat × Nat)) {id : Nat} {ops : Array Oper}
    (hd : (allBelow ops.size (fun j => match ops[j]? with
      | none => false
      | some o => edgesLt j o.after.toList) && (dirms ops == E) && phOk ops ph 0 && Region.noSelect ops) = true)
    (h : phVC P T F n ops E ph 0 Γ fun Γ' => Q .normal Γ') : W P n (.region id ops true) Γ Q :=
  W.drawPhK hT F hmx E ph (K := fun Γ' => Q .normal Γ') (fun c Γ' g' a' w' h1 h2 => ⟨Γ', g', h1, h2⟩) hd h
theorem W.drawPhTo {P : Program} {n : Nat} {Q : Exit → Sy → Prop} {Γ : Sy} {T : List (Nat × TE)} (hT : TOk P T) (F : List Nat) (hmx : P.follows .mixedOrders = true) (E : List Nat) (ph : List (List Nat × Nat × Nat)) (Γ2 : Sy) {id : Nat} {ops : Array Oper}
    (hd : (allBelow ops.size (fun j => match ops[j]? with
      | none => false
      | some o => edgesLt j o.after.toList) && (dirms ops == E) && phOk ops ph 0 && Region.noSelect ops) = true)
    (h : phVC P T F n ops E ph 0 Γ fun Γ' => Leaf (Sub Γ' Γ2 (mkRen Γ' Γ2))) (hnext : Q .normal Γ2) : W P n (.region id ops true) Γ Q :=
  W.drawPhK hT F hmx E ph (K := fun Γ' => Leaf (Sub Γ' Γ2 (mkRen Γ' Γ2))) (fun c Γ' g' a' w' h1 h2 => by
    obtain ⟨hs⟩ := h1
    exact ⟨Γ2, _, hnext, hs.st h2⟩) hd h
end Go.Vc
/- WaterTogether: the law returns true. No condition. -/
namespace Go.Proofs.Ytohfemfgnohhdaa
open Go Go.Vc
set_option linter.unusedVariables false
set_option linter.unusedSimpArgs false

/-- A bit of a number. -/
def bitI (v : Int) (i : Nat) : Bool := decide ((((v / 2 ^ i).toNat &&& 1 : Nat) : Int) = 1)
theorem bitI_nat (s i : Nat) : bitI (s : Int) i = s.testBit i := by
  have e : ((s : Int) / 2 ^ i).toNat = s / 2 ^ i := by
    have : ((s : Int) / 2 ^ i) = ((s / 2 ^ i : Nat) : Int) := by simp
    rw [this, Int.toNat_natCast]
  simp only [bitI, e, Nat.and_one_is_mod, Nat.testBit_eq_decide_div_mod_eq]
  apply Bool.eq_iff_iff.2
  rw [decide_eq_true_iff, decide_eq_true_iff]
  omega
theorem shr_range {v m : Int} {n : Nat} (h0 : 0 ≤ v) (h1 : v ≤ m) : 0 ≤ v / 2 ^ n ∧ v / 2 ^ n ≤ m := by
  have hp : (0 : Int) < 2 ^ n := Int.pow_pos (by decide)
  have h2 := Int.ediv_nonneg h0 (Int.le_of_lt hp)
  have h3 := Int.ediv_le_self (2 ^ n) h0
  omega
/-- The group of the places before n at which something holds. -/
def grpI (S : Nat → Bool) : Nat → List Int
  | 0 => []
  | i + 1 => if S i = true then grpI S i ++ [(i : Int)] else grpI S i
theorem grpI_len {S : Nat → Bool} : ∀ {n : Nat}, (grpI S n).length ≤ n
  | 0 => Nat.le_refl _
  | n + 1 => by
    have := grpI_len (S := S) (n := n)
    simp only [grpI]
    split
    · rw [List.length_append]; simp only [List.length_cons, List.length_nil]; omega
    · omega
theorem grpI_val {S : Nat → Bool} : ∀ {n : Nat}, Grp n (grpI S n)
  | 0 => ⟨fun i hi => by simp [grpI] at hi, fun i hi => by simp [grpI] at hi⟩
  | n + 1 => by
    have ih := grpI_val (S := S) (n := n)
    simp only [grpI]
    split
    · refine ⟨fun i hi => ?_, fun i hi => ?_⟩
      · rw [List.length_append] at hi
        simp only [List.length_cons, List.length_nil] at hi
        rw [List.getD_eq_getElem?_getD]
        by_cases c : i < (grpI S n).length
        · rw [List.getElem?_append_left c, ← List.getD_eq_getElem?_getD]
          have := ih.val i c
          omega
        · rw [List.getElem?_append_right (by omega), show i - (grpI S n).length = 0 from by omega]
          simp only [List.getElem?_cons_zero, Option.getD_some]
          omega
      · rw [List.length_append] at hi
        simp only [List.length_cons, List.length_nil] at hi
        rw [List.getD_eq_getElem?_getD, List.getD_eq_getElem?_getD, List.getElem?_append_left (by omega), ← List.getD_eq_getElem?_getD]
        by_cases c : i + 1 < (grpI S n).length
        · rw [List.getElem?_append_left c, ← List.getD_eq_getElem?_getD]
          exact ih.rise i c
        · rw [List.getElem?_append_right (by omega), show i + 1 - (grpI S n).length = 0 from by omega]
          simp only [List.getElem?_cons_zero, Option.getD_some]
          have := ih.val i (by omega)
          omega
    · refine ⟨fun i hi => ?_, ih.rise⟩
      have := ih.val i hi
      omega
theorem grpI_in {S : Nat → Bool} {i : Nat} : ∀ {n : Nat}, inG (grpI S n) i = (decide (i < n) && S i)
  | 0 => by simp [grpI, inG]
  | n + 1 => by
    have ih := grpI_in (S := S) (i := i) (n := n)
    have ih := Bool.eq_iff_iff.1 ih
    unfold inG at ih
    rw [decide_eq_true_iff, Bool.and_eq_true, decide_eq_true_iff] at ih
    apply Bool.eq_iff_iff.2
    unfold inG
    rw [decide_eq_true_iff, Bool.and_eq_true, decide_eq_true_iff]
    simp only [grpI]
    split
    · rename_i h
      rw [List.mem_append, ih, List.mem_singleton]
      constructor
      · rintro (⟨h1, h2⟩ | h1)
        · exact ⟨by omega, h2⟩
        · have : i = n := by omega
          subst this
          exact ⟨by omega, h⟩
      · rintro ⟨h1, h2⟩
        by_cases c : i = n
        · exact .inr (by omega)
        · exact .inl ⟨by omega, h2⟩
    · rename_i h
      rw [ih]
      constructor
      · rintro ⟨h1, h2⟩
        exact ⟨by omega, h2⟩
      · rintro ⟨h1, h2⟩
        refine ⟨?_, h2⟩
        by_cases c : i = n
        · subst c; exact absurd h2 h
        · omega
theorem aloneL_bound {fl : List Int} {gs : List (List Int)} (h : OkG gs) {g : List Int} : 0 ≤ aloneL fl gs g ∧ aloneL fl gs g ≤ 160000 * g.length := aloneF_bound h
set_option maxHeartbeats 4000000 in
theorem WaterTogether_at (fl : List Int) (gs : List (List Int)) (one two : Int) (h10 : 0 ≤ one) (h11 : one ≤ 255) (h20 : 0 ≤ two) (h21 : two ≤ 255) :
    FnAt Try.prog false 14 [.agg [.arr (.int .i64) fl, .arr (.sl (.int .i64)) gs], .lit (.int .u8 one), .lit (.int .u8 two)] (.lit (.bool true)) [] := by
  obtain ⟨F, G, hmade, hok, hm8, hl1, hl2, hl3⟩ := made_ex fl gs 8 (by omega) (by omega)
  have hR := riverOk.riv hok
  obtain ⟨A, hA⟩ : ∃ A : Nat → Bool, A = bitI one := ⟨_, rfl⟩
  obtain ⟨B, hB⟩ : ∃ B : Nat → Bool, B = fun i => !A i && bitI two i := ⟨_, rfl⟩
  obtain ⟨C, hC⟩ : ∃ C : Nat → Bool, C = fun i => A i || B i := ⟨_, rfl⟩
  have h8 : IntKind.u8.bits = 8 := rfl
  refine FnAt.of_body tys_ok Try.func14 (by rfl) rfl Try.ntmps14 (by rw [Try.results14]) (by simp) ?_
  
  repeat' (first
 | refine W.seq ?_
 | refine W.block ?_
 | (refine W.region tys_ok [] ?_; conv => whnf)
 | (refine W.drawAll tys_ok [] mixed rfl ?_; conv => whnf)
 | (refine W.ret ?_; conv => whnf)
 | (refine W.skip ?_; conv => whnf)
 | (refine W.exit ?_; conv => whnf)
 | (refine call_at (al := false) (hmade) rfl rfl rfl rfl ?_; conv => whnf)

    | (refine W.cond rfl (fun hb => ?_) (fun hb => ?_) <;> (try simp only [minL, maxL, pickB, getD_int, getD_sl, getD_bool, len_int, len_sl, len_bool, decide_eq_true_eq, decide_eq_false_iff_not, Bool.and_eq_true, Bool.or_eq_true, Bool.and_eq_false_iff, Bool.or_eq_false_iff, Bool.not_eq_true', Bool.not_eq_false', Bool.true_eq_false, Bool.false_eq_true, Int.toNat_natCast, Int.ofNat_lt, Int.ofNat_le, not_true_eq_false, not_false_eq_true, or_false, false_or, and_true, true_and, or_true, true_or, and_false, false_and] at hb) <;> (try (first | (cases hb; done) | exact absurd hb (by decide) | (exfalso; omega))))
    | ((with_reducible refine And.intro ?_ ?_); (focus ((repeat' (first | (with_reducible rfl) | (with_reducible refine And.intro ?_ ?_) | omega | rfl | exact Or.inl rfl | exact Or.inr rfl | (focus ((try simp only [minL, maxL, pickB, getD_int, getD_sl, getD_bool, len_int, len_sl, len_bool, decide_eq_true_eq, decide_eq_false_iff_not, Bool.and_eq_true, Bool.or_eq_true, Bool.and_eq_false_iff, Bool.or_eq_false_iff, Bool.not_eq_true', Bool.not_eq_false', Bool.true_eq_false, Bool.false_eq_true, Int.toNat_natCast, Int.ofNat_lt, Int.ofNat_le, not_true_eq_false, not_false_eq_true, or_false, false_or, and_true, true_and, or_true, true_or, and_false, false_and, InK, Path.imp, List.length_replicate, List.length_set, List.length_append, List.length_cons, List.length_nil] at *); omega)) | (refine app_le rfl ?_; omega))); done)); (conv => whnf))
    | ((with_reducible refine And.intro (Side.out ?_) ?_); rotate_left; (conv => whnf))
    | (refine retF1 ?_ <;> (conv => whnf) <;> repeat' (first
 | exact trivial
 | (with_reducible rfl)
 | ((with_reducible refine And.intro ?_ ?_) <;> conv => whnf)
 | omega
 | rfl
 | (refine congrArg (SV.arr _) ?_)
 | (refine congrArg (Value.int _) ?_)
 | (refine congrArg Value.bool ?_)))
 | (refine retF2 ?_ <;> (conv => whnf) <;> repeat' (first
 | exact trivial
 | (with_reducible rfl)
 | ((with_reducible refine And.intro ?_ ?_) <;> conv => whnf)
 | omega
 | rfl
 | (refine congrArg (SV.arr _) ?_)
 | (refine congrArg (Value.int _) ?_)
 | (refine congrArg Value.bool ?_)))); all_goals (try unfold Side)
  all_goals try (repeat' (first | (with_reducible rfl) | (with_reducible refine And.intro ?_ ?_) | omega | rfl | exact Or.inl rfl | exact Or.inr rfl | (focus ((try simp only [minL, maxL, pickB, getD_int, getD_sl, getD_bool, len_int, len_sl, len_bool, decide_eq_true_eq, decide_eq_false_iff_not, Bool.and_eq_true, Bool.or_eq_true, Bool.and_eq_false_iff, Bool.or_eq_false_iff, Bool.not_eq_true', Bool.not_eq_false', Bool.true_eq_false, Bool.false_eq_true, Int.toNat_natCast, Int.ofNat_lt, Int.ofNat_le, not_true_eq_false, not_false_eq_true, or_false, false_or, and_true, true_and, or_true, true_or, and_false, false_and, InK, Path.imp, List.length_replicate, List.length_set, List.length_append, List.length_cons, List.length_nil] at *); omega)) | (refine app_le rfl ?_; omega)))
  refine W.loop (fun i : Nat => ⟨[(1, .lit (.int .u8 one)), (2, .lit (.int .u8 two)), (7, .own 900007), (8, .own 900008), (9, .own 900009), (10, .own 900010), (11, .own 900011), (12, .lit (.int .i64 i))],
      [(900007, .row 3 (.int .i64) true F), (900008, .row 22 (.sl (.int .i64)) true G), (900009, .row 3 (.int .i64) true (grpI A i)), (900010, .row 3 (.int .i64) true (grpI B i)), (900011, .row 3 (.int .i64) true (grpI C i))]⟩)
    (fun i => i ≤ F.length) (fun i => F.length - i) 0 ?_ ?_
  · refine ⟨Nat.zero_le _, ?_⟩
    refine subF.ok ?_ <;> (conv => whnf) <;> repeat' (first
 | exact trivial
 | (with_reducible rfl)
 | ((with_reducible refine And.intro ?_ ?_) <;> conv => whnf)
 | omega
 | rfl
 | (refine congrArg (SV.arr _) ?_)
 | (refine congrArg (Value.int _) ?_)
 | (refine congrArg Value.bool ?_))
  · intro i hi
    have hla : @List.length (Ty.int .i64).T (grpI A i) ≤ i := grpI_len
    have hlb : @List.length (Ty.int .i64).T (grpI B i) ≤ i := grpI_len
    have hlc : @List.length (Ty.int .i64).T (grpI C i) ≤ i := grpI_len
    by_cases hil : i < F.length
    · have hs1 := shr_range (n := i) h10 h11
      have hs2 := shr_range (n := i) h20 h21
      repeat' (first
 | refine W.seq ?_
 | refine W.block ?_
 | (refine W.region tys_ok [] ?_; conv => whnf)
 | (refine W.drawAll tys_ok [] mixed rfl ?_; conv => whnf)
 | (refine W.ret ?_; conv => whnf)
 | (refine W.skip ?_; conv => whnf)
 | (refine W.exit ?_; conv => whnf)

    | (refine W.cond rfl (fun hb => ?_) (fun hb => ?_) <;> (try simp only [minL, maxL, pickB, getD_int, getD_sl, getD_bool, len_int, len_sl, len_bool, decide_eq_true_eq, decide_eq_false_iff_not, Bool.and_eq_true, Bool.or_eq_true, Bool.and_eq_false_iff, Bool.or_eq_false_iff, Bool.not_eq_true', Bool.not_eq_false', Bool.true_eq_false, Bool.false_eq_true, Int.toNat_natCast, Int.ofNat_lt, Int.ofNat_le, not_true_eq_false, not_false_eq_true, or_false, false_or, and_true, true_and, or_true, true_or, and_false, false_and] at hb) <;> (try (first | (cases hb; done) | exact absurd hb (by decide) | (exfalso; omega))))
    | ((with_reducible refine And.intro ?_ ?_); (focus ((repeat' (first | (with_reducible rfl) | (with_reducible refine And.intro ?_ ?_) | omega | rfl | exact Or.inl rfl | exact Or.inr rfl | (focus ((try simp only [minL, maxL, pickB, getD_int, getD_sl, getD_bool, len_int, len_sl, len_bool, decide_eq_true_eq, decide_eq_false_iff_not, Bool.and_eq_true, Bool.or_eq_true, Bool.and_eq_false_iff, Bool.or_eq_false_iff, Bool.not_eq_true', Bool.not_eq_false', Bool.true_eq_false, Bool.false_eq_true, Int.toNat_natCast, Int.ofNat_lt, Int.ofNat_le, not_true_eq_false, not_false_eq_true, or_false, false_or, and_true, true_and, or_true, true_or, and_false, false_and, InK, Path.imp, List.length_replicate, List.length_set, List.length_append, List.length_cons, List.length_nil] at *); omega)) | (refine app_le rfl ?_; omega))); done)); (conv => whnf))
    | ((with_reducible refine And.intro (Side.out ?_) ?_); rotate_left; (conv => whnf))
    | (refine retF1 ?_ <;> (conv => whnf) <;> repeat' (first
 | exact trivial
 | (with_reducible rfl)
 | ((with_reducible refine And.intro ?_ ?_) <;> conv => whnf)
 | omega
 | rfl
 | (refine congrArg (SV.arr _) ?_)
 | (refine congrArg (Value.int _) ?_)
 | (refine congrArg Value.bool ?_)))
 | (refine retF2 ?_ <;> (conv => whnf) <;> repeat' (first
 | exact trivial
 | (with_reducible rfl)
 | ((with_reducible refine And.intro ?_ ?_) <;> conv => whnf)
 | omega
 | rfl
 | (refine congrArg (SV.arr _) ?_)
 | (refine congrArg (Value.int _) ?_)
 | (refine congrArg Value.bool ?_)))); all_goals (try unfold Side)
      all_goals try (repeat' (first | (with_reducible rfl) | (with_reducible refine And.intro ?_ ?_) | omega | rfl | exact Or.inl rfl | exact Or.inr rfl | (focus ((try simp only [minL, maxL, pickB, getD_int, getD_sl, getD_bool, len_int, len_sl, len_bool, decide_eq_true_eq, decide_eq_false_iff_not, Bool.and_eq_true, Bool.or_eq_true, Bool.and_eq_false_iff, Bool.or_eq_false_iff, Bool.not_eq_true', Bool.not_eq_false', Bool.true_eq_false, Bool.false_eq_true, Int.toNat_natCast, Int.ofNat_lt, Int.ofNat_le, not_true_eq_false, not_false_eq_true, or_false, false_or, and_true, true_and, or_true, true_or, and_false, false_and, InK, Path.imp, List.length_replicate, List.length_set, List.length_append, List.length_cons, List.length_nil] at *); omega)) | (refine app_le rfl ?_; omega)))
      · have hAi : A i = true := by rw [hA]; exact decide_eq_true hb
        have e1 : grpI A (i + 1) = grpI A i ++ [(i : Int)] := by simp only [grpI, hAi, if_true]
        have e2 : grpI B (i + 1) = grpI B i := by simp [grpI, hB, hAi]
        have e3 : grpI C (i + 1) = grpI C i ++ [(i : Int)] := by simp [grpI, hC, hAi]
        refine ⟨i + 1, ⟨by omega, by omega⟩, ?_⟩
        refine subF.ok ?_ <;> (conv => whnf) <;> repeat' (first
 | exact trivial
 | (with_reducible rfl)
 | ((with_reducible refine And.intro ?_ ?_) <;> conv => whnf)
 | omega
 | rfl
 | (refine congrArg (SV.arr _) ?_)
 | (refine congrArg (Value.int _) ?_)
 | (refine congrArg Value.bool ?_))
        · exact e1.symm
        · exact e2.symm
        · exact e3.symm
      · rename_i _ hb1
        have hAi : A i = false := by rw [hA]; exact decide_eq_false hb1
        have hBi : bitI two i = true := decide_eq_true hb
        have e1 : grpI A (i + 1) = grpI A i := by simp [grpI, hAi]
        have e2 : grpI B (i + 1) = grpI B i ++ [(i : Int)] := by simp [grpI, hB, hAi, hBi]
        have e3 : grpI C (i + 1) = grpI C i ++ [(i : Int)] := by simp [grpI, hC, hB, hAi, hBi]
        refine ⟨i + 1, ⟨by omega, by omega⟩, ?_⟩
        refine subF.ok ?_ <;> (conv => whnf) <;> repeat' (first
 | exact trivial
 | (with_reducible rfl)
 | ((with_reducible refine And.intro ?_ ?_) <;> conv => whnf)
 | omega
 | rfl
 | (refine congrArg (SV.arr _) ?_)
 | (refine congrArg (Value.int _) ?_)
 | (refine congrArg Value.bool ?_))
        · exact e1.symm
        · exact e2.symm
        · exact e3.symm
      · rename_i _ hb1
        have hAi : A i = false := by rw [hA]; exact decide_eq_false hb1
        have hBi : bitI two i = false := decide_eq_false hb
        have e1 : grpI A (i + 1) = grpI A i := by simp [grpI, hAi]
        have e2 : grpI B (i + 1) = grpI B i := by simp [grpI, hB, hAi, hBi]
        have e3 : grpI C (i + 1) = grpI C i := by simp [grpI, hC, hB, hAi, hBi]
        refine ⟨i + 1, ⟨by omega, by omega⟩, ?_⟩
        refine subF.ok ?_ <;> (conv => whnf) <;> repeat' (first
 | exact trivial
 | (with_reducible rfl)
 | ((with_reducible refine And.intro ?_ ?_) <;> conv => whnf)
 | omega
 | rfl
 | (refine congrArg (SV.arr _) ?_)
 | (refine congrArg (Value.int _) ?_)
 | (refine congrArg Value.bool ?_))
        · exact e1.symm
        · exact e2.symm
        · exact e3.symm
    · have hie : i = F.length := by omega
      subst hie
      have hga : Grp F.length (grpI A F.length) := grpI_val
      have hgb : Grp F.length (grpI B F.length) := grpI_val
      have hgc : Grp F.length (grpI C F.length) := grpI_val
      have ht : Two F.length (grpI A F.length) (grpI B F.length) (grpI C F.length) := ⟨hga, hgb, hgc, fun i => by
        rw [grpI_in, grpI_in, grpI_in, hC]
        cases decide (i < F.length) <;> simp, fun i h => by
        rw [grpI_in] at h ⊢
        rw [Bool.and_eq_true] at h
        rw [hB]
        simp [h.2]⟩
      have t1 := ht.alone hR
      have t2 := ht.aspires hR
      have t3 := alone_aspires hR hgc
      have b1 := aloneL_bound (fl := F) hR.g (g := grpI A F.length)
      have b2 := aloneL_bound (fl := F) hR.g (g := grpI B F.length)
      have b4 := val_bound (fl := F) (hR.only (grpI A F.length)).g
      have b5 := val_bound (fl := F) (hR.only (grpI B F.length)).g
      have lA := grpI_len (S := A) (n := F.length)
      have lB := grpI_len (S := B) (n := F.length)
      have lC := grpI_len (S := C) (n := F.length)
      obtain ⟨a, ha⟩ : ∃ a, a = grpI A F.length := ⟨_, rfl⟩
      obtain ⟨b, hbe⟩ : ∃ a, a = grpI B F.length := ⟨_, rfl⟩
      obtain ⟨c, hc⟩ : ∃ a, a = grpI C F.length := ⟨_, rfl⟩
      rw [← ha] at hga t1 t2 b1 b4 lA
      rw [← hbe] at hgb t1 t2 b2 b5 lB
      rw [← hc] at hgc t1 t2 t3 lC
      have hAa := Alone_good (g := a) hl1 hl2 hl3 hok hga.grpB (by omega)
      have hAb := Alone_good (g := b) hl1 hl2 hl3 hok hgb.grpB (by omega)
      have hAc := Alone_good (g := c) hl1 hl2 hl3 hok hgc.grpB (by omega)
      have hPa := Aspires_good (g := a) hl1 hl2 hl3 hok hga.grpB (by omega)
      have hPb := Aspires_good (g := b) hl1 hl2 hl3 hok hgb.grpB (by omega)
      have hPc := Aspires_good (g := c) hl1 hl2 hl3 hok hgc.grpB (by omega)
      obtain ⟨u, hu⟩ : ∃ u, u = aloneL F G a := ⟨_, rfl⟩
      obtain ⟨v, hv⟩ : ∃ u, u = aloneL F G b := ⟨_, rfl⟩
      obtain ⟨w, hw⟩ : ∃ u, u = aloneL F G c := ⟨_, rfl⟩
      obtain ⟨p, hp⟩ : ∃ u, u = val F (onlyL G F.length a) := ⟨_, rfl⟩
      obtain ⟨q, hq⟩ : ∃ u, u = val F (onlyL G F.length b) := ⟨_, rfl⟩
      obtain ⟨r, hr⟩ : ∃ u, u = val F (onlyL G F.length c) := ⟨_, rfl⟩
      rw [← hu] at hAa t1 b1
      rw [← hv] at hAb t1 b2
      rw [← hw] at hAc t1 t3
      rw [← hp] at hPa t2 b4
      rw [← hq] at hPb t2 b5
      rw [← hr] at hPc t2 t3
      have ha' : @grpI A F.length = a := ha.symm
      refine W.resub (Γ' := ⟨[(7, .own 900007), (8, .own 900008), (9, .own 900009), (10, .own 900010), (11, .own 900011), (12, .lit (.int .i64 F.length))],
      [(900007, .row 3 (.int .i64) true F), (900008, .row 22 (.sl (.int .i64)) true G), (900009, .row 3 (.int .i64) true a), (900010, .row 3 (.int .i64) true b), (900011, .row 3 (.int .i64) true c)]⟩) ?_ ?_
      · refine subF.ok ?_ <;> (conv => whnf) <;> repeat' (first
 | exact trivial
 | (with_reducible rfl)
 | ((with_reducible refine And.intro ?_ ?_) <;> conv => whnf)
 | omega
 | rfl
 | (refine congrArg (SV.arr _) ?_)
 | (refine congrArg (Value.int _) ?_)
 | (refine congrArg Value.bool ?_))
        · exact ha.symm
        · exact hbe.symm
        · exact hc.symm
      · repeat' (first
 | refine W.seq ?_
 | refine W.block ?_
 | (refine W.region tys_ok [] ?_; conv => whnf)
 | (refine W.drawAll tys_ok [] mixed rfl ?_; conv => whnf)
 | (refine W.ret ?_; conv => whnf)
 | (refine W.skip ?_; conv => whnf)
 | (refine W.exit ?_; conv => whnf)
 | (refine call_at (al := false) (hAa) rfl rfl rfl rfl ?_; conv => whnf)
 | (refine call_at (al := false) (hAb) rfl rfl rfl rfl ?_; conv => whnf)
 | (refine call_at (al := false) (hAc) rfl rfl rfl rfl ?_; conv => whnf)
 | (refine call_at (al := false) (hPa) rfl rfl rfl rfl ?_; conv => whnf)
 | (refine call_at (al := false) (hPb) rfl rfl rfl rfl ?_; conv => whnf)
 | (refine call_at (al := false) (hPc) rfl rfl rfl rfl ?_; conv => whnf)
 | (refine call_at (al := false) (lives_at) rfl rfl rfl rfl ?_; conv => whnf)

    | (refine W.cond rfl (fun hb => ?_) (fun hb => ?_) <;> (try simp only [minL, maxL, pickB, getD_int, getD_sl, getD_bool, len_int, len_sl, len_bool, decide_eq_true_eq, decide_eq_false_iff_not, Bool.and_eq_true, Bool.or_eq_true, Bool.and_eq_false_iff, Bool.or_eq_false_iff, Bool.not_eq_true', Bool.not_eq_false', Bool.true_eq_false, Bool.false_eq_true, Int.toNat_natCast, Int.ofNat_lt, Int.ofNat_le, not_true_eq_false, not_false_eq_true, or_false, false_or, and_true, true_and, or_true, true_or, and_false, false_and] at hb) <;> (try (first | (cases hb; done) | exact absurd hb (by decide) | (exfalso; omega))))
    | ((with_reducible refine And.intro ?_ ?_); (focus ((repeat' (first | (with_reducible rfl) | (with_reducible refine And.intro ?_ ?_) | omega | rfl | exact Or.inl rfl | exact Or.inr rfl | (focus ((try simp only [minL, maxL, pickB, getD_int, getD_sl, getD_bool, len_int, len_sl, len_bool, decide_eq_true_eq, decide_eq_false_iff_not, Bool.and_eq_true, Bool.or_eq_true, Bool.and_eq_false_iff, Bool.or_eq_false_iff, Bool.not_eq_true', Bool.not_eq_false', Bool.true_eq_false, Bool.false_eq_true, Int.toNat_natCast, Int.ofNat_lt, Int.ofNat_le, not_true_eq_false, not_false_eq_true, or_false, false_or, and_true, true_and, or_true, true_or, and_false, false_and, InK, Path.imp, List.length_replicate, List.length_set, List.length_append, List.length_cons, List.length_nil] at *); omega)) | (refine app_le rfl ?_; omega))); done)); (conv => whnf))
    | ((with_reducible refine And.intro (Side.out ?_) ?_); rotate_left; (conv => whnf))
    | (refine retF1 ?_ <;> (conv => whnf) <;> repeat' (first
 | exact trivial
 | (with_reducible rfl)
 | ((with_reducible refine And.intro ?_ ?_) <;> conv => whnf)
 | omega
 | rfl
 | (refine congrArg (SV.arr _) ?_)
 | (refine congrArg (Value.int _) ?_)
 | (refine congrArg Value.bool ?_)))
 | (refine retF2 ?_ <;> (conv => whnf) <;> repeat' (first
 | exact trivial
 | (with_reducible rfl)
 | ((with_reducible refine And.intro ?_ ?_) <;> conv => whnf)
 | omega
 | rfl
 | (refine congrArg (SV.arr _) ?_)
 | (refine congrArg (Value.int _) ?_)
 | (refine congrArg Value.bool ?_)))); all_goals (try unfold Side)
        all_goals try (repeat' (first | (with_reducible rfl) | (with_reducible refine And.intro ?_ ?_) | omega | rfl | exact Or.inl rfl | exact Or.inr rfl | (focus ((try simp only [minL, maxL, pickB, getD_int, getD_sl, getD_bool, len_int, len_sl, len_bool, decide_eq_true_eq, decide_eq_false_iff_not, Bool.and_eq_true, Bool.or_eq_true, Bool.and_eq_false_iff, Bool.or_eq_false_iff, Bool.not_eq_true', Bool.not_eq_false', Bool.true_eq_false, Bool.false_eq_true, Int.toNat_natCast, Int.ofNat_lt, Int.ofNat_le, not_true_eq_false, not_false_eq_true, or_false, false_or, and_true, true_and, or_true, true_or, and_false, false_and, InK, Path.imp, List.length_replicate, List.length_set, List.length_append, List.length_cons, List.length_nil] at *); omega)) | (refine app_le rfl ?_; omega)))
end Go.Proofs.Ytohfemfgnohhdaa
/- WaterOnly: the law returns true. No condition. -/
namespace Go.Proofs.Ytohfemfgnohhdaa
open Go Go.Vc
set_option linter.unusedVariables false
set_option linter.unusedSimpArgs false

theorem due_step {fl : List Int} {gs : List (List Int)} (h : Riv fl gs) (j : Nat) : 0 ≤ lastV fl gs (j + 1) - lastV fl gs j ∧ lastV fl gs (j + 1) - lastV fl gs j ≤ 160000 := by
  have h1 := due_row h j 1
  have h2 := mx_nonneg (fs := (fl.drop j).take 1) (gs := (gs.drop j).take 1) (w := 0)
  have b1 := lastV_bound (fl := fl) h.g (i := j + 1)
  have b2 := lastV_bound (fl := fl) h.g (i := j)
  omega
theorem pow_range {n m : Nat} (h : n ≤ m) : (1 : Int) ≤ 2 ^ n ∧ (2 : Int) ^ n ≤ 2 ^ m := by
  have h1 : 1 ≤ 2 ^ n := Nat.one_le_two_pow
  have h2 : 2 ^ n ≤ 2 ^ m := Nat.pow_le_pow_right (by decide) h
  have e1 : ((2 ^ n : Nat) : Int) = 2 ^ n := by simp
  have e2 : ((2 ^ m : Nat) : Int) = 2 ^ m := by simp
  rw [← e1, ← e2]
  omega
/-- The sum of numbers of a group. -/
def sumS (O : List Int) (S : Nat → Bool) : Nat → Int
  | 0 => 0
  | i + 1 => if S i = true then sumS O S i + O.getD i 0 else sumS O S i
theorem sumS_bound {O : List Int} {S : Nat → Bool} (h : ∀ i, -200000 ≤ O.getD i 0 ∧ O.getD i 0 ≤ 200000) : ∀ {n : Nat}, -200000 * (n : Int) ≤ sumS O S n ∧ sumS O S n ≤ 200000 * (n : Int)
  | 0 => by simp [sumS]
  | n + 1 => by
    have h1 := sumS_bound h (S := S) (n := n)
    have h2 := h n
    simp only [sumS]
    split <;> omega
theorem sumS_congr {O : List Int} {S T : Nat → Bool} : ∀ {n : Nat}, (∀ i, i < n → S i = T i) → sumS O S n = sumS O T n
  | 0, _ => rfl
  | n + 1, h => by
    simp only [sumS]
    rw [sumS_congr fun i hi => h i (by omega), h n (by omega)]
/-- The sum over the first m of n places. -/
theorem sumS_first {O : List Int} {m : Nat} : ∀ {n : Nat}, m ≤ n → sumS O (fun i => decide (i < m)) n = sumS O (fun _ => true) m
  | 0, h => by
    have : m = 0 := by omega
    subst this; rfl
  | n + 1, h => by
    by_cases c : m = n + 1
    · subst c
      exact sumS_congr fun i hi => by simpa using hi
    · simp only [sumS]
      rw [if_neg (by simp; omega), sumS_first (by omega)]
theorem grpI_congr {S T : Nat → Bool} : ∀ {n : Nat}, (∀ i, i < n → S i = T i) → grpI S n = grpI T n
  | 0, _ => rfl
  | n + 1, h => by
    simp only [grpI]
    rw [grpI_congr fun i hi => h i (by omega), h n (by omega)]
theorem grpI_first {m : Nat} : ∀ {n : Nat}, m ≤ n → grpI (fun i => decide (i < m)) n = (List.range m).map fun (i : Nat) => (i : Int)
  | 0, h => by
    have : m = 0 := by omega
    subst this; rfl
  | n + 1, h => by
    by_cases c : m = n + 1
    · subst c
      simp only [grpI]
      rw [if_pos (by simp), grpI_congr (T := fun i => decide (i < n)) (fun i hi => by simp; omega), grpI_first (Nat.le_refl _), List.range_succ]
      simp
    · simp only [grpI]
      rw [if_neg (by simp; omega), grpI_first (by omega)]
theorem aspires_first {fl : List Int} {gs : List (List Int)} (h : Riv fl gs) {m : Nat} (hm : m ≤ fl.length) {g : List Int} (hg : Grp fl.length g) (hi : ∀ i, i < fl.length → inG g i = decide (i < m)) :
    val fl (onlyL gs fl.length g) = lastV fl gs m := by
  rw [aspires_eq h hg, lastV_mx h]
  have hlen := h.len
  have key : ∀ (k i : Nat) (fs : List Int) (gs' : List (List Int)) (w : Int), k ≤ fs.length → Sfx fs gs' → 0 ≤ w → (∀ j, j < fs.length → inG g (i + j) = decide (j < k)) → mP (inG g) i fs gs' w = mx (fs.take k) (gs'.take k) w := by
    intro k
    induction k with
    | zero =>
      intro i fs gs' w hk hs hw hin
      rw [List.take_zero, List.take_zero]
      clear hk
      induction fs generalizing i gs' w with
      | nil => simp [mP, mx]
      | cons f fs ih =>
        cases gs' with
        | nil => simp [mP, mx]
        | cons g' gs' =>
          have h0 := hin 0 (by simp)
          rw [Nat.add_zero] at h0
          simp only [mP, h0, mx]
          rw [if_neg (by simp)]
          have ht := hs.tail
          have := ih (i + 1) gs' (w + f) ht.1 (by omega) (fun j hj => by
            have := hin (j + 1) (by simpa using hj)
            rw [show i + 1 + j = i + (j + 1) from by omega, this]
            simp)
          rw [this]
          simp [mx]
    | succ k ih =>
      intro i fs gs' w hk hs hw hin
      cases fs with
      | nil => simp at hk
      | cons f fs =>
        cases gs' with
        | nil => have := hs.len; simp at this
        | cons g' gs' =>
          have h0 := hin 0 (by simp)
          rw [Nat.add_zero] at h0
          have ht := hs.tail
          simp only [mP, h0, List.take_succ_cons, mx]
          rw [if_pos (by simp)]
          refine mxF_congr fun x hx => ?_
          have hx := cntL_x hx (by omega)
          rw [ih (i + 1) fs gs' (w + f - x) (by simpa using hk) ht.1 (by omega) (fun j hj => by
            have := hin (j + 1) (by simpa using hj)
            rw [show i + 1 + j = i + (j + 1) from by omega, this]
            apply Bool.eq_iff_iff.2
            simp)]
  exact key m 0 fl gs 0 hm h.sfx (Int.le_refl 0) (fun j hj => by rw [Nat.zero_add]; exact hi j hj)
/-- No other numbers do what shares do. -/
theorem only_shares {fl : List Int} {gs : List (List Int)} (h : Riv fl gs) {O : List Int}
    (hall : ∀ s : Nat, s < 2 ^ fl.length → aloneL fl gs (grpI (bitI s) fl.length) ≤ sumS O (bitI s) fl.length ∧ sumS O (bitI s) fl.length ≤ val fl (onlyL gs fl.length (grpI (bitI s) fl.length))) :
    ∀ i, i < fl.length → O.getD i 0 = lastV fl gs (i + 1) - lastV fl gs i := by
  have pre : ∀ m, m ≤ fl.length → sumS O (fun _ => true) m = lastV fl gs m := fun m hm => by
    have hlt : 2 ^ m - 1 < 2 ^ fl.length := by
      have h1 : 1 ≤ 2 ^ m := Nat.one_le_two_pow
      have h2 : 2 ^ m ≤ 2 ^ fl.length := Nat.pow_le_pow_right (by decide) hm
      omega
    have hb : ∀ i, i < fl.length → bitI ((2 ^ m - 1 : Nat) : Int) i = decide (i < m) := fun i _ => by rw [bitI_nat, Nat.testBit_two_pow_sub_one]
    have h1 := hall _ hlt
    have e1 := grpI_congr (n := fl.length) hb
    have e2 := sumS_congr (O := O) (n := fl.length) hb
    have hg : Grp fl.length (grpI (fun i => decide (i < m)) fl.length) := grpI_val
    rw [e1, e2, sumS_first hm, aspires_first h hm hg (fun i hi => by rw [grpI_in]; simp [hi]), grpI_first hm, aloneL_last] at h1
    omega
  intro i hi
  have h1 := pre (i + 1) hi
  have h2 := pre i (by omega)
  simp only [sumS, if_true] at h1
  omega
def sameB (O t : List Int) : Nat → Bool
  | 0 => true
  | i + 1 => sameB O t i && decide (O.getD i 0 = t.getD i 0)
theorem sameB_of {O t : List Int} : ∀ {n : Nat}, (∀ i, i < n → O.getD i 0 = t.getD i 0) → sameB O t n = true
  | 0, _ => rfl
  | n + 1, h => by
    simp only [sameB, sameB_of (n := n) (fun i hi => h i (by omega)), Bool.true_and, decide_eq_true_eq]
    exact h n (by omega)
end Go.Proofs.Ytohfemfgnohhdaa
/- WaterOnly: the law returns true. No condition. -/
namespace Go.Proofs.Ytohfemfgnohhdaa
open Go Go.Vc
set_option linter.unusedVariables false
set_option linter.unusedSimpArgs false

set_option maxHeartbeats 4000000 in
theorem WaterOnly_at (fl : List Int) (gs : List (List Int)) (y : List Int) :
    FnAt Try.prog false 13 [.agg [.arr (.int .i64) fl, .arr (.sl (.int .i64)) gs], .arr (.int .i64) y] (.lit (.bool true)) [] := by
  obtain ⟨F, G, hmade, hok, hm8, hl1, hl2, hl3⟩ := made_ex fl gs 5 (by omega) (by omega)
  have hR := riverOk.riv hok
  have h64 : IntKind.i64.bits = 64 := rfl
  have hSh := Shares_good hok hl1 hl2 hl3
  obtain ⟨t, ht⟩ : ∃ s, s = sharesT F G F.length := ⟨_, rfl⟩
  rw [← ht] at hSh
  have htl : @List.length (Ty.int .i64).T t = @List.length (Ty.int .i64).T F := by rw [ht]; exact sharesT_len
  have hpw := pow_range hm8
  have hcast : ((2 ^ F.length : Nat) : Int) = 2 ^ F.length := by simp
  have hti : ∀ i, i < F.length → t.getD i 0 = lastV F G (i + 1) - lastV F G i := fun i hi => by rw [ht, sharesT_get hi]
  obtain ⟨O, hO⟩ : ∃ O : List Int, O = (List.range F.length).map fun i => t.getD i 0 + if i < y.length then foldI (y.getD i 0) 7 - 3 else 0 := ⟨_, rfl⟩
  have hOl : @List.length (Ty.int .i64).T O = F.length := by
    show O.length = F.length
    rw [hO]; simp
  have hOg : ∀ i, i < F.length → O.getD i 0 = t.getD i 0 + if i < y.length then foldI (y.getD i 0) 7 - 3 else 0 := fun i hi => by
    rw [hO, List.getD_eq_getElem?_getD, List.getElem?_map, List.getElem?_range hi]; rfl
  have hOb : ∀ i, -200000 ≤ O.getD i 0 ∧ O.getD i 0 ≤ 200000 := fun i => by
    by_cases hi : i < F.length
    · have h1 := due_step hR i
      have h2 := foldI_range (v := y.getD i 0) (n := 7) (by omega)
      rw [hOg i hi, hti i hi]
      split <;> omega
    · have : O.length = F.length := hOl
      rw [List.getD_eq_getElem?_getD, List.getElem?_eq_none (by omega)]
      simp
  clear hO
  refine FnAt.of_body tys_ok Try.func13 (by rfl) rfl Try.ntmps13 (by rw [Try.results13]) (by simp) ?_
  
  repeat' (first
 | refine W.seq ?_
 | refine W.block ?_
 | (refine W.region tys_ok [] ?_; conv => whnf)
 | (refine W.drawAll tys_ok [] mixed rfl ?_; conv => whnf)
 | (refine W.ret ?_; conv => whnf)
 | (refine W.skip ?_; conv => whnf)
 | (refine W.exit ?_; conv => whnf)
 | (refine call_at (al := false) (hmade) rfl rfl rfl rfl ?_; conv => whnf)
 | (refine call_at (al := false) (hSh) rfl rfl rfl rfl ?_; conv => whnf)
 | (refine call_at (al := false) (lives_at) rfl rfl rfl rfl ?_; conv => whnf)

    | (refine W.cond rfl (fun hb => ?_) (fun hb => ?_) <;> (try simp only [minL, maxL, pickB, getD_int, getD_sl, getD_bool, len_int, len_sl, len_bool, decide_eq_true_eq, decide_eq_false_iff_not, Bool.and_eq_true, Bool.or_eq_true, Bool.and_eq_false_iff, Bool.or_eq_false_iff, Bool.not_eq_true', Bool.not_eq_false', Bool.true_eq_false, Bool.false_eq_true, Int.toNat_natCast, Int.ofNat_lt, Int.ofNat_le, not_true_eq_false, not_false_eq_true, or_false, false_or, and_true, true_and, or_true, true_or, and_false, false_and] at hb) <;> (try (first | (cases hb; done) | exact absurd hb (by decide) | (exfalso; omega))))
    | ((with_reducible refine And.intro ?_ ?_); (focus ((repeat' (first | (with_reducible rfl) | (with_reducible refine And.intro ?_ ?_) | omega | rfl | exact Or.inl rfl | exact Or.inr rfl | (focus ((try simp only [minL, maxL, pickB, getD_int, getD_sl, getD_bool, len_int, len_sl, len_bool, decide_eq_true_eq, decide_eq_false_iff_not, Bool.and_eq_true, Bool.or_eq_true, Bool.and_eq_false_iff, Bool.or_eq_false_iff, Bool.not_eq_true', Bool.not_eq_false', Bool.true_eq_false, Bool.false_eq_true, Int.toNat_natCast, Int.ofNat_lt, Int.ofNat_le, not_true_eq_false, not_false_eq_true, or_false, false_or, and_true, true_and, or_true, true_or, and_false, false_and, InK, Path.imp, List.length_replicate, List.length_set, List.length_append, List.length_cons, List.length_nil] at *); omega)) | (refine app_le rfl ?_; omega))); done)); (conv => whnf))
    | ((with_reducible refine And.intro (Side.out ?_) ?_); rotate_left; (conv => whnf))
    | (refine retF1 ?_ <;> (conv => whnf) <;> repeat' (first
 | exact trivial
 | (with_reducible rfl)
 | ((with_reducible refine And.intro ?_ ?_) <;> conv => whnf)
 | omega
 | rfl
 | (refine congrArg (SV.arr _) ?_)
 | (refine congrArg (Value.int _) ?_)
 | (refine congrArg Value.bool ?_)))
 | (refine retF2 ?_ <;> (conv => whnf) <;> repeat' (first
 | exact trivial
 | (with_reducible rfl)
 | ((with_reducible refine And.intro ?_ ?_) <;> conv => whnf)
 | omega
 | rfl
 | (refine congrArg (SV.arr _) ?_)
 | (refine congrArg (Value.int _) ?_)
 | (refine congrArg Value.bool ?_)))); all_goals (try unfold Side)
  all_goals try (repeat' (first | (with_reducible rfl) | (with_reducible refine And.intro ?_ ?_) | omega | rfl | exact Or.inl rfl | exact Or.inr rfl | (focus ((try simp only [minL, maxL, pickB, getD_int, getD_sl, getD_bool, len_int, len_sl, len_bool, decide_eq_true_eq, decide_eq_false_iff_not, Bool.and_eq_true, Bool.or_eq_true, Bool.and_eq_false_iff, Bool.or_eq_false_iff, Bool.not_eq_true', Bool.not_eq_false', Bool.true_eq_false, Bool.false_eq_true, Int.toNat_natCast, Int.ofNat_lt, Int.ofNat_le, not_true_eq_false, not_false_eq_true, or_false, false_or, and_true, true_and, or_true, true_or, and_false, false_and, InK, Path.imp, List.length_replicate, List.length_set, List.length_append, List.length_cons, List.length_nil] at *); omega)) | (refine app_le rfl ?_; omega)))
  refine W.loop (fun i : Nat => ⟨[(1, .st false (.arr (.int .i64) y)), (5, .own 900005), (6, .own 900006), (7, .st true (.arr (.int .i64) t)), (9, .own 900009), (10, .lit (.bool (sameB O t i))), (11, .lit (.int .i64 i))],
      [(900005, .row 3 (.int .i64) true F), (900006, .row 22 (.sl (.int .i64)) true G), (900009, .row 3 (.int .i64) true (O.take i))]⟩)
    (fun i => i ≤ F.length) (fun i => F.length - i) 0 ?_ ?_
  · refine ⟨Nat.zero_le _, ?_⟩
    refine subF.ok ?_ <;> (conv => whnf) <;> repeat' (first
 | exact trivial
 | (with_reducible rfl)
 | ((with_reducible refine And.intro ?_ ?_) <;> conv => whnf)
 | omega
 | rfl
 | (refine congrArg (SV.arr _) ?_)
 | (refine congrArg (Value.int _) ?_)
 | (refine congrArg Value.bool ?_))
  · intro i hi
    have hOt : @List.length (Ty.int .i64).T (O.take i) ≤ i := by
      show (O.take i).length ≤ i
      rw [List.length_take]; omega
    by_cases hil : i < F.length
    · have hg := hOg i hil
      have h1 := due_step hR i
      have h2 := hti i hil
      have ht1 : O.take (i + 1) = O.take i ++ [O.getD i 0] := take_getD (by have : O.length = F.length := hOl; omega)
      have hbn := hOb i
      by_cases hiy : i < y.length
      · rw [if_pos hiy] at hg
        have hf := fold_at (y.getD i 0) 7 (by omega) (by omega)
        have hfr := foldI_range (v := y.getD i 0) (n := 7) (by omega)
        rw [hg] at ht1
        have hsm : sameB O t (i + 1) = (sameB O t i && decide (t.getD i 0 + (foldI (y.getD i 0) 7 - 3) = t.getD i 0)) := by simp only [sameB]; rw [hg]
        repeat' (first
 | refine W.seq ?_
 | refine W.block ?_
 | (refine W.drawPh (id := 12) tys_ok [] mixed [0, 0, 2, 5, 0, 24, 32, 32, 32, 416, 544, 1120, 2080, 47, 16383] [([0, 1, 4], 1, 23), ([], 1, 31), ([5, 6, 7, 8, 9, 10, 11, 12, 13, 14], 0, 32767)] (by decide +kernel) ?_; conv => whnf)
 | (refine W.region tys_ok [] ?_; conv => whnf)
 | (refine W.drawAll tys_ok [] mixed rfl ?_; conv => whnf)
 | (refine W.ret ?_; conv => whnf)
 | (refine W.skip ?_; conv => whnf)
 | (refine W.exit ?_; conv => whnf)
 | (refine call_at (al := false) (hf) rfl rfl rfl rfl ?_; conv => whnf)

    | (refine Both.mk ?_ ?_ <;> (conv => whnf))
    | (refine subF.leaf ?_ <;> (conv => whnf) <;> repeat' (first
 | exact trivial
 | (with_reducible rfl)
 | ((with_reducible refine And.intro ?_ ?_) <;> conv => whnf)
 | omega
 | rfl
 | (refine congrArg (SV.arr _) ?_)
 | (refine congrArg (Value.int _) ?_)
 | (refine congrArg Value.bool ?_)))
 | (refine subF.side ?_ <;> (conv => whnf) <;> repeat' (first
 | exact trivial
 | (with_reducible rfl)
 | ((with_reducible refine And.intro ?_ ?_) <;> conv => whnf)
 | omega
 | rfl
 | (refine congrArg (SV.arr _) ?_)
 | (refine congrArg (Value.int _) ?_)
 | (refine congrArg Value.bool ?_)))
 | (refine W.cond rfl (fun hb => ?_) (fun hb => ?_) <;> (try simp only [minL, maxL, pickB, getD_int, getD_sl, getD_bool, len_int, len_sl, len_bool, decide_eq_true_eq, decide_eq_false_iff_not, Bool.and_eq_true, Bool.or_eq_true, Bool.and_eq_false_iff, Bool.or_eq_false_iff, Bool.not_eq_true', Bool.not_eq_false', Bool.true_eq_false, Bool.false_eq_true, Int.toNat_natCast, Int.ofNat_lt, Int.ofNat_le, not_true_eq_false, not_false_eq_true, or_false, false_or, and_true, true_and, or_true, true_or, and_false, false_and] at hb) <;> (try (first | (cases hb; done) | exact absurd hb (by decide) | (exfalso; omega))))
 | ((with_reducible refine And.intro ?_ ?_); (focus ((repeat' (first | (with_reducible rfl) | (with_reducible refine And.intro ?_ ?_) | omega | rfl | exact Or.inl rfl | exact Or.inr rfl | (focus ((try simp only [minL, maxL, pickB, getD_int, getD_sl, getD_bool, len_int, len_sl, len_bool, decide_eq_true_eq, decide_eq_false_iff_not, Bool.and_eq_true, Bool.or_eq_true, Bool.and_eq_false_iff, Bool.or_eq_false_iff, Bool.not_eq_true', Bool.not_eq_false', Bool.true_eq_false, Bool.false_eq_true, Int.toNat_natCast, Int.ofNat_lt, Int.ofNat_le, not_true_eq_false, not_false_eq_true, or_false, false_or, and_true, true_and, or_true, true_or, and_false, false_and, InK, Path.imp, List.length_replicate, List.length_set, List.length_append, List.length_cons, List.length_nil] at *); omega)) | (refine app_le rfl ?_; omega))); done)); (conv => whnf))
 | ((with_reducible refine And.intro (Side.out ?_) ?_); rotate_left; (conv => whnf))
 | (refine retF1 ?_ <;> (conv => whnf) <;> repeat' (first
 | exact trivial
 | (with_reducible rfl)
 | ((with_reducible refine And.intro ?_ ?_) <;> conv => whnf)
 | omega
 | rfl
 | (refine congrArg (SV.arr _) ?_)
 | (refine congrArg (Value.int _) ?_)
 | (refine congrArg Value.bool ?_)))
 | (refine retF2 ?_ <;> (conv => whnf) <;> repeat' (first
 | exact trivial
 | (with_reducible rfl)
 | ((with_reducible refine And.intro ?_ ?_) <;> conv => whnf)
 | omega
 | rfl
 | (refine congrArg (SV.arr _) ?_)
 | (refine congrArg (Value.int _) ?_)
 | (refine congrArg Value.bool ?_)))); all_goals (try unfold Side)
        all_goals try (repeat' (first | (with_reducible rfl) | (with_reducible refine And.intro ?_ ?_) | omega | rfl | exact Or.inl rfl | exact Or.inr rfl | (focus ((try simp only [minL, maxL, pickB, getD_int, getD_sl, getD_bool, len_int, len_sl, len_bool, decide_eq_true_eq, decide_eq_false_iff_not, Bool.and_eq_true, Bool.or_eq_true, Bool.and_eq_false_iff, Bool.or_eq_false_iff, Bool.not_eq_true', Bool.not_eq_false', Bool.true_eq_false, Bool.false_eq_true, Int.toNat_natCast, Int.ofNat_lt, Int.ofNat_le, not_true_eq_false, not_false_eq_true, or_false, false_or, and_true, true_and, or_true, true_or, and_false, false_and, InK, Path.imp, List.length_replicate, List.length_set, List.length_append, List.length_cons, List.length_nil] at *); omega)) | (refine app_le rfl ?_; omega)))
        refine ⟨i + 1, ⟨by omega, by omega⟩, ?_⟩
        refine subF.ok ?_ <;> (conv => whnf) <;> repeat' (first
 | exact trivial
 | (with_reducible rfl)
 | ((with_reducible refine And.intro ?_ ?_) <;> conv => whnf)
 | omega
 | rfl
 | (refine congrArg (SV.arr _) ?_)
 | (refine congrArg (Value.int _) ?_)
 | (refine congrArg Value.bool ?_))
        · exact hsm.symm
        · exact ht1.symm
      · rw [if_neg hiy, Int.add_zero] at hg
        rw [hg] at ht1
        have hsm : sameB O t (i + 1) = (sameB O t i && decide (t.getD i 0 = t.getD i 0)) := by
          show (sameB O t i && decide (O.getD i 0 = t.getD i 0)) = _
          rw [hg]
        repeat' (first
 | refine W.seq ?_
 | refine W.block ?_
 | (refine W.drawPh (id := 12) tys_ok [] mixed [0, 0, 2, 5, 0, 24, 32, 32, 32, 416, 544, 1120, 2080, 47, 16383] [([0, 1, 4], 1, 23), ([], 1, 31), ([5, 6, 7, 8, 9, 10, 11, 12, 13, 14], 0, 32767)] (by decide +kernel) ?_; conv => whnf)
 | (refine W.region tys_ok [] ?_; conv => whnf)
 | (refine W.drawAll tys_ok [] mixed rfl ?_; conv => whnf)
 | (refine W.ret ?_; conv => whnf)
 | (refine W.skip ?_; conv => whnf)
 | (refine W.exit ?_; conv => whnf)

    | (refine Both.mk ?_ ?_ <;> (conv => whnf))
    | (refine subF.leaf ?_ <;> (conv => whnf) <;> repeat' (first
 | exact trivial
 | (with_reducible rfl)
 | ((with_reducible refine And.intro ?_ ?_) <;> conv => whnf)
 | omega
 | rfl
 | (refine congrArg (SV.arr _) ?_)
 | (refine congrArg (Value.int _) ?_)
 | (refine congrArg Value.bool ?_)))
 | (refine subF.side ?_ <;> (conv => whnf) <;> repeat' (first
 | exact trivial
 | (with_reducible rfl)
 | ((with_reducible refine And.intro ?_ ?_) <;> conv => whnf)
 | omega
 | rfl
 | (refine congrArg (SV.arr _) ?_)
 | (refine congrArg (Value.int _) ?_)
 | (refine congrArg Value.bool ?_)))
 | (refine W.cond rfl (fun hb => ?_) (fun hb => ?_) <;> (try simp only [minL, maxL, pickB, getD_int, getD_sl, getD_bool, len_int, len_sl, len_bool, decide_eq_true_eq, decide_eq_false_iff_not, Bool.and_eq_true, Bool.or_eq_true, Bool.and_eq_false_iff, Bool.or_eq_false_iff, Bool.not_eq_true', Bool.not_eq_false', Bool.true_eq_false, Bool.false_eq_true, Int.toNat_natCast, Int.ofNat_lt, Int.ofNat_le, not_true_eq_false, not_false_eq_true, or_false, false_or, and_true, true_and, or_true, true_or, and_false, false_and] at hb) <;> (try (first | (cases hb; done) | exact absurd hb (by decide) | (exfalso; omega))))
 | ((with_reducible refine And.intro ?_ ?_); (focus ((repeat' (first | (with_reducible rfl) | (with_reducible refine And.intro ?_ ?_) | omega | rfl | exact Or.inl rfl | exact Or.inr rfl | (focus ((try simp only [minL, maxL, pickB, getD_int, getD_sl, getD_bool, len_int, len_sl, len_bool, decide_eq_true_eq, decide_eq_false_iff_not, Bool.and_eq_true, Bool.or_eq_true, Bool.and_eq_false_iff, Bool.or_eq_false_iff, Bool.not_eq_true', Bool.not_eq_false', Bool.true_eq_false, Bool.false_eq_true, Int.toNat_natCast, Int.ofNat_lt, Int.ofNat_le, not_true_eq_false, not_false_eq_true, or_false, false_or, and_true, true_and, or_true, true_or, and_false, false_and, InK, Path.imp, List.length_replicate, List.length_set, List.length_append, List.length_cons, List.length_nil] at *); omega)) | (refine app_le rfl ?_; omega))); done)); (conv => whnf))
 | ((with_reducible refine And.intro (Side.out ?_) ?_); rotate_left; (conv => whnf))
 | (refine retF1 ?_ <;> (conv => whnf) <;> repeat' (first
 | exact trivial
 | (with_reducible rfl)
 | ((with_reducible refine And.intro ?_ ?_) <;> conv => whnf)
 | omega
 | rfl
 | (refine congrArg (SV.arr _) ?_)
 | (refine congrArg (Value.int _) ?_)
 | (refine congrArg Value.bool ?_)))
 | (refine retF2 ?_ <;> (conv => whnf) <;> repeat' (first
 | exact trivial
 | (with_reducible rfl)
 | ((with_reducible refine And.intro ?_ ?_) <;> conv => whnf)
 | omega
 | rfl
 | (refine congrArg (SV.arr _) ?_)
 | (refine congrArg (Value.int _) ?_)
 | (refine congrArg Value.bool ?_)))); all_goals (try unfold Side)
        all_goals try (repeat' (first | (with_reducible rfl) | (with_reducible refine And.intro ?_ ?_) | omega | rfl | exact Or.inl rfl | exact Or.inr rfl | (focus ((try simp only [minL, maxL, pickB, getD_int, getD_sl, getD_bool, len_int, len_sl, len_bool, decide_eq_true_eq, decide_eq_false_iff_not, Bool.and_eq_true, Bool.or_eq_true, Bool.and_eq_false_iff, Bool.or_eq_false_iff, Bool.not_eq_true', Bool.not_eq_false', Bool.true_eq_false, Bool.false_eq_true, Int.toNat_natCast, Int.ofNat_lt, Int.ofNat_le, not_true_eq_false, not_false_eq_true, or_false, false_or, and_true, true_and, or_true, true_or, and_false, false_and, InK, Path.imp, List.length_replicate, List.length_set, List.length_append, List.length_cons, List.length_nil] at *); omega)) | (refine app_le rfl ?_; omega)))
        refine ⟨i + 1, ⟨by omega, by omega⟩, ?_⟩
        refine subF.ok ?_ <;> (conv => whnf) <;> repeat' (first
 | exact trivial
 | (with_reducible rfl)
 | ((with_reducible refine And.intro ?_ ?_) <;> conv => whnf)
 | omega
 | rfl
 | (refine congrArg (SV.arr _) ?_)
 | (refine congrArg (Value.int _) ?_)
 | (refine congrArg Value.bool ?_))
        · exact hsm.symm
        · exact ht1.symm
    · have hie : i = F.length := by omega
      subst hie
      have hOe : @List.take (Ty.int .i64).T F.length O = O := by rw [← hOl]; exact List.take_length
      rw [hOe]
      repeat' (first
 | refine W.seq ?_
 | refine W.block ?_
 | (refine W.region tys_ok [] ?_; conv => whnf)
 | (refine W.drawAll tys_ok [] mixed rfl ?_; conv => whnf)
 | (refine W.ret ?_; conv => whnf)
 | (refine W.skip ?_; conv => whnf)
 | (refine W.exit ?_; conv => whnf)

    | (refine W.cond rfl (fun hb => ?_) (fun hb => ?_) <;> (try simp only [minL, maxL, pickB, getD_int, getD_sl, getD_bool, len_int, len_sl, len_bool, decide_eq_true_eq, decide_eq_false_iff_not, Bool.and_eq_true, Bool.or_eq_true, Bool.and_eq_false_iff, Bool.or_eq_false_iff, Bool.not_eq_true', Bool.not_eq_false', Bool.true_eq_false, Bool.false_eq_true, Int.toNat_natCast, Int.ofNat_lt, Int.ofNat_le, not_true_eq_false, not_false_eq_true, or_false, false_or, and_true, true_and, or_true, true_or, and_false, false_and] at hb) <;> (try (first | (cases hb; done) | exact absurd hb (by decide) | (exfalso; omega))))
    | ((with_reducible refine And.intro ?_ ?_); (focus ((repeat' (first | (with_reducible rfl) | (with_reducible refine And.intro ?_ ?_) | omega | rfl | exact Or.inl rfl | exact Or.inr rfl | (focus ((try simp only [minL, maxL, pickB, getD_int, getD_sl, getD_bool, len_int, len_sl, len_bool, decide_eq_true_eq, decide_eq_false_iff_not, Bool.and_eq_true, Bool.or_eq_true, Bool.and_eq_false_iff, Bool.or_eq_false_iff, Bool.not_eq_true', Bool.not_eq_false', Bool.true_eq_false, Bool.false_eq_true, Int.toNat_natCast, Int.ofNat_lt, Int.ofNat_le, not_true_eq_false, not_false_eq_true, or_false, false_or, and_true, true_and, or_true, true_or, and_false, false_and, InK, Path.imp, List.length_replicate, List.length_set, List.length_append, List.length_cons, List.length_nil] at *); omega)) | (refine app_le rfl ?_; omega))); done)); (conv => whnf))
    | ((with_reducible refine And.intro (Side.out ?_) ?_); rotate_left; (conv => whnf))
    | (refine retF1 ?_ <;> (conv => whnf) <;> repeat' (first
 | exact trivial
 | (with_reducible rfl)
 | ((with_reducible refine And.intro ?_ ?_) <;> conv => whnf)
 | omega
 | rfl
 | (refine congrArg (SV.arr _) ?_)
 | (refine congrArg (Value.int _) ?_)
 | (refine congrArg Value.bool ?_)))
 | (refine retF2 ?_ <;> (conv => whnf) <;> repeat' (first
 | exact trivial
 | (with_reducible rfl)
 | ((with_reducible refine And.intro ?_ ?_) <;> conv => whnf)
 | omega
 | rfl
 | (refine congrArg (SV.arr _) ?_)
 | (refine congrArg (Value.int _) ?_)
 | (refine congrArg Value.bool ?_)))); all_goals (try unfold Side)
      all_goals try (repeat' (first | (with_reducible rfl) | (with_reducible refine And.intro ?_ ?_) | omega | rfl | exact Or.inl rfl | exact Or.inr rfl | (focus ((try simp only [minL, maxL, pickB, getD_int, getD_sl, getD_bool, len_int, len_sl, len_bool, decide_eq_true_eq, decide_eq_false_iff_not, Bool.and_eq_true, Bool.or_eq_true, Bool.and_eq_false_iff, Bool.or_eq_false_iff, Bool.not_eq_true', Bool.not_eq_false', Bool.true_eq_false, Bool.false_eq_true, Int.toNat_natCast, Int.ofNat_lt, Int.ofNat_le, not_true_eq_false, not_false_eq_true, or_false, false_or, and_true, true_and, or_true, true_or, and_false, false_and, InK, Path.imp, List.length_replicate, List.length_set, List.length_append, List.length_cons, List.length_nil] at *); omega)) | (refine app_le rfl ?_; omega)))
      have hsf : sameB O t F.length = false := by assumption
      refine W.loop (fun s : Nat => ⟨[(5, .own 900005), (6, .own 900006), (9, .st true (.arr (.int .i64) O)), (13, .lit (.int .i64 s))],
          [(900005, .row 3 (.int .i64) true F), (900006, .row 22 (.sl (.int .i64)) true G)]⟩)
        (fun s => s ≤ 2 ^ F.length ∧ ∀ r, r < s → aloneL F G (grpI (bitI r) F.length) ≤ sumS O (bitI r) F.length ∧ sumS O (bitI r) F.length ≤ val F (onlyL G F.length (grpI (bitI r) F.length))) (fun s => 2 ^ F.length - s) 0 ?_ ?_
      · refine ⟨⟨Nat.zero_le _, fun r hr => by omega⟩, ?_⟩
        refine subF.ok ?_ <;> (conv => whnf) <;> repeat' (first
 | exact trivial
 | (with_reducible rfl)
 | ((with_reducible refine And.intro ?_ ?_) <;> conv => whnf)
 | omega
 | rfl
 | (refine congrArg (SV.arr _) ?_)
 | (refine congrArg (Value.int _) ?_)
 | (refine congrArg Value.bool ?_))
      · intro s hs
        obtain ⟨hs, hall⟩ := hs
        by_cases hsl : s < 2 ^ F.length
        · have hsi : (s : Int) < 2 ^ F.length := by omega
          repeat' (first
 | refine W.seq ?_
 | refine W.block ?_
 | (refine W.region tys_ok [] ?_; conv => whnf)
 | (refine W.drawAll tys_ok [] mixed rfl ?_; conv => whnf)
 | (refine W.ret ?_; conv => whnf)
 | (refine W.skip ?_; conv => whnf)
 | (refine W.exit ?_; conv => whnf)

    | (refine W.cond rfl (fun hb => ?_) (fun hb => ?_) <;> (try simp only [minL, maxL, pickB, getD_int, getD_sl, getD_bool, len_int, len_sl, len_bool, decide_eq_true_eq, decide_eq_false_iff_not, Bool.and_eq_true, Bool.or_eq_true, Bool.and_eq_false_iff, Bool.or_eq_false_iff, Bool.not_eq_true', Bool.not_eq_false', Bool.true_eq_false, Bool.false_eq_true, Int.toNat_natCast, Int.ofNat_lt, Int.ofNat_le, not_true_eq_false, not_false_eq_true, or_false, false_or, and_true, true_and, or_true, true_or, and_false, false_and] at hb) <;> (try (first | (cases hb; done) | exact absurd hb (by decide) | (exfalso; omega))))
    | ((with_reducible refine And.intro ?_ ?_); (focus ((repeat' (first | (with_reducible rfl) | (with_reducible refine And.intro ?_ ?_) | omega | rfl | exact Or.inl rfl | exact Or.inr rfl | (focus ((try simp only [minL, maxL, pickB, getD_int, getD_sl, getD_bool, len_int, len_sl, len_bool, decide_eq_true_eq, decide_eq_false_iff_not, Bool.and_eq_true, Bool.or_eq_true, Bool.and_eq_false_iff, Bool.or_eq_false_iff, Bool.not_eq_true', Bool.not_eq_false', Bool.true_eq_false, Bool.false_eq_true, Int.toNat_natCast, Int.ofNat_lt, Int.ofNat_le, not_true_eq_false, not_false_eq_true, or_false, false_or, and_true, true_and, or_true, true_or, and_false, false_and, InK, Path.imp, List.length_replicate, List.length_set, List.length_append, List.length_cons, List.length_nil] at *); omega)) | (refine app_le rfl ?_; omega))); done)); (conv => whnf))
    | ((with_reducible refine And.intro (Side.out ?_) ?_); rotate_left; (conv => whnf))
    | (refine retF1 ?_ <;> (conv => whnf) <;> repeat' (first
 | exact trivial
 | (with_reducible rfl)
 | ((with_reducible refine And.intro ?_ ?_) <;> conv => whnf)
 | omega
 | rfl
 | (refine congrArg (SV.arr _) ?_)
 | (refine congrArg (Value.int _) ?_)
 | (refine congrArg Value.bool ?_)))
 | (refine retF2 ?_ <;> (conv => whnf) <;> repeat' (first
 | exact trivial
 | (with_reducible rfl)
 | ((with_reducible refine And.intro ?_ ?_) <;> conv => whnf)
 | omega
 | rfl
 | (refine congrArg (SV.arr _) ?_)
 | (refine congrArg (Value.int _) ?_)
 | (refine congrArg Value.bool ?_)))); all_goals (try unfold Side)
          all_goals try (repeat' (first | (with_reducible rfl) | (with_reducible refine And.intro ?_ ?_) | omega | rfl | exact Or.inl rfl | exact Or.inr rfl | (focus ((try simp only [minL, maxL, pickB, getD_int, getD_sl, getD_bool, len_int, len_sl, len_bool, decide_eq_true_eq, decide_eq_false_iff_not, Bool.and_eq_true, Bool.or_eq_true, Bool.and_eq_false_iff, Bool.or_eq_false_iff, Bool.not_eq_true', Bool.not_eq_false', Bool.true_eq_false, Bool.false_eq_true, Int.toNat_natCast, Int.ofNat_lt, Int.ofNat_le, not_true_eq_false, not_false_eq_true, or_false, false_or, and_true, true_and, or_true, true_or, and_false, false_and, InK, Path.imp, List.length_replicate, List.length_set, List.length_append, List.length_cons, List.length_nil] at *); omega)) | (refine app_le rfl ?_; omega)))
          refine W.loop (fun i : Nat => ⟨[(5, .own 900005), (6, .own 900006), (9, .st true (.arr (.int .i64) O)), (13, .lit (.int .i64 s)), (14, .own 900014), (15, .lit (.int .i64 (sumS O (bitI s) i))), (16, .lit (.int .i64 i))],
              [(900005, .row 3 (.int .i64) true F), (900006, .row 22 (.sl (.int .i64)) true G), (900014, .row 3 (.int .i64) true (grpI (bitI s) i))]⟩)
            (fun i => i ≤ F.length) (fun i => F.length - i) 0 ?_ ?_
          · refine ⟨Nat.zero_le _, ?_⟩
            refine subF.ok ?_ <;> (conv => whnf) <;> repeat' (first
 | exact trivial
 | (with_reducible rfl)
 | ((with_reducible refine And.intro ?_ ?_) <;> conv => whnf)
 | omega
 | rfl
 | (refine congrArg (SV.arr _) ?_)
 | (refine congrArg (Value.int _) ?_)
 | (refine congrArg Value.bool ?_))
          · intro i hi
            have hla : @List.length (Ty.int .i64).T (grpI (bitI s) i) ≤ i := grpI_len
            have hdb := sumS_bound hOb (S := bitI s) (n := i)
            by_cases hil : i < F.length
            · have hs1 := shr_range (n := i) (v := (s : Int)) (m := 64) (by omega) (by omega)
              have hbn := hOb i
              repeat' (first
 | refine W.seq ?_
 | refine W.block ?_
 | (refine W.drawTree (id := 23) tys_ok [] mixed [0, 1, 4, 5, 6, 7, 8, 9] [0, 0, 2, 5, 0, 0, 0, 96, 128, 272, 15, 2047] 4 1011 ⟨[(5, .own 900005), (6, .own 900006), (9, .st true (.arr (.int .i64) O)), (13, .lit (.int .i64 s)), (14, .own 900014), (15, .lit (.int .i64 (sumS O (bitI s) i + O.getD i 0))), (16, .lit (.int .i64 i))],
              [(900005, .row 3 (.int .i64) true F), (900006, .row 22 (.sl (.int .i64)) true G), (900014, .row 3 (.int .i64) true (grpI (bitI s) i ++ [(i : Int)]))]⟩ (by decide +kernel) ?_ ?_ <;> (conv => whnf))
    | (refine W.region tys_ok [] ?_; conv => whnf)
    | (refine W.drawAll tys_ok [] mixed rfl ?_; conv => whnf)
    | (refine W.ret ?_; conv => whnf)
    | (refine W.skip ?_; conv => whnf)
    | (refine W.exit ?_; conv => whnf)

    | (refine Both.mk ?_ ?_ <;> (conv => whnf))
    | (refine subF.leaf ?_ <;> (conv => whnf) <;> repeat' (first
 | exact trivial
 | (with_reducible rfl)
 | ((with_reducible refine And.intro ?_ ?_) <;> conv => whnf)
 | omega
 | rfl
 | (refine congrArg (SV.arr _) ?_)
 | (refine congrArg (Value.int _) ?_)
 | (refine congrArg Value.bool ?_)))
 | (refine subF.side ?_ <;> (conv => whnf) <;> repeat' (first
 | exact trivial
 | (with_reducible rfl)
 | ((with_reducible refine And.intro ?_ ?_) <;> conv => whnf)
 | omega
 | rfl
 | (refine congrArg (SV.arr _) ?_)
 | (refine congrArg (Value.int _) ?_)
 | (refine congrArg Value.bool ?_)))
 | (refine W.cond rfl (fun hb => ?_) (fun hb => ?_) <;> (try simp only [minL, maxL, pickB, getD_int, getD_sl, getD_bool, len_int, len_sl, len_bool, decide_eq_true_eq, decide_eq_false_iff_not, Bool.and_eq_true, Bool.or_eq_true, Bool.and_eq_false_iff, Bool.or_eq_false_iff, Bool.not_eq_true', Bool.not_eq_false', Bool.true_eq_false, Bool.false_eq_true, Int.toNat_natCast, Int.ofNat_lt, Int.ofNat_le, not_true_eq_false, not_false_eq_true, or_false, false_or, and_true, true_and, or_true, true_or, and_false, false_and] at hb) <;> (try (first | (cases hb; done) | exact absurd hb (by decide) | (exfalso; omega))))
 | ((with_reducible refine And.intro ?_ ?_); (focus ((repeat' (first | (with_reducible rfl) | (with_reducible refine And.intro ?_ ?_) | omega | rfl | exact Or.inl rfl | exact Or.inr rfl | (focus ((try simp only [minL, maxL, pickB, getD_int, getD_sl, getD_bool, len_int, len_sl, len_bool, decide_eq_true_eq, decide_eq_false_iff_not, Bool.and_eq_true, Bool.or_eq_true, Bool.and_eq_false_iff, Bool.or_eq_false_iff, Bool.not_eq_true', Bool.not_eq_false', Bool.true_eq_false, Bool.false_eq_true, Int.toNat_natCast, Int.ofNat_lt, Int.ofNat_le, not_true_eq_false, not_false_eq_true, or_false, false_or, and_true, true_and, or_true, true_or, and_false, false_and, InK, Path.imp, List.length_replicate, List.length_set, List.length_append, List.length_cons, List.length_nil] at *); omega)) | (refine app_le rfl ?_; omega))); done)); (conv => whnf))
 | ((with_reducible refine And.intro (Side.out ?_) ?_); rotate_left; (conv => whnf))
 | (refine retF1 ?_ <;> (conv => whnf) <;> repeat' (first
 | exact trivial
 | (with_reducible rfl)
 | ((with_reducible refine And.intro ?_ ?_) <;> conv => whnf)
 | omega
 | rfl
 | (refine congrArg (SV.arr _) ?_)
 | (refine congrArg (Value.int _) ?_)
 | (refine congrArg Value.bool ?_)))
 | (refine retF2 ?_ <;> (conv => whnf) <;> repeat' (first
 | exact trivial
 | (with_reducible rfl)
 | ((with_reducible refine And.intro ?_ ?_) <;> conv => whnf)
 | omega
 | rfl
 | (refine congrArg (SV.arr _) ?_)
 | (refine congrArg (Value.int _) ?_)
 | (refine congrArg Value.bool ?_)))); all_goals (try unfold Side)
              all_goals try (repeat' (first | (with_reducible rfl) | (with_reducible refine And.intro ?_ ?_) | omega | rfl | exact Or.inl rfl | exact Or.inr rfl | (focus ((try simp only [minL, maxL, pickB, getD_int, getD_sl, getD_bool, len_int, len_sl, len_bool, decide_eq_true_eq, decide_eq_false_iff_not, Bool.and_eq_true, Bool.or_eq_true, Bool.and_eq_false_iff, Bool.or_eq_false_iff, Bool.not_eq_true', Bool.not_eq_false', Bool.true_eq_false, Bool.false_eq_true, Int.toNat_natCast, Int.ofNat_lt, Int.ofNat_le, not_true_eq_false, not_false_eq_true, or_false, false_or, and_true, true_and, or_true, true_or, and_false, false_and, InK, Path.imp, List.length_replicate, List.length_set, List.length_append, List.length_cons, List.length_nil] at *); omega)) | (refine app_le rfl ?_; omega)))
              · have hS : bitI s i = true := decide_eq_true (by assumption)
                have e1 : grpI (bitI s) (i + 1) = grpI (bitI s) i ++ [(i : Int)] := by simp [grpI, hS]
                have e2 : sumS O (bitI s) (i + 1) = sumS O (bitI s) i + O.getD i 0 := by simp [sumS, hS]
                refine ⟨i + 1, ⟨by omega, by omega⟩, ?_⟩
                refine subF.ok ?_ <;> (conv => whnf) <;> repeat' (first
 | exact trivial
 | (with_reducible rfl)
 | ((with_reducible refine And.intro ?_ ?_) <;> conv => whnf)
 | omega
 | rfl
 | (refine congrArg (SV.arr _) ?_)
 | (refine congrArg (Value.int _) ?_)
 | (refine congrArg Value.bool ?_))
                · exact e1.symm
              · have hS : bitI s i = false := decide_eq_false (by assumption)
                have e1 : grpI (bitI s) (i + 1) = grpI (bitI s) i := by simp [grpI, hS]
                have e2 : sumS O (bitI s) (i + 1) = sumS O (bitI s) i := by simp [sumS, hS]
                refine ⟨i + 1, ⟨by omega, by omega⟩, ?_⟩
                refine subF.ok ?_ <;> (conv => whnf) <;> repeat' (first
 | exact trivial
 | (with_reducible rfl)
 | ((with_reducible refine And.intro ?_ ?_) <;> conv => whnf)
 | omega
 | rfl
 | (refine congrArg (SV.arr _) ?_)
 | (refine congrArg (Value.int _) ?_)
 | (refine congrArg Value.bool ?_))
                · exact e1.symm
            · have hie : i = F.length := by omega
              subst hie
              have hga : Grp F.length (grpI (bitI s) F.length) := grpI_val
              have lA := grpI_len (S := bitI s) (n := F.length)
              obtain ⟨a, ha⟩ : ∃ a, a = grpI (bitI s) F.length := ⟨_, rfl⟩
              obtain ⟨D, hD⟩ : ∃ a, a = sumS O (bitI s) F.length := ⟨_, rfl⟩
              have hnx : (aloneL F G a ≤ D ∧ D ≤ val F (onlyL G F.length a)) → ∀ r, r < s + 1 → aloneL F G (grpI (bitI r) F.length) ≤ sumS O (bitI r) F.length ∧ sumS O (bitI r) F.length ≤ val F (onlyL G F.length (grpI (bitI r) F.length)) := fun h r hr => by
                by_cases c : r = s
                · subst c; rw [ha, hD] at h; exact h
                · exact hall r (by omega)
              rw [← ha] at hga lA
              rw [← hD] at hdb
              have hAa := Alone_good (g := a) hl1 hl2 hl3 hok hga.grpB (by omega)
              have hPa := Aspires_good (g := a) hl1 hl2 hl3 hok hga.grpB (by omega)
              obtain ⟨u, hu⟩ : ∃ u, u = aloneL F G a := ⟨_, rfl⟩
              obtain ⟨p, hp⟩ : ∃ u, u = val F (onlyL G F.length a) := ⟨_, rfl⟩
              rw [← hu] at hAa hnx
              rw [← hp] at hPa hnx
              refine W.resub (Γ' := ⟨[(5, .own 900005), (6, .own 900006), (9, .st true (.arr (.int .i64) O)), (13, .lit (.int .i64 s)), (14, .own 900014), (15, .lit (.int .i64 D)), (16, .lit (.int .i64 F.length))],
              [(900005, .row 3 (.int .i64) true F), (900006, .row 22 (.sl (.int .i64)) true G), (900014, .row 3 (.int .i64) true a)]⟩) ?_ ?_
              · refine subF.ok ?_ <;> (conv => whnf) <;> repeat' (first
 | exact trivial
 | (with_reducible rfl)
 | ((with_reducible refine And.intro ?_ ?_) <;> conv => whnf)
 | omega
 | rfl
 | (refine congrArg (SV.arr _) ?_)
 | (refine congrArg (Value.int _) ?_)
 | (refine congrArg Value.bool ?_))
                · exact ha.symm
              · repeat' (first
 | refine W.seq ?_
 | refine W.block ?_
 | (refine W.region tys_ok [] ?_; conv => whnf)
 | (refine W.drawAll tys_ok [] mixed rfl ?_; conv => whnf)
 | (refine W.ret ?_; conv => whnf)
 | (refine W.skip ?_; conv => whnf)
 | (refine W.exit ?_; conv => whnf)
 | (refine call_at (al := false) (hAa) rfl rfl rfl rfl ?_; conv => whnf)
 | (refine call_at (al := false) (hPa) rfl rfl rfl rfl ?_; conv => whnf)

    | (refine W.cond rfl (fun hb => ?_) (fun hb => ?_) <;> (try simp only [minL, maxL, pickB, getD_int, getD_sl, getD_bool, len_int, len_sl, len_bool, decide_eq_true_eq, decide_eq_false_iff_not, Bool.and_eq_true, Bool.or_eq_true, Bool.and_eq_false_iff, Bool.or_eq_false_iff, Bool.not_eq_true', Bool.not_eq_false', Bool.true_eq_false, Bool.false_eq_true, Int.toNat_natCast, Int.ofNat_lt, Int.ofNat_le, not_true_eq_false, not_false_eq_true, or_false, false_or, and_true, true_and, or_true, true_or, and_false, false_and] at hb) <;> (try (first | (cases hb; done) | exact absurd hb (by decide) | (exfalso; omega))))
    | ((with_reducible refine And.intro ?_ ?_); (focus ((repeat' (first | (with_reducible rfl) | (with_reducible refine And.intro ?_ ?_) | omega | rfl | exact Or.inl rfl | exact Or.inr rfl | (focus ((try simp only [minL, maxL, pickB, getD_int, getD_sl, getD_bool, len_int, len_sl, len_bool, decide_eq_true_eq, decide_eq_false_iff_not, Bool.and_eq_true, Bool.or_eq_true, Bool.and_eq_false_iff, Bool.or_eq_false_iff, Bool.not_eq_true', Bool.not_eq_false', Bool.true_eq_false, Bool.false_eq_true, Int.toNat_natCast, Int.ofNat_lt, Int.ofNat_le, not_true_eq_false, not_false_eq_true, or_false, false_or, and_true, true_and, or_true, true_or, and_false, false_and, InK, Path.imp, List.length_replicate, List.length_set, List.length_append, List.length_cons, List.length_nil] at *); omega)) | (refine app_le rfl ?_; omega))); done)); (conv => whnf))
    | ((with_reducible refine And.intro (Side.out ?_) ?_); rotate_left; (conv => whnf))
    | (refine retF1 ?_ <;> (conv => whnf) <;> repeat' (first
 | exact trivial
 | (with_reducible rfl)
 | ((with_reducible refine And.intro ?_ ?_) <;> conv => whnf)
 | omega
 | rfl
 | (refine congrArg (SV.arr _) ?_)
 | (refine congrArg (Value.int _) ?_)
 | (refine congrArg Value.bool ?_)))
 | (refine retF2 ?_ <;> (conv => whnf) <;> repeat' (first
 | exact trivial
 | (with_reducible rfl)
 | ((with_reducible refine And.intro ?_ ?_) <;> conv => whnf)
 | omega
 | rfl
 | (refine congrArg (SV.arr _) ?_)
 | (refine congrArg (Value.int _) ?_)
 | (refine congrArg Value.bool ?_)))); all_goals (try unfold Side)
                all_goals try (repeat' (first | (with_reducible rfl) | (with_reducible refine And.intro ?_ ?_) | omega | rfl | exact Or.inl rfl | exact Or.inr rfl | (focus ((try simp only [minL, maxL, pickB, getD_int, getD_sl, getD_bool, len_int, len_sl, len_bool, decide_eq_true_eq, decide_eq_false_iff_not, Bool.and_eq_true, Bool.or_eq_true, Bool.and_eq_false_iff, Bool.or_eq_false_iff, Bool.not_eq_true', Bool.not_eq_false', Bool.true_eq_false, Bool.false_eq_true, Int.toNat_natCast, Int.ofNat_lt, Int.ofNat_le, not_true_eq_false, not_false_eq_true, or_false, false_or, and_true, true_and, or_true, true_or, and_false, false_and, InK, Path.imp, List.length_replicate, List.length_set, List.length_append, List.length_cons, List.length_nil] at *); omega)) | (refine app_le rfl ?_; omega)))
                refine ⟨s + 1, ⟨⟨by omega, hnx (by omega)⟩, by omega⟩, ?_⟩
                refine subF.ok ?_ <;> (conv => whnf) <;> repeat' (first
 | exact trivial
 | (with_reducible rfl)
 | ((with_reducible refine And.intro ?_ ?_) <;> conv => whnf)
 | omega
 | rfl
 | (refine congrArg (SV.arr _) ?_)
 | (refine congrArg (Value.int _) ?_)
 | (refine congrArg Value.bool ?_))
        · have hse : s = 2 ^ F.length := by omega
          subst hse
          have := sameB_of (O := O) (t := t) (n := F.length) fun i hi => by rw [only_shares hR hall i hi, hti i hi]
          rw [this] at hsf
          cases hsf
end Go.Proofs.Ytohfemfgnohhdaa
