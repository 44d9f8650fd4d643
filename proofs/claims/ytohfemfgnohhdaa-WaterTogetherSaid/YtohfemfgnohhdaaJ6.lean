/- Joined of: W30 W31 W35 W36 Vc27 W38. No condition. -/
import Derived.Test.YtohfemfgnohhdaaJ5
import Derived.Test.YtohfemfgnohhdaaJ3
import Derived.Test.YtohfemfgnohhdaaJ2

/- A valid river made of any numbers. No condition. -/
namespace Go.Proofs.Ytohfemfgnohhdaa
open Go Go.Vc
set_option linter.unusedVariables false
set_option linter.unusedSimpArgs false

def foldI (v n : Int) : Int := (v.tmod n + n).tmod n
theorem foldI_range {v n : Int} (hn : 0 < n) : 0 ≤ foldI v n ∧ foldI v n < n := by
  have h1 := Int.lt_tmod_of_pos v hn
  have h2 := Int.tmod_lt_of_pos v hn
  have h3 : 0 ≤ v.tmod n + n := by omega
  exact ⟨Int.tmod_nonneg n h3, Int.tmod_lt_of_pos _ hn⟩
theorem foldI_id {v n : Int} (h0 : 0 ≤ v) (hn : v < n) : foldI v n = v := by
  unfold foldI
  rw [Int.tmod_eq_of_lt h0 hn, Int.tmod_eq_emod_of_nonneg (by omega), Int.add_emod_right, Int.emod_eq_of_lt h0 hn]
theorem fold_at (v n : Int) (hn : 0 < n) (hn2 : n ≤ 1000000) : FnAt Try.prog false 25 [.lit (.int .i64 v), .lit (.int .i64 n)] (.lit (.int .i64 (foldI v n))) [] := by
  have h1 := Int.lt_tmod_of_pos v hn
  have h2 := Int.tmod_lt_of_pos v hn
  refine FnAt.of_body tys_ok Try.func25 (by rfl) rfl Try.ntmps25 (by rw [Try.results25]) (by simp) ?_
  
  repeat' (first
    | refine W.seq ?_
    | refine W.block ?_
    | (refine W.region tys_ok [] ?_; conv => whnf)
    | (refine W.drawAll tys_ok [] mixed rfl ?_; conv => whnf)
    | (refine W.ret ?_; conv => whnf)
    | (refine W.skip ?_; conv => whnf)
    | (refine W.exit ?_; conv => whnf)

    | (refine W.cond rfl (fun hb => ?_) (fun hb => ?_) <;> (try simp only [minL, maxL, pickB, getD_int, getD_sl, getD_bool, len_int, len_sl, len_bool, decide_eq_true_eq, decide_eq_false_iff_not, Bool.and_eq_true, Bool.or_eq_true, Bool.and_eq_false_iff, Bool.or_eq_false_iff, Bool.not_eq_true', Bool.not_eq_false', Bool.true_eq_false, Bool.false_eq_true, Int.toNat_natCast, Int.ofNat_lt, Int.ofNat_le, not_true_eq_false, not_false_eq_true, or_false, false_or, and_true, true_and, or_true, true_or, and_false, false_and] at hb) <;> (try (first | (cases hb; done) | exact absurd hb (by decide) | (exfalso; omega))))
    | ((with_reducible refine And.intro ?_ ?_); (focus ((repeat' (first | (with_reducible rfl) | (with_reducible refine And.intro ?_ ?_) | omega | rfl | exact Or.inl rfl | exact Or.inr rfl | (focus ((try simp only [minL, maxL, pickB, getD_int, getD_sl, getD_bool, len_int, len_sl, len_bool, decide_eq_true_eq, decide_eq_false_iff_not, Bool.and_eq_true, Bool.or_eq_true, Bool.and_eq_false_iff, Bool.or_eq_false_iff, Bool.not_eq_true', Bool.not_eq_false', Bool.true_eq_false, Bool.false_eq_true, Int.toNat_natCast, Int.ofNat_lt, Int.ofNat_le, not_true_eq_false, not_false_eq_true, or_false, false_or, and_true, true_and, or_true, true_or, and_false, false_and, InK, Path.imp, List.length_replicate, List.length_set, List.length_append, List.length_cons, List.length_nil] at *); omega)) | (refine app_le rfl ?_; omega))); done)); (conv => whnf))
    | ((with_reducible refine And.intro (Side.out ?_) ?_); rotate_left; (conv => whnf))
    | (refine retF1 ?_ <;> (conv => whnf) <;> repeat' (first
    | exact trivial
    | (with_reducible rfl)
    | ((with_reducible refine And.intro ?_ ?_) <;> conv => whnf)
    | omega
    | rfl
    | (refine congrArg (SV.arr _) ?_)
    | (refine congrArg (Value.int _) ?_)
    | (refine congrArg Value.bool ?_)))
    | (refine retF2 ?_ <;> (conv => whnf) <;> repeat' (first
    | exact trivial
    | (with_reducible rfl)
    | ((with_reducible refine And.intro ?_ ?_) <;> conv => whnf)
    | omega
    | rfl
    | (refine congrArg (SV.arr _) ?_)
    | (refine congrArg (Value.int _) ?_)
    | (refine congrArg Value.bool ?_)))); all_goals (try unfold Side)
  all_goals try (repeat' (first | (with_reducible rfl) | (with_reducible refine And.intro ?_ ?_) | omega | rfl | exact Or.inl rfl | exact Or.inr rfl | (focus ((try simp only [minL, maxL, pickB, getD_int, getD_sl, getD_bool, len_int, len_sl, len_bool, decide_eq_true_eq, decide_eq_false_iff_not, Bool.and_eq_true, Bool.or_eq_true, Bool.and_eq_false_iff, Bool.or_eq_false_iff, Bool.not_eq_true', Bool.not_eq_false', Bool.true_eq_false, Bool.false_eq_true, Int.toNat_natCast, Int.ofNat_lt, Int.ofNat_le, not_true_eq_false, not_false_eq_true, or_false, false_or, and_true, true_and, or_true, true_or, and_false, false_and, InK, Path.imp, List.length_replicate, List.length_set, List.length_append, List.length_cons, List.length_nil] at *); omega)) | (refine app_le rfl ?_; omega)))

/-- The least so far. -/
def runMin (last : Int) : List Int → List Int
  | [] => []
  | x :: r => min last (foldI x 1001) :: runMin (min last (foldI x 1001)) r
def lastMin (last : Int) : List Int → Int
  | [] => last
  | x :: r => lastMin (min last (foldI x 1001)) r
theorem runMin_len : ∀ {l : List Int} {a : Int}, (runMin a l).length = l.length
  | [], _ => rfl
  | x :: r, a => by simp [runMin, runMin_len (l := r)]
theorem runMin_snoc {x : Int} : ∀ {l : List Int} {a : Int}, runMin a (l ++ [x]) = runMin a l ++ [min (lastMin a l) (foldI x 1001)]
  | [], a => rfl
  | y :: r, a => by simp only [List.cons_append, runMin, lastMin, runMin_snoc (l := r)]
theorem lastMin_snoc {x : Int} : ∀ {l : List Int} {a : Int}, lastMin a (l ++ [x]) = min (lastMin a l) (foldI x 1001)
  | [], a => rfl
  | y :: r, a => by simp only [List.cons_append, lastMin, lastMin_snoc (l := r)]
theorem lastMin_range : ∀ {l : List Int} {a : Int}, 0 ≤ a → a ≤ 1000 → 0 ≤ lastMin a l ∧ lastMin a l ≤ 1000
  | [], a, h0, h1 => ⟨h0, h1⟩
  | x :: r, a, h0, h1 => by
    have := foldI_range (v := x) (n := 1001) (by omega)
    exact lastMin_range (l := r) (by omega) (by omega)
theorem runMin_ok : ∀ {l : List Int} {a : Int}, 0 ≤ a → a ≤ 1000 → (∀ j, j < (runMin a l).length → 0 ≤ (runMin a l).getD j 0 ∧ (runMin a l).getD j 0 ≤ a) ∧ ∀ j, j + 1 < (runMin a l).length → (runMin a l).getD (j + 1) 0 ≤ (runMin a l).getD j 0
  | [], a, _, _ => ⟨fun j hj => by simp [runMin] at hj, fun j hj => by simp [runMin] at hj⟩
  | x :: r, a, h0, h1 => by
    have hf := foldI_range (v := x) (n := 1001) (by omega)
    obtain ⟨h2, h3⟩ := runMin_ok (l := r) (a := min a (foldI x 1001)) (by omega) (by omega)
    refine ⟨fun j hj => ?_, fun j hj => ?_⟩
    · cases j with
      | zero => simp only [runMin, List.getD_cons_zero]; omega
      | succ j =>
        simp only [runMin, List.length_cons] at hj
        have := h2 j (by omega)
        simp only [runMin, List.getD_cons_succ]; omega
    · simp only [runMin, List.length_cons] at hj
      cases j with
      | zero =>
        have := h2 0 (by omega)
        simp only [runMin, List.getD_cons_succ, List.getD_cons_zero]; omega
      | succ j =>
        have := h3 j (by omega)
        simp only [runMin, List.getD_cons_succ]; exact this
def madeR (gs : List (List Int)) (i : Nat) : List Int := runMin 1000 ((gs.getD i []).take 20)
def madeG (gs : List (List Int)) (n : Nat) : List (List Int) := (List.range n).map (madeR gs)
def madeV (fl : List Int) (i : Nat) : Int := if i < fl.length then foldI (fl.getD i 0) 31 else 0
def madeF (fl : List Int) (n : Nat) : List Int := (List.range n).map (madeV fl)
theorem madeF_len {fl : List Int} {n : Nat} : (madeF fl n).length = n := by simp [madeF]
theorem madeG_len {gs : List (List Int)} {n : Nat} : (madeG gs n).length = n := by simp [madeG]
theorem madeF_get {fl : List Int} {n i : Nat} (h : i < n) : (madeF fl n).getD i 0 = madeV fl i := by
  rw [madeF, List.getD_eq_getElem?_getD, List.getElem?_map, List.getElem?_range h]; rfl
theorem madeG_get {gs : List (List Int)} {n i : Nat} (h : i < n) : (madeG gs n).getD i [] = madeR gs i := by
  rw [madeG, List.getD_eq_getElem?_getD, List.getElem?_map, List.getElem?_range h]; rfl
theorem madeV_range {fl : List Int} {i : Nat} : 0 ≤ madeV fl i ∧ madeV fl i ≤ 30 := by
  unfold madeV
  split
  · have := foldI_range (v := fl.getD i 0) (n := 31) (by omega); omega
  · omega
theorem made_ok {fl : List Int} {gs : List (List Int)} {n : Nat} (h1 : 1 ≤ n) (h8 : n ≤ 8) : riverOk (madeF fl n) (madeG gs n) = true := by
  have hw : within (madeF fl n) 30 = true := by
    unfold within
    rw [Bool.not_eq_true', List.any_eq_false]
    intro x hx
    obtain ⟨i, _, rfl⟩ := List.mem_map.1 hx
    have := madeV_range (fl := fl) (i := i)
    simp only [Bool.or_eq_true, decide_eq_true_eq]
    omega
  have hg : (madeG gs n).all gOk = true := by
    refine List.all_eq_true.2 fun l hl => ?_
    obtain ⟨i, _, rfl⟩ := List.mem_map.1 hl
    obtain ⟨h2, h3⟩ := runMin_ok (l := (gs.getD i []).take 20) (a := 1000) (by omega) (by omega)
    simp only [gOk, Bool.and_eq_true, decide_eq_true_eq]
    refine ⟨⟨?_, ?_⟩, ?_⟩
    · rw [madeR, runMin_len, List.length_take]; omega
    · unfold within
      rw [Bool.not_eq_true', List.any_eq_false]
      intro x hx
      obtain ⟨j, hj, rfl⟩ := List.getElem_of_mem hx
      have := h2 j hj
      have e : (madeR gs i)[j] = (runMin 1000 ((gs.getD i []).take 20)).getD j 0 := by
        show (madeR gs i)[j] = (madeR gs i).getD j 0
        rw [List.getD_eq_getElem?_getD, List.getElem?_eq_getElem hj]; rfl
      simp only [Bool.or_eq_true, decide_eq_true_eq]
      omega
    · exact desc_iff.2 h3
  simp only [riverOk, madeF_len, madeG_len, hw, hg, Bool.and_true, decide_true, Bool.and_eq_true, decide_eq_true_eq]
  exact ⟨h1, h8⟩
set_option maxHeartbeats 2000000 in
theorem made_at (fl : List Int) (gs : List (List Int)) (most : Nat) (h1 : 1 ≤ most) (h8 : most ≤ 8) :
    FnAt Try.prog false 33 [.agg [.arr (.int .i64) fl, .arr (.sl (.int .i64)) gs], .lit (.int .i64 most)] (.tup [.own 0, .own 1]) [(0, .row 3 (.int .i64) true (madeF fl (max 1 (min fl.length most)))), (1, .row 22 (.sl (.int .i64)) true (madeG gs (max 1 (min fl.length most))))] := by
  obtain ⟨n, hn⟩ : ∃ n : Nat, n = max 1 (min fl.length most) := ⟨_, rfl⟩
  have hn8 : n ≤ 8 := by omega
  rw [← hn]
  refine FnAt.of_body tys_ok Try.func33 (by rfl) rfl Try.ntmps33 (by rw [Try.results33]) (by simp) ?_
  
  repeat' (first
    | refine W.seq ?_
    | refine W.block ?_
    | (refine W.region tys_ok [] ?_; conv => whnf)
    | (refine W.drawAll tys_ok [] mixed rfl ?_; conv => whnf)
    | (refine W.ret ?_; conv => whnf)
    | (refine W.skip ?_; conv => whnf)
    | (refine W.exit ?_; conv => whnf)

    | (refine W.cond rfl (fun hb => ?_) (fun hb => ?_) <;> (try simp only [minL, maxL, pickB, getD_int, getD_sl, getD_bool, len_int, len_sl, len_bool, decide_eq_true_eq, decide_eq_false_iff_not, Bool.and_eq_true, Bool.or_eq_true, Bool.and_eq_false_iff, Bool.or_eq_false_iff, Bool.not_eq_true', Bool.not_eq_false', Bool.true_eq_false, Bool.false_eq_true, Int.toNat_natCast, Int.ofNat_lt, Int.ofNat_le, not_true_eq_false, not_false_eq_true, or_false, false_or, and_true, true_and, or_true, true_or, and_false, false_and] at hb) <;> (try (first | (cases hb; done) | exact absurd hb (by decide) | (exfalso; omega))))
    | ((with_reducible refine And.intro ?_ ?_); (focus ((repeat' (first | (with_reducible rfl) | (with_reducible refine And.intro ?_ ?_) | omega | rfl | exact Or.inl rfl | exact Or.inr rfl | (focus ((try simp only [minL, maxL, pickB, getD_int, getD_sl, getD_bool, len_int, len_sl, len_bool, decide_eq_true_eq, decide_eq_false_iff_not, Bool.and_eq_true, Bool.or_eq_true, Bool.and_eq_false_iff, Bool.or_eq_false_iff, Bool.not_eq_true', Bool.not_eq_false', Bool.true_eq_false, Bool.false_eq_true, Int.toNat_natCast, Int.ofNat_lt, Int.ofNat_le, not_true_eq_false, not_false_eq_true, or_false, false_or, and_true, true_and, or_true, true_or, and_false, false_and, InK, Path.imp, List.length_replicate, List.length_set, List.length_append, List.length_cons, List.length_nil] at *); omega)) | (refine app_le rfl ?_; omega))); done)); (conv => whnf))
    | ((with_reducible refine And.intro (Side.out ?_) ?_); rotate_left; (conv => whnf))
    | (refine retF1 ?_ <;> (conv => whnf) <;> repeat' (first
    | exact trivial
    | (with_reducible rfl)
    | ((with_reducible refine And.intro ?_ ?_) <;> conv => whnf)
    | omega
    | rfl
    | (refine congrArg (SV.arr _) ?_)
    | (refine congrArg (Value.int _) ?_)
    | (refine congrArg Value.bool ?_)))
    | (refine retF2 ?_ <;> (conv => whnf) <;> repeat' (first
    | exact trivial
    | (with_reducible rfl)
    | ((with_reducible refine And.intro ?_ ?_) <;> conv => whnf)
    | omega
    | rfl
    | (refine congrArg (SV.arr _) ?_)
    | (refine congrArg (Value.int _) ?_)
    | (refine congrArg Value.bool ?_)))); all_goals (try unfold Side)
  all_goals try (repeat' (first | (with_reducible rfl) | (with_reducible refine And.intro ?_ ?_) | omega | rfl | exact Or.inl rfl | exact Or.inr rfl | (focus ((try simp only [minL, maxL, pickB, getD_int, getD_sl, getD_bool, len_int, len_sl, len_bool, decide_eq_true_eq, decide_eq_false_iff_not, Bool.and_eq_true, Bool.or_eq_true, Bool.and_eq_false_iff, Bool.or_eq_false_iff, Bool.not_eq_true', Bool.not_eq_false', Bool.true_eq_false, Bool.false_eq_true, Int.toNat_natCast, Int.ofNat_lt, Int.ofNat_le, not_true_eq_false, not_false_eq_true, or_false, false_or, and_true, true_and, or_true, true_or, and_false, false_and, InK, Path.imp, List.length_replicate, List.length_set, List.length_append, List.length_cons, List.length_nil] at *); omega)) | (refine app_le rfl ?_; omega)))
  refine W.loop (fun i : Nat => ⟨[(2, .padr 3000 0), (6, .lit (.int .i64 n)), (7, .own 79000), (8, .own 83000), (9, .lit (.int .i64 i))],
      [(3000, .box [.st false (.arr (.int .i64) fl), .st false (.arr (.sl (.int .i64)) gs)]), (79000, .row 3 (.int .i64) true (madeF fl i)), (83000, .row 22 (.sl (.int .i64)) true (madeG gs i))]⟩)
    (fun i => i ≤ n) (fun i => n - i) 0 ?_ ?_
  · refine ⟨Nat.zero_le _, ?_⟩
    refine subF.ok ?_ <;> (conv => whnf) <;> repeat' (first
    | exact trivial
    | (with_reducible rfl)
    | ((with_reducible refine And.intro ?_ ?_) <;> conv => whnf)
    | omega
    | rfl
    | (refine congrArg (SV.arr _) ?_)
    | (refine congrArg (Value.int _) ?_)
    | (refine congrArg Value.bool ?_))
    show max (1 : Int) (min (fl.length : Int) (most : Int)) = (n : Int)
    omega
  · intro i hi
    have hfl' : @List.length (Ty.int .i64).T (madeF fl i) = i := madeF_len
    have hgl' : @List.length (Ty.sl (.int .i64)).T (madeG gs i) = i := madeG_len
    have hfs : madeF fl (i + 1) = madeF fl i ++ [madeV fl i] := by simp [madeF, List.range_succ]
    have hgs : madeG gs (i + 1) = madeG gs i ++ [madeR gs i] := by simp [madeG, List.range_succ]
    by_cases hin : i < n
    · have hf := fold_at (fl.getD i 0) 31 (by omega) (by omega)
      obtain ⟨r, hr⟩ : ∃ r, r = (gs.getD i []).take 20 := ⟨_, rfl⟩
      have hrm : madeR gs i = runMin 1000 r := by rw [hr]; rfl
      have hrl : r.length = min 20 (gs.getD i []).length := by rw [hr, List.length_take]
      have hro : ¬ i < gs.length → (gs.getD i []).length = 0 := fun h => by rw [List.getD_eq_getElem?_getD, List.getElem?_eq_none (by omega)]; rfl
      repeat' (first
    | refine W.seq ?_
    | refine W.block ?_
    | (refine W.region tys_ok [] ?_; conv => whnf)
    | (refine W.drawAll tys_ok [] mixed rfl ?_; conv => whnf)
    | (refine W.ret ?_; conv => whnf)
    | (refine W.skip ?_; conv => whnf)
    | (refine W.exit ?_; conv => whnf)
    | (refine call_at (al := false) (hf) rfl rfl rfl rfl ?_; conv => whnf)

    | (refine W.cond rfl (fun hb => ?_) (fun hb => ?_) <;> (try simp only [minL, maxL, pickB, getD_int, getD_sl, getD_bool, len_int, len_sl, len_bool, decide_eq_true_eq, decide_eq_false_iff_not, Bool.and_eq_true, Bool.or_eq_true, Bool.and_eq_false_iff, Bool.or_eq_false_iff, Bool.not_eq_true', Bool.not_eq_false', Bool.true_eq_false, Bool.false_eq_true, Int.toNat_natCast, Int.ofNat_lt, Int.ofNat_le, not_true_eq_false, not_false_eq_true, or_false, false_or, and_true, true_and, or_true, true_or, and_false, false_and] at hb) <;> (try (first | (cases hb; done) | exact absurd hb (by decide) | (exfalso; omega))))
    | ((with_reducible refine And.intro ?_ ?_); (focus ((repeat' (first | (with_reducible rfl) | (with_reducible refine And.intro ?_ ?_) | omega | rfl | exact Or.inl rfl | exact Or.inr rfl | (focus ((try simp only [minL, maxL, pickB, getD_int, getD_sl, getD_bool, len_int, len_sl, len_bool, decide_eq_true_eq, decide_eq_false_iff_not, Bool.and_eq_true, Bool.or_eq_true, Bool.and_eq_false_iff, Bool.or_eq_false_iff, Bool.not_eq_true', Bool.not_eq_false', Bool.true_eq_false, Bool.false_eq_true, Int.toNat_natCast, Int.ofNat_lt, Int.ofNat_le, not_true_eq_false, not_false_eq_true, or_false, false_or, and_true, true_and, or_true, true_or, and_false, false_and, InK, Path.imp, List.length_replicate, List.length_set, List.length_append, List.length_cons, List.length_nil] at *); omega)) | (refine app_le rfl ?_; omega))); done)); (conv => whnf))
    | ((with_reducible refine And.intro (Side.out ?_) ?_); rotate_left; (conv => whnf))
    | (refine retF1 ?_ <;> (conv => whnf) <;> repeat' (first
    | exact trivial
    | (with_reducible rfl)
    | ((with_reducible refine And.intro ?_ ?_) <;> conv => whnf)
    | omega
    | rfl
    | (refine congrArg (SV.arr _) ?_)
    | (refine congrArg (Value.int _) ?_)
    | (refine congrArg Value.bool ?_)))
    | (refine retF2 ?_ <;> (conv => whnf) <;> repeat' (first
    | exact trivial
    | (with_reducible rfl)
    | ((with_reducible refine And.intro ?_ ?_) <;> conv => whnf)
    | omega
    | rfl
    | (refine congrArg (SV.arr _) ?_)
    | (refine congrArg (Value.int _) ?_)
    | (refine congrArg Value.bool ?_)))); all_goals (try unfold Side)
      all_goals try (repeat' (first | (with_reducible rfl) | (with_reducible refine And.intro ?_ ?_) | omega | rfl | exact Or.inl rfl | exact Or.inr rfl | (focus ((try simp only [minL, maxL, pickB, getD_int, getD_sl, getD_bool, len_int, len_sl, len_bool, decide_eq_true_eq, decide_eq_false_iff_not, Bool.and_eq_true, Bool.or_eq_true, Bool.and_eq_false_iff, Bool.or_eq_false_iff, Bool.not_eq_true', Bool.not_eq_false', Bool.true_eq_false, Bool.false_eq_true, Int.toNat_natCast, Int.ofNat_lt, Int.ofNat_le, not_true_eq_false, not_false_eq_true, or_false, false_or, and_true, true_and, or_true, true_or, and_false, false_and, InK, Path.imp, List.length_replicate, List.length_set, List.length_append, List.length_cons, List.length_nil] at *); omega)) | (refine app_le rfl ?_; omega)))
      iterate 2
        · rename_i hb
          refine W.loop (fun k : Nat => ⟨[(2, .padr 3000 0), (6, .lit (.int .i64 n)), (7, .own 79000), (8, .own 83000), (9, .lit (.int .i64 i)), (10, .lit (.int .i64 (madeV fl i))), (11, .own 75000), (12, .lit (.int .i64 (lastMin 1000 (r.take k)))), (13, .lit (.int .i64 k))],
              [(3000, .box [.st false (.arr (.int .i64) fl), .st false (.arr (.sl (.int .i64)) gs)]), (79000, .row 3 (.int .i64) true (madeF fl i)), (83000, .row 22 (.sl (.int .i64)) true (madeG gs i)), (75000, .row 3 (.int .i64) true (runMin 1000 (r.take k)))]⟩)
            (fun k => k ≤ r.length) (fun k => r.length - k) 0 ?_ ?_
          · refine ⟨Nat.zero_le _, ?_⟩
            refine subF.ok ?_ <;> (conv => whnf) <;> repeat' (first
    | exact trivial
    | (with_reducible rfl)
    | ((with_reducible refine And.intro ?_ ?_) <;> conv => whnf)
    | omega
    | rfl
    | (refine congrArg (SV.arr _) ?_)
    | (refine congrArg (Value.int _) ?_)
    | (refine congrArg Value.bool ?_))
            simp only [madeV, hb, if_true, if_false]
          · intro k hk
            have hml : @List.length (Ty.int .i64).T (runMin 1000 (r.take k)) = k := by
              show (runMin 1000 (r.take k)).length = k
              rw [runMin_len, List.length_take]; omega
            have hlm := lastMin_range (l := r.take k) (a := 1000) (by omega) (by omega)
            by_cases hkr : k < r.length
            · have hig : i < gs.length := by
                by_cases h : i < gs.length
                · exact h
                · have := hro h; omega
              have hkg : k < (gs.getD i []).length := by omega
              have hf2 := fold_at ((gs.getD i []).getD k 0) 1001 (by omega) (by omega)
              have hrk : r.getD k 0 = (gs.getD i []).getD k 0 := by rw [hr, getD_take (by omega)]
              have hts : r.take (k + 1) = r.take k ++ [(gs.getD i []).getD k 0] := by rw [take_getD (d := 0) hkr, hrk]
              repeat' (first
    | refine W.seq ?_
    | refine W.block ?_
    | (refine W.region tys_ok [] ?_; conv => whnf)
    | (refine W.drawAll tys_ok [] mixed rfl ?_; conv => whnf)
    | (refine W.ret ?_; conv => whnf)
    | (refine W.skip ?_; conv => whnf)
    | (refine W.exit ?_; conv => whnf)
    | (refine call_at (al := false) (hf2) rfl rfl rfl rfl ?_; conv => whnf)

    | (refine W.cond rfl (fun hb => ?_) (fun hb => ?_) <;> (try simp only [minL, maxL, pickB, getD_int, getD_sl, getD_bool, len_int, len_sl, len_bool, decide_eq_true_eq, decide_eq_false_iff_not, Bool.and_eq_true, Bool.or_eq_true, Bool.and_eq_false_iff, Bool.or_eq_false_iff, Bool.not_eq_true', Bool.not_eq_false', Bool.true_eq_false, Bool.false_eq_true, Int.toNat_natCast, Int.ofNat_lt, Int.ofNat_le, not_true_eq_false, not_false_eq_true, or_false, false_or, and_true, true_and, or_true, true_or, and_false, false_and] at hb) <;> (try (first | (cases hb; done) | exact absurd hb (by decide) | (exfalso; omega))))
    | ((with_reducible refine And.intro ?_ ?_); (focus ((repeat' (first | (with_reducible rfl) | (with_reducible refine And.intro ?_ ?_) | omega | rfl | exact Or.inl rfl | exact Or.inr rfl | (focus ((try simp only [minL, maxL, pickB, getD_int, getD_sl, getD_bool, len_int, len_sl, len_bool, decide_eq_true_eq, decide_eq_false_iff_not, Bool.and_eq_true, Bool.or_eq_true, Bool.and_eq_false_iff, Bool.or_eq_false_iff, Bool.not_eq_true', Bool.not_eq_false', Bool.true_eq_false, Bool.false_eq_true, Int.toNat_natCast, Int.ofNat_lt, Int.ofNat_le, not_true_eq_false, not_false_eq_true, or_false, false_or, and_true, true_and, or_true, true_or, and_false, false_and, InK, Path.imp, List.length_replicate, List.length_set, List.length_append, List.length_cons, List.length_nil] at *); omega)) | (refine app_le rfl ?_; omega))); done)); (conv => whnf))
    | ((with_reducible refine And.intro (Side.out ?_) ?_); rotate_left; (conv => whnf))
    | (refine retF1 ?_ <;> (conv => whnf) <;> repeat' (first
    | exact trivial
    | (with_reducible rfl)
    | ((with_reducible refine And.intro ?_ ?_) <;> conv => whnf)
    | omega
    | rfl
    | (refine congrArg (SV.arr _) ?_)
    | (refine congrArg (Value.int _) ?_)
    | (refine congrArg Value.bool ?_)))
    | (refine retF2 ?_ <;> (conv => whnf) <;> repeat' (first
    | exact trivial
    | (with_reducible rfl)
    | ((with_reducible refine And.intro ?_ ?_) <;> conv => whnf)
    | omega
    | rfl
    | (refine congrArg (SV.arr _) ?_)
    | (refine congrArg (Value.int _) ?_)
    | (refine congrArg Value.bool ?_)))); all_goals (try unfold Side)
              all_goals try (repeat' (first | (with_reducible rfl) | (with_reducible refine And.intro ?_ ?_) | omega | rfl | exact Or.inl rfl | exact Or.inr rfl | (focus ((try simp only [minL, maxL, pickB, getD_int, getD_sl, getD_bool, len_int, len_sl, len_bool, decide_eq_true_eq, decide_eq_false_iff_not, Bool.and_eq_true, Bool.or_eq_true, Bool.and_eq_false_iff, Bool.or_eq_false_iff, Bool.not_eq_true', Bool.not_eq_false', Bool.true_eq_false, Bool.false_eq_true, Int.toNat_natCast, Int.ofNat_lt, Int.ofNat_le, not_true_eq_false, not_false_eq_true, or_false, false_or, and_true, true_and, or_true, true_or, and_false, false_and, InK, Path.imp, List.length_replicate, List.length_set, List.length_append, List.length_cons, List.length_nil] at *); omega)) | (refine app_le rfl ?_; omega)))
              refine ⟨k + 1, ⟨by omega, by omega⟩, ?_⟩
              rw [hts, lastMin_snoc, runMin_snoc]
              refine subF.ok ?_ <;> (conv => whnf) <;> repeat' (first
    | exact trivial
    | (with_reducible rfl)
    | ((with_reducible refine And.intro ?_ ?_) <;> conv => whnf)
    | omega
    | rfl
    | (refine congrArg (SV.arr _) ?_)
    | (refine congrArg (Value.int _) ?_)
    | (refine congrArg Value.bool ?_))
            · have hke : k = r.length := by omega
              subst hke
              rw [List.take_length]
              repeat' (first
    | refine W.seq ?_
    | refine W.block ?_
    | (refine W.resub (x := Code.region 15 _ _) (Γ' := ⟨[(2, .padr 3000 0), (6, .lit (.int .i64 n)), (7, .own 79000), (8, .own 83000), (9, .lit (.int .i64 i)), (10, .lit (.int .i64 (madeV fl i))), (11, .st true (.arr (.int .i64) (madeR gs i)))], [(3000, .box [.st false (.arr (.int .i64) fl), .st false (.arr (.sl (.int .i64)) gs)]), (79000, .row 3 (.int .i64) true (madeF fl i)), (83000, .row 22 (.sl (.int .i64)) true (madeG gs i))]⟩) ?_ (W.region tys_ok [] ?_); rotate_left; (conv => whnf))
    | (refine W.region tys_ok [] ?_; conv => whnf)
    | (refine W.drawAll tys_ok [] mixed rfl ?_; conv => whnf)
    | (refine W.ret ?_; conv => whnf)
    | (refine W.skip ?_; conv => whnf)
    | (refine W.exit ?_; conv => whnf)

    | (refine W.cond rfl (fun hb => ?_) (fun hb => ?_) <;> (try simp only [minL, maxL, pickB, getD_int, getD_sl, getD_bool, len_int, len_sl, len_bool, decide_eq_true_eq, decide_eq_false_iff_not, Bool.and_eq_true, Bool.or_eq_true, Bool.and_eq_false_iff, Bool.or_eq_false_iff, Bool.not_eq_true', Bool.not_eq_false', Bool.true_eq_false, Bool.false_eq_true, Int.toNat_natCast, Int.ofNat_lt, Int.ofNat_le, not_true_eq_false, not_false_eq_true, or_false, false_or, and_true, true_and, or_true, true_or, and_false, false_and] at hb) <;> (try (first | (cases hb; done) | exact absurd hb (by decide) | (exfalso; omega))))
    | ((with_reducible refine And.intro ?_ ?_); (focus ((repeat' (first | (with_reducible rfl) | (with_reducible refine And.intro ?_ ?_) | omega | rfl | exact Or.inl rfl | exact Or.inr rfl | (focus ((try simp only [minL, maxL, pickB, getD_int, getD_sl, getD_bool, len_int, len_sl, len_bool, decide_eq_true_eq, decide_eq_false_iff_not, Bool.and_eq_true, Bool.or_eq_true, Bool.and_eq_false_iff, Bool.or_eq_false_iff, Bool.not_eq_true', Bool.not_eq_false', Bool.true_eq_false, Bool.false_eq_true, Int.toNat_natCast, Int.ofNat_lt, Int.ofNat_le, not_true_eq_false, not_false_eq_true, or_false, false_or, and_true, true_and, or_true, true_or, and_false, false_and, InK, Path.imp, List.length_replicate, List.length_set, List.length_append, List.length_cons, List.length_nil] at *); omega)) | (refine app_le rfl ?_; omega))); done)); (conv => whnf))
    | ((with_reducible refine And.intro (Side.out ?_) ?_); rotate_left; (conv => whnf))
    | (refine retF1 ?_ <;> (conv => whnf) <;> repeat' (first
    | exact trivial
    | (with_reducible rfl)
    | ((with_reducible refine And.intro ?_ ?_) <;> conv => whnf)
    | omega
    | rfl
    | (refine congrArg (SV.arr _) ?_)
    | (refine congrArg (Value.int _) ?_)
    | (refine congrArg Value.bool ?_)))
    | (refine retF2 ?_ <;> (conv => whnf) <;> repeat' (first
    | exact trivial
    | (with_reducible rfl)
    | ((with_reducible refine And.intro ?_ ?_) <;> conv => whnf)
    | omega
    | rfl
    | (refine congrArg (SV.arr _) ?_)
    | (refine congrArg (Value.int _) ?_)
    | (refine congrArg Value.bool ?_)))); all_goals (try unfold Side)
              all_goals try (repeat' (first | (with_reducible rfl) | (with_reducible refine And.intro ?_ ?_) | omega | rfl | exact Or.inl rfl | exact Or.inr rfl | (focus ((try simp only [minL, maxL, pickB, getD_int, getD_sl, getD_bool, len_int, len_sl, len_bool, decide_eq_true_eq, decide_eq_false_iff_not, Bool.and_eq_true, Bool.or_eq_true, Bool.and_eq_false_iff, Bool.or_eq_false_iff, Bool.not_eq_true', Bool.not_eq_false', Bool.true_eq_false, Bool.false_eq_true, Int.toNat_natCast, Int.ofNat_lt, Int.ofNat_le, not_true_eq_false, not_false_eq_true, or_false, false_or, and_true, true_and, or_true, true_or, and_false, false_and, InK, Path.imp, List.length_replicate, List.length_set, List.length_append, List.length_cons, List.length_nil] at *); omega)) | (refine app_le rfl ?_; omega)))
              · refine ⟨i + 1, ⟨by omega, by omega⟩, ?_⟩
                rw [hfs, hgs]
                refine subF.ok ?_ <;> (conv => whnf) <;> repeat' (first
    | exact trivial
    | (with_reducible rfl)
    | ((with_reducible refine And.intro ?_ ?_) <;> conv => whnf)
    | omega
    | rfl
    | (refine congrArg (SV.arr _) ?_)
    | (refine congrArg (Value.int _) ?_)
    | (refine congrArg Value.bool ?_))
              · refine subF.ok ?_ <;> (conv => whnf) <;> repeat' (first
    | exact trivial
    | (with_reducible rfl)
    | ((with_reducible refine And.intro ?_ ?_) <;> conv => whnf)
    | omega
    | rfl
    | (refine congrArg (SV.arr _) ?_)
    | (refine congrArg (Value.int _) ?_)
    | (refine congrArg Value.bool ?_))
                exact hrm.symm
    · have hie : i = n := by omega
      subst hie
      repeat' (first
    | refine W.seq ?_
    | refine W.block ?_
    | (refine W.region tys_ok [] ?_; conv => whnf)
    | (refine W.drawAll tys_ok [] mixed rfl ?_; conv => whnf)
    | (refine W.ret ?_; conv => whnf)
    | (refine W.skip ?_; conv => whnf)
    | (refine W.exit ?_; conv => whnf)

    | (refine W.cond rfl (fun hb => ?_) (fun hb => ?_) <;> (try simp only [minL, maxL, pickB, getD_int, getD_sl, getD_bool, len_int, len_sl, len_bool, decide_eq_true_eq, decide_eq_false_iff_not, Bool.and_eq_true, Bool.or_eq_true, Bool.and_eq_false_iff, Bool.or_eq_false_iff, Bool.not_eq_true', Bool.not_eq_false', Bool.true_eq_false, Bool.false_eq_true, Int.toNat_natCast, Int.ofNat_lt, Int.ofNat_le, not_true_eq_false, not_false_eq_true, or_false, false_or, and_true, true_and, or_true, true_or, and_false, false_and] at hb) <;> (try (first | (cases hb; done) | exact absurd hb (by decide) | (exfalso; omega))))
    | ((with_reducible refine And.intro ?_ ?_); (focus ((repeat' (first | (with_reducible rfl) | (with_reducible refine And.intro ?_ ?_) | omega | rfl | exact Or.inl rfl | exact Or.inr rfl | (focus ((try simp only [minL, maxL, pickB, getD_int, getD_sl, getD_bool, len_int, len_sl, len_bool, decide_eq_true_eq, decide_eq_false_iff_not, Bool.and_eq_true, Bool.or_eq_true, Bool.and_eq_false_iff, Bool.or_eq_false_iff, Bool.not_eq_true', Bool.not_eq_false', Bool.true_eq_false, Bool.false_eq_true, Int.toNat_natCast, Int.ofNat_lt, Int.ofNat_le, not_true_eq_false, not_false_eq_true, or_false, false_or, and_true, true_and, or_true, true_or, and_false, false_and, InK, Path.imp, List.length_replicate, List.length_set, List.length_append, List.length_cons, List.length_nil] at *); omega)) | (refine app_le rfl ?_; omega))); done)); (conv => whnf))
    | ((with_reducible refine And.intro (Side.out ?_) ?_); rotate_left; (conv => whnf))
    | (refine retF1 ?_ <;> (conv => whnf) <;> repeat' (first
    | exact trivial
    | (with_reducible rfl)
    | ((with_reducible refine And.intro ?_ ?_) <;> conv => whnf)
    | omega
    | rfl
    | (refine congrArg (SV.arr _) ?_)
    | (refine congrArg (Value.int _) ?_)
    | (refine congrArg Value.bool ?_)))
    | (refine retF2 ?_ <;> (conv => whnf) <;> repeat' (first
    | exact trivial
    | (with_reducible rfl)
    | ((with_reducible refine And.intro ?_ ?_) <;> conv => whnf)
    | omega
    | rfl
    | (refine congrArg (SV.arr _) ?_)
    | (refine congrArg (Value.int _) ?_)
    | (refine congrArg Value.bool ?_)))); all_goals (try unfold Side)
      all_goals try (repeat' (first | (with_reducible rfl) | (with_reducible refine And.intro ?_ ?_) | omega | rfl | exact Or.inl rfl | exact Or.inr rfl | (focus ((try simp only [minL, maxL, pickB, getD_int, getD_sl, getD_bool, len_int, len_sl, len_bool, decide_eq_true_eq, decide_eq_false_iff_not, Bool.and_eq_true, Bool.or_eq_true, Bool.and_eq_false_iff, Bool.or_eq_false_iff, Bool.not_eq_true', Bool.not_eq_false', Bool.true_eq_false, Bool.false_eq_true, Int.toNat_natCast, Int.ofNat_lt, Int.ofNat_le, not_true_eq_false, not_false_eq_true, or_false, false_or, and_true, true_and, or_true, true_or, and_false, false_and, InK, Path.imp, List.length_replicate, List.length_set, List.length_append, List.length_cons, List.length_nil] at *); omega)) | (refine app_le rfl ?_; omega)))
end Go.Proofs.Ytohfemfgnohhdaa
/- WaterBest: the law returns true. No condition. -/
namespace Go.Proofs.Ytohfemfgnohhdaa
open Go Go.Vc
set_option linter.unusedVariables false
set_option linter.unusedSimpArgs false

def clip : List (List Int) → List Int → List Int
  | g :: gs, u :: us => min u g.length :: clip gs us
  | _, us => us
theorem clip_len : ∀ {gs : List (List Int)} {us : List Int}, (clip gs us).length = us.length
  | g :: gs, u :: us => by simp [clip, clip_len (gs := gs) (us := us)]
  | [], us => by simp [clip]
  | _ :: _, [] => by simp [clip]
theorem clip_get : ∀ {gs : List (List Int)} {us : List Int} {i : Nat}, i < gs.length → i < us.length → (clip gs us).getD i 0 = min (us.getD i 0) ((gs.getD i []).length : Int)
  | g :: gs, u :: us, 0, _, _ => by simp [clip]
  | g :: gs, u :: us, i + 1, h, h' => by simpa [clip] using clip_get (gs := gs) (us := us) (i := i) (by simpa using h) (by simpa using h')
theorem clip_worth : ∀ {gs : List (List Int)} {us : List Int}, worthL gs (clip gs us) = worthL gs us
  | g :: gs, u :: us => by
    simp only [clip, worthL, clip_worth (gs := gs) (us := us)]
    by_cases h : u ≤ (g.length : Int)
    · rw [show min u (g.length : Int) = u from by omega]
    · rw [show min u (g.length : Int) = g.length from by omega, List.take_of_length_le (by omega : g.length ≤ u.toNat)]
      simp
  | [], us => by simp [clip]
  | _ :: _, [] => by simp [clip]
theorem poss_le : ∀ {fl us vs : List Int} {w v : Int}, w ≤ v → us.length = fl.length → vs.length = fl.length → (∀ i, i < fl.length → vs.getD i 0 ≤ us.getD i 0) → poss w fl us = true → poss v fl vs = true
  | [], [], [], w, v, _, _, _, _, _ => rfl
  | f :: fl, u :: us, x :: vs, w, v, hw, h1, h2, h3, hp => by
    simp only [poss, Bool.and_eq_true, Bool.not_eq_true', decide_eq_false_iff_not] at hp ⊢
    have h0 := h3 0 (by simp)
    simp only [List.getD_cons_zero] at h0
    refine ⟨by omega, poss_le (us := us) (w := w + f - u) (by omega) (by simpa using h1) (by simpa using h2) (fun i hi => ?_) hp.2⟩
    have := h3 (i + 1) (by simpa using hi)
    simpa using this
  | f :: fl, [], _, _, _, _, h, _, _, _ => by simp at h
  | f :: fl, _ :: _, [], _, _, _, _, h, _, _ => by simp at h
  | [], _ :: _, _, _, _, _, h, _, _, _ => by simp at h
  | [], [], _ :: _, _, _, _, _, h, _, _ => by simp at h
/-- No possible use is worth more. -/
theorem riv_upper {fl : List Int} {gs : List (List Int)} (h : Riv fl gs) {vs : List Int} (hl : vs.length = fl.length) (h0 : ∀ i, i < vs.length → 0 ≤ vs.getD i 0) (hp : poss 0 fl vs = true) : worthL gs vs ≤ val fl gs := by
  have hlen := h.len
  have e := fun i (hi : i < vs.length) => clip_get (gs := gs) (us := vs) (i := i) (by omega) hi
  have hb := (best_of h (vs := clip gs vs) (by rw [clip_len]; exact hl) (fun i hi => by
    rw [clip_len] at hi
    have := h0 i hi
    have := h.g.lens i (by omega)
    rw [e i hi]
    omega) (poss_le (Int.le_refl 0) hl (by rw [clip_len]; exact hl) (fun i hi => by
    rw [e i (by omega)]
    omega) hp)).1
  rwa [clip_worth] at hb
theorem badW_good {fl : List Int} {gs : List (List Int)} {us : List Int} (hok : riverOk fl gs = true) (hl : us.length = fl.length) (h0 : ∀ i, i < us.length → 0 ≤ us.getD i 0) (hp : poss 0 fl us = true) : badW fl gs us = 0 := by
  have hn : neg us = false := by
    cases hn : neg us with
    | false => rfl
    | true =>
      obtain ⟨i, h1, h2⟩ := neg_true hn
      have := h0 i h1
      omega
  simp only [badW, hok, hl, hn, hp, cond_true, decide_true, Bool.not_true, Bool.or_false, cond_false]
theorem made_ex (fl : List Int) (gs : List (List Int)) (most : Nat) (h1 : 1 ≤ most) (h8 : most ≤ 8) : ∃ (F : List Int) (G : List (List Int)), FnAt Try.prog false 33 [.agg [.arr (.int .i64) fl, .arr (.sl (.int .i64)) gs], .lit (.int .i64 most)] (.tup [.own 0, .own 1]) [(0, .row 3 (.int .i64) true F), (1, .row 22 (.sl (.int .i64)) true G)] ∧ riverOk F G = true ∧ F.length ≤ most ∧ F.length ≤ 1000 ∧ G.length ≤ 1000 ∧ ∀ i, i < G.length → (G.getD i []).length ≤ 1000 := by
  have hok := made_ok (fl := fl) (gs := gs) (n := max 1 (min fl.length most)) (by omega) (by omega)
  have h := (riverOk.riv hok)
  have h2 := h.g.len
  have h3 := h.len
  rw [madeF_len] at h3
  exact ⟨_, _, made_at fl gs most h1 h8, hok, by rw [madeF_len]; omega, by rw [madeF_len]; omega, by omega, fun i hi => by have := h.g.lens i hi; omega⟩
theorem Best_good {fl : List Int} {gs : List (List Int)} (hok : riverOk fl gs = true) (h1 : fl.length ≤ 1000) (h2 : gs.length ≤ 1000) (h3 : ∀ i, i < gs.length → (gs.getD i []).length ≤ 1000) :
    FnAt Try.prog false 16 [.arr (.int .i64) fl, .arr (.sl (.int .i64)) gs] (.tup [.own 0, .lit (.int .i64 (val fl gs)), .lit (.int .i64 0)]) [(0, .row 3 (.int .i64) true (bestL fl gs))] := by
  have h := Best_ok fl gs h1 h2 h3
  rw [hok] at h
  exact h
theorem pre_snoc {us : List Int} {v : Int} {m : Nat} : pre (us ++ [v]) m = if m < us.length then pre us m else us.sum + v := by
  unfold pre
  split
  · rw [List.take_append_of_le_length (by omega)]
  · rw [List.take_of_length_le (by simp; omega), List.sum_append]
    simp
theorem pre_all {us : List Int} {m : Nat} (h : us.length ≤ m + 1) : pre us m = us.sum := by
  unfold pre
  rw [List.take_of_length_le h]
theorem take_sum_pre {us : List Int} {m : Nat} : (us.take (m + 1)).sum = pre us m := rfl
/-- A use that is being chosen. -/
structure UseJ (F : List Int) (i : Nat) (us : List Int) (left : Int) : Prop where
  len : us.length = i
  eq : left = (F.take i).sum - us.sum
  l0 : 0 ≤ left
  l1 : left ≤ 30 * i
  u0 : ∀ j, j < i → 0 ≤ us.getD j 0
  pre : ∀ m, m < i → Go.Proofs.Ytohfemfgnohhdaa.pre us m ≤ Go.Proofs.Ytohfemfgnohhdaa.pre F m
theorem UseJ.step {F : List Int} {i : Nat} {us : List Int} {left v : Int} (h : UseJ F i us left) (hi : i < F.length) (hf : 0 ≤ F.getD i 0 ∧ F.getD i 0 ≤ 30) (h0 : 0 ≤ v) (hv : v ≤ left + F.getD i 0) : UseJ F (i + 1) (us ++ [v]) (left + F.getD i 0 - v) := by
  have h1 := h.len
  have h2 := h.eq
  have h3 := h.l1
  have hs := sum_take_succ hi
  refine ⟨by simp [h1], by rw [hs, List.sum_append]; simp; omega, by omega, by omega, fun j hj => ?_, fun m hm => ?_⟩
  · by_cases e : j < i
    · rw [List.getD_eq_getElem?_getD, List.getElem?_append_left (by omega), ← List.getD_eq_getElem?_getD]; exact h.u0 j e
    · rw [List.getD_eq_getElem?_getD, List.getElem?_append_right (by omega), show j - us.length = 0 from by omega]; exact h0
  · rw [pre_snoc]
    split
    · exact h.pre m (by omega)
    · have : m = i := by omega
      subst this
      show us.sum + v ≤ (F.take (m + 1)).sum
      omega
theorem UseJ.poss {F us : List Int} {left : Int} (h : UseJ F F.length us left) : poss 0 F us = true :=
  (poss_iff h.len).2 fun m hm => by rw [h.len] at hm; have := h.pre m hm; omega
set_option maxHeartbeats 2000000 in
theorem WaterBest_at (fl : List Int) (gs : List (List Int)) (y : List Int) : FnAt Try.prog false 8 [.agg [.arr (.int .i64) fl, .arr (.sl (.int .i64)) gs], .arr (.int .i64) y] (.lit (.bool true)) [] := by
  obtain ⟨F, G, hmade, hok, hm8, hl1, hl2, hl3⟩ := made_ex fl gs 8 (by omega) (by omega)
  have hR := riverOk.riv hok
  have hl := hR.len
  have hF30 := (riverOk.river hok).val
  have hB := Best_good hok hl1 hl2 hl3
  have hbl := hR.best_len
  have hbv := hR.best_val
  have hW := Worth_eq (badW_good hok hbl (fun i hi => (hbv i hi).1) hR.best_poss) (w := val F G) rfl hl1 hl2 hl3 (by omega)
  refine FnAt.of_body tys_ok Try.func8 (by rfl) rfl Try.ntmps8 (by rw [Try.results8]) (by simp) ?_
  
  repeat' (first
    | refine W.seq ?_
    | refine W.block ?_
    | (refine W.region tys_ok [] ?_; conv => whnf)
    | (refine W.drawAll tys_ok [] mixed rfl ?_; conv => whnf)
    | (refine W.ret ?_; conv => whnf)
    | (refine W.skip ?_; conv => whnf)
    | (refine W.exit ?_; conv => whnf)
    | (refine call_at (al := false) (hmade) rfl rfl rfl rfl ?_; conv => whnf)
    | (refine call_at (al := false) (hB) rfl rfl rfl rfl ?_; conv => whnf)
    | (refine call_at (al := false) (hW) rfl rfl rfl rfl ?_; conv => whnf)
    | (refine call_at (al := false) (lives_at) rfl rfl rfl rfl ?_; conv => whnf)

    | (refine W.cond rfl (fun hb => ?_) (fun hb => ?_) <;> (try simp only [minL, maxL, pickB, getD_int, getD_sl, getD_bool, len_int, len_sl, len_bool, decide_eq_true_eq, decide_eq_false_iff_not, Bool.and_eq_true, Bool.or_eq_true, Bool.and_eq_false_iff, Bool.or_eq_false_iff, Bool.not_eq_true', Bool.not_eq_false', Bool.true_eq_false, Bool.false_eq_true, Int.toNat_natCast, Int.ofNat_lt, Int.ofNat_le, not_true_eq_false, not_false_eq_true, or_false, false_or, and_true, true_and, or_true, true_or, and_false, false_and] at hb) <;> (try (first | (cases hb; done) | exact absurd hb (by decide) | (exfalso; omega))))
    | ((with_reducible refine And.intro ?_ ?_); (focus ((repeat' (first | (with_reducible rfl) | (with_reducible refine And.intro ?_ ?_) | omega | rfl | exact Or.inl rfl | exact Or.inr rfl | (focus ((try simp only [minL, maxL, pickB, getD_int, getD_sl, getD_bool, len_int, len_sl, len_bool, decide_eq_true_eq, decide_eq_false_iff_not, Bool.and_eq_true, Bool.or_eq_true, Bool.and_eq_false_iff, Bool.or_eq_false_iff, Bool.not_eq_true', Bool.not_eq_false', Bool.true_eq_false, Bool.false_eq_true, Int.toNat_natCast, Int.ofNat_lt, Int.ofNat_le, not_true_eq_false, not_false_eq_true, or_false, false_or, and_true, true_and, or_true, true_or, and_false, false_and, InK, Path.imp, List.length_replicate, List.length_set, List.length_append, List.length_cons, List.length_nil] at *); omega)) | (refine app_le rfl ?_; omega))); done)); (conv => whnf))
    | ((with_reducible refine And.intro (Side.out ?_) ?_); rotate_left; (conv => whnf))
    | (refine retF1 ?_ <;> (conv => whnf) <;> repeat' (first
    | exact trivial
    | (with_reducible rfl)
    | ((with_reducible refine And.intro ?_ ?_) <;> conv => whnf)
    | omega
    | rfl
    | (refine congrArg (SV.arr _) ?_)
    | (refine congrArg (Value.int _) ?_)
    | (refine congrArg Value.bool ?_)))
    | (refine retF2 ?_ <;> (conv => whnf) <;> repeat' (first
    | exact trivial
    | (with_reducible rfl)
    | ((with_reducible refine And.intro ?_ ?_) <;> conv => whnf)
    | omega
    | rfl
    | (refine congrArg (SV.arr _) ?_)
    | (refine congrArg (Value.int _) ?_)
    | (refine congrArg Value.bool ?_)))); all_goals (try unfold Side)
  all_goals try (repeat' (first | (with_reducible rfl) | (with_reducible refine And.intro ?_ ?_) | omega | rfl | exact Or.inl rfl | exact Or.inr rfl | (focus ((try simp only [minL, maxL, pickB, getD_int, getD_sl, getD_bool, len_int, len_sl, len_bool, decide_eq_true_eq, decide_eq_false_iff_not, Bool.and_eq_true, Bool.or_eq_true, Bool.and_eq_false_iff, Bool.or_eq_false_iff, Bool.not_eq_true', Bool.not_eq_false', Bool.true_eq_false, Bool.false_eq_true, Int.toNat_natCast, Int.ofNat_lt, Int.ofNat_le, not_true_eq_false, not_false_eq_true, or_false, false_or, and_true, true_and, or_true, true_or, and_false, false_and, InK, Path.imp, List.length_replicate, List.length_set, List.length_append, List.length_cons, List.length_nil] at *); omega)) | (refine app_le rfl ?_; omega)))
  have hbl' : @List.length (Ty.int .i64).T (bestL F G) = F.length := hbl
  refine W.loop (fun i : Nat => ⟨[(1, .st false (.arr (.int .i64) y)), (5, .own 15000), (6, .own 15001), (7, .own 19000), (8, .lit (.int .i64 (val F G))), (12, .lit (.int .i64 i))],
      [(15000, .row 3 (.int .i64) true F), (15001, .row 22 (.sl (.int .i64)) true G), (19000, .row 3 (.int .i64) true (bestL F G))]⟩)
    (fun i => i ≤ F.length) (fun i => F.length - i) 0 ?_ ?_
  · refine ⟨Nat.zero_le _, ?_⟩
    refine subF.ok ?_ <;> (conv => whnf) <;> repeat' (first
    | exact trivial
    | (with_reducible rfl)
    | ((with_reducible refine And.intro ?_ ?_) <;> conv => whnf)
    | omega
    | rfl
    | (refine congrArg (SV.arr _) ?_)
    | (refine congrArg (Value.int _) ?_)
    | (refine congrArg Value.bool ?_))
  · intro i hi
    by_cases hil : i < F.length
    · have hv := hbv i (by omega)
      repeat' (first
    | refine W.seq ?_
    | refine W.block ?_
    | (refine W.region tys_ok [] ?_; conv => whnf)
    | (refine W.drawAll tys_ok [] mixed rfl ?_; conv => whnf)
    | (refine W.ret ?_; conv => whnf)
    | (refine W.skip ?_; conv => whnf)
    | (refine W.exit ?_; conv => whnf)

    | (refine W.cond rfl (fun hb => ?_) (fun hb => ?_) <;> (try simp only [minL, maxL, pickB, getD_int, getD_sl, getD_bool, len_int, len_sl, len_bool, decide_eq_true_eq, decide_eq_false_iff_not, Bool.and_eq_true, Bool.or_eq_true, Bool.and_eq_false_iff, Bool.or_eq_false_iff, Bool.not_eq_true', Bool.not_eq_false', Bool.true_eq_false, Bool.false_eq_true, Int.toNat_natCast, Int.ofNat_lt, Int.ofNat_le, not_true_eq_false, not_false_eq_true, or_false, false_or, and_true, true_and, or_true, true_or, and_false, false_and] at hb) <;> (try (first | (cases hb; done) | exact absurd hb (by decide) | (exfalso; omega))))
    | ((with_reducible refine And.intro ?_ ?_); (focus ((repeat' (first | (with_reducible rfl) | (with_reducible refine And.intro ?_ ?_) | omega | rfl | exact Or.inl rfl | exact Or.inr rfl | (focus ((try simp only [minL, maxL, pickB, getD_int, getD_sl, getD_bool, len_int, len_sl, len_bool, decide_eq_true_eq, decide_eq_false_iff_not, Bool.and_eq_true, Bool.or_eq_true, Bool.and_eq_false_iff, Bool.or_eq_false_iff, Bool.not_eq_true', Bool.not_eq_false', Bool.true_eq_false, Bool.false_eq_true, Int.toNat_natCast, Int.ofNat_lt, Int.ofNat_le, not_true_eq_false, not_false_eq_true, or_false, false_or, and_true, true_and, or_true, true_or, and_false, false_and, InK, Path.imp, List.length_replicate, List.length_set, List.length_append, List.length_cons, List.length_nil] at *); omega)) | (refine app_le rfl ?_; omega))); done)); (conv => whnf))
    | ((with_reducible refine And.intro (Side.out ?_) ?_); rotate_left; (conv => whnf))
    | (refine retF1 ?_ <;> (conv => whnf) <;> repeat' (first
    | exact trivial
    | (with_reducible rfl)
    | ((with_reducible refine And.intro ?_ ?_) <;> conv => whnf)
    | omega
    | rfl
    | (refine congrArg (SV.arr _) ?_)
    | (refine congrArg (Value.int _) ?_)
    | (refine congrArg Value.bool ?_)))
    | (refine retF2 ?_ <;> (conv => whnf) <;> repeat' (first
    | exact trivial
    | (with_reducible rfl)
    | ((with_reducible refine And.intro ?_ ?_) <;> conv => whnf)
    | omega
    | rfl
    | (refine congrArg (SV.arr _) ?_)
    | (refine congrArg (Value.int _) ?_)
    | (refine congrArg Value.bool ?_)))); all_goals (try unfold Side)
      all_goals try (repeat' (first | (with_reducible rfl) | (with_reducible refine And.intro ?_ ?_) | omega | rfl | exact Or.inl rfl | exact Or.inr rfl | (focus ((try simp only [minL, maxL, pickB, getD_int, getD_sl, getD_bool, len_int, len_sl, len_bool, decide_eq_true_eq, decide_eq_false_iff_not, Bool.and_eq_true, Bool.or_eq_true, Bool.and_eq_false_iff, Bool.or_eq_false_iff, Bool.not_eq_true', Bool.not_eq_false', Bool.true_eq_false, Bool.false_eq_true, Int.toNat_natCast, Int.ofNat_lt, Int.ofNat_le, not_true_eq_false, not_false_eq_true, or_false, false_or, and_true, true_and, or_true, true_or, and_false, false_and, InK, Path.imp, List.length_replicate, List.length_set, List.length_append, List.length_cons, List.length_nil] at *); omega)) | (refine app_le rfl ?_; omega)))
      refine ⟨i + 1, ⟨by omega, by omega⟩, ?_⟩
      refine subF.ok ?_ <;> (conv => whnf) <;> repeat' (first
    | exact trivial
    | (with_reducible rfl)
    | ((with_reducible refine And.intro ?_ ?_) <;> conv => whnf)
    | omega
    | rfl
    | (refine congrArg (SV.arr _) ?_)
    | (refine congrArg (Value.int _) ?_)
    | (refine congrArg Value.bool ?_))
    · have hie : i = F.length := by omega
      subst hie
      repeat' (first
    | refine W.seq ?_
    | refine W.block ?_
    | (refine W.region tys_ok [] ?_; conv => whnf)
    | (refine W.drawAll tys_ok [] mixed rfl ?_; conv => whnf)
    | (refine W.ret ?_; conv => whnf)
    | (refine W.skip ?_; conv => whnf)
    | (refine W.exit ?_; conv => whnf)

    | (refine W.cond rfl (fun hb => ?_) (fun hb => ?_) <;> (try simp only [minL, maxL, pickB, getD_int, getD_sl, getD_bool, len_int, len_sl, len_bool, decide_eq_true_eq, decide_eq_false_iff_not, Bool.and_eq_true, Bool.or_eq_true, Bool.and_eq_false_iff, Bool.or_eq_false_iff, Bool.not_eq_true', Bool.not_eq_false', Bool.true_eq_false, Bool.false_eq_true, Int.toNat_natCast, Int.ofNat_lt, Int.ofNat_le, not_true_eq_false, not_false_eq_true, or_false, false_or, and_true, true_and, or_true, true_or, and_false, false_and] at hb) <;> (try (first | (cases hb; done) | exact absurd hb (by decide) | (exfalso; omega))))
    | ((with_reducible refine And.intro ?_ ?_); (focus ((repeat' (first | (with_reducible rfl) | (with_reducible refine And.intro ?_ ?_) | omega | rfl | exact Or.inl rfl | exact Or.inr rfl | (focus ((try simp only [minL, maxL, pickB, getD_int, getD_sl, getD_bool, len_int, len_sl, len_bool, decide_eq_true_eq, decide_eq_false_iff_not, Bool.and_eq_true, Bool.or_eq_true, Bool.and_eq_false_iff, Bool.or_eq_false_iff, Bool.not_eq_true', Bool.not_eq_false', Bool.true_eq_false, Bool.false_eq_true, Int.toNat_natCast, Int.ofNat_lt, Int.ofNat_le, not_true_eq_false, not_false_eq_true, or_false, false_or, and_true, true_and, or_true, true_or, and_false, false_and, InK, Path.imp, List.length_replicate, List.length_set, List.length_append, List.length_cons, List.length_nil] at *); omega)) | (refine app_le rfl ?_; omega))); done)); (conv => whnf))
    | ((with_reducible refine And.intro (Side.out ?_) ?_); rotate_left; (conv => whnf))
    | (refine retF1 ?_ <;> (conv => whnf) <;> repeat' (first
    | exact trivial
    | (with_reducible rfl)
    | ((with_reducible refine And.intro ?_ ?_) <;> conv => whnf)
    | omega
    | rfl
    | (refine congrArg (SV.arr _) ?_)
    | (refine congrArg (Value.int _) ?_)
    | (refine congrArg Value.bool ?_)))
    | (refine retF2 ?_ <;> (conv => whnf) <;> repeat' (first
    | exact trivial
    | (with_reducible rfl)
    | ((with_reducible refine And.intro ?_ ?_) <;> conv => whnf)
    | omega
    | rfl
    | (refine congrArg (SV.arr _) ?_)
    | (refine congrArg (Value.int _) ?_)
    | (refine congrArg Value.bool ?_)))); all_goals (try unfold Side)
      all_goals try (repeat' (first | (with_reducible rfl) | (with_reducible refine And.intro ?_ ?_) | omega | rfl | exact Or.inl rfl | exact Or.inr rfl | (focus ((try simp only [minL, maxL, pickB, getD_int, getD_sl, getD_bool, len_int, len_sl, len_bool, decide_eq_true_eq, decide_eq_false_iff_not, Bool.and_eq_true, Bool.or_eq_true, Bool.and_eq_false_iff, Bool.or_eq_false_iff, Bool.not_eq_true', Bool.not_eq_false', Bool.true_eq_false, Bool.false_eq_true, Int.toNat_natCast, Int.ofNat_lt, Int.ofNat_le, not_true_eq_false, not_false_eq_true, or_false, false_or, and_true, true_and, or_true, true_or, and_false, false_and, InK, Path.imp, List.length_replicate, List.length_set, List.length_append, List.length_cons, List.length_nil] at *); omega)) | (refine app_le rfl ?_; omega)))
      refine W.loop (fun x : Nat × List Int × Int => ⟨[(1, .st false (.arr (.int .i64) y)), (5, .own 15000), (6, .own 15001), (8, .lit (.int .i64 (val F G))), (13, .own 70000), (14, .lit (.int .i64 x.2.2)), (15, .lit (.int .i64 x.1))],
          [(15000, .row 3 (.int .i64) true F), (15001, .row 22 (.sl (.int .i64)) true G), (70000, .row 3 (.int .i64) true x.2.1)]⟩)
        (fun x => x.1 ≤ F.length ∧ UseJ F x.1 x.2.1 x.2.2) (fun x => F.length - x.1) (0, [], 0) ?_ ?_
      · refine ⟨⟨Nat.zero_le _, ⟨rfl, rfl, Int.le_refl _, Int.le_refl _, fun j hj => by omega, fun j hj => by omega⟩⟩, ?_⟩
        refine subF.ok ?_ <;> (conv => whnf) <;> repeat' (first
    | exact trivial
    | (with_reducible rfl)
    | ((with_reducible refine And.intro ?_ ?_) <;> conv => whnf)
    | omega
    | rfl
    | (refine congrArg (SV.arr _) ?_)
    | (refine congrArg (Value.int _) ?_)
    | (refine congrArg Value.bool ?_))
      · rintro ⟨i, us, left⟩ ⟨hi, hJ⟩
        dsimp only at hi hJ ⊢
        have hul : @List.length (Ty.int .i64).T us = i := hJ.len
        have hl0 := hJ.l0
        have hlj := hJ.l1
        by_cases hil : i < F.length
        · have hv := hF30 i hil
          have hf := fold_at (y.getD i 0) (left + F.getD i 0 + 1) (by omega) (by omega)
          have hfr := foldI_range (v := y.getD i 0) (n := left + F.getD i 0 + 1) (by omega)
          repeat' (first
    | refine W.seq ?_
    | refine W.block ?_
    | (refine W.region tys_ok [] ?_; conv => whnf)
    | (refine W.drawAll tys_ok [] mixed rfl ?_; conv => whnf)
    | (refine W.ret ?_; conv => whnf)
    | (refine W.skip ?_; conv => whnf)
    | (refine W.exit ?_; conv => whnf)
    | (refine call_at (al := false) (hf) rfl rfl rfl rfl ?_; conv => whnf)

    | (refine W.cond rfl (fun hb => ?_) (fun hb => ?_) <;> (try simp only [minL, maxL, pickB, getD_int, getD_sl, getD_bool, len_int, len_sl, len_bool, decide_eq_true_eq, decide_eq_false_iff_not, Bool.and_eq_true, Bool.or_eq_true, Bool.and_eq_false_iff, Bool.or_eq_false_iff, Bool.not_eq_true', Bool.not_eq_false', Bool.true_eq_false, Bool.false_eq_true, Int.toNat_natCast, Int.ofNat_lt, Int.ofNat_le, not_true_eq_false, not_false_eq_true, or_false, false_or, and_true, true_and, or_true, true_or, and_false, false_and] at hb) <;> (try (first | (cases hb; done) | exact absurd hb (by decide) | (exfalso; omega))))
    | ((with_reducible refine And.intro ?_ ?_); (focus ((repeat' (first | (with_reducible rfl) | (with_reducible refine And.intro ?_ ?_) | omega | rfl | exact Or.inl rfl | exact Or.inr rfl | (focus ((try simp only [minL, maxL, pickB, getD_int, getD_sl, getD_bool, len_int, len_sl, len_bool, decide_eq_true_eq, decide_eq_false_iff_not, Bool.and_eq_true, Bool.or_eq_true, Bool.and_eq_false_iff, Bool.or_eq_false_iff, Bool.not_eq_true', Bool.not_eq_false', Bool.true_eq_false, Bool.false_eq_true, Int.toNat_natCast, Int.ofNat_lt, Int.ofNat_le, not_true_eq_false, not_false_eq_true, or_false, false_or, and_true, true_and, or_true, true_or, and_false, false_and, InK, Path.imp, List.length_replicate, List.length_set, List.length_append, List.length_cons, List.length_nil] at *); omega)) | (refine app_le rfl ?_; omega))); done)); (conv => whnf))
    | ((with_reducible refine And.intro (Side.out ?_) ?_); rotate_left; (conv => whnf))
    | (refine retF1 ?_ <;> (conv => whnf) <;> repeat' (first
    | exact trivial
    | (with_reducible rfl)
    | ((with_reducible refine And.intro ?_ ?_) <;> conv => whnf)
    | omega
    | rfl
    | (refine congrArg (SV.arr _) ?_)
    | (refine congrArg (Value.int _) ?_)
    | (refine congrArg Value.bool ?_)))
    | (refine retF2 ?_ <;> (conv => whnf) <;> repeat' (first
    | exact trivial
    | (with_reducible rfl)
    | ((with_reducible refine And.intro ?_ ?_) <;> conv => whnf)
    | omega
    | rfl
    | (refine congrArg (SV.arr _) ?_)
    | (refine congrArg (Value.int _) ?_)
    | (refine congrArg Value.bool ?_)))); all_goals (try unfold Side)
          all_goals try (repeat' (first | (with_reducible rfl) | (with_reducible refine And.intro ?_ ?_) | omega | rfl | exact Or.inl rfl | exact Or.inr rfl | (focus ((try simp only [minL, maxL, pickB, getD_int, getD_sl, getD_bool, len_int, len_sl, len_bool, decide_eq_true_eq, decide_eq_false_iff_not, Bool.and_eq_true, Bool.or_eq_true, Bool.and_eq_false_iff, Bool.or_eq_false_iff, Bool.not_eq_true', Bool.not_eq_false', Bool.true_eq_false, Bool.false_eq_true, Int.toNat_natCast, Int.ofNat_lt, Int.ofNat_le, not_true_eq_false, not_false_eq_true, or_false, false_or, and_true, true_and, or_true, true_or, and_false, false_and, InK, Path.imp, List.length_replicate, List.length_set, List.length_append, List.length_cons, List.length_nil] at *); omega)) | (refine app_le rfl ?_; omega)))
          · refine ⟨(i + 1, us ++ [foldI (y.getD i 0) (left + F.getD i 0 + 1)], left + F.getD i 0 - foldI (y.getD i 0) (left + F.getD i 0 + 1)), ⟨⟨?_, hJ.step hil hv (by omega) (by omega)⟩, ?_⟩, ?_⟩
            · exact hil
            · dsimp only; omega
            · refine subF.ok ?_ <;> (conv => whnf) <;> repeat' (first
    | exact trivial
    | (with_reducible rfl)
    | ((with_reducible refine And.intro ?_ ?_) <;> conv => whnf)
    | omega
    | rfl
    | (refine congrArg (SV.arr _) ?_)
    | (refine congrArg (Value.int _) ?_)
    | (refine congrArg Value.bool ?_))
          · refine ⟨(i + 1, us ++ [0], left + F.getD i 0 - 0), ⟨⟨?_, hJ.step hil hv (by omega) (by omega)⟩, ?_⟩, ?_⟩
            · exact hil
            · dsimp only; omega
            · refine subF.ok ?_ <;> (conv => whnf) <;> repeat' (first
    | exact trivial
    | (with_reducible rfl)
    | ((with_reducible refine And.intro ?_ ?_) <;> conv => whnf)
    | omega
    | rfl
    | (refine congrArg (SV.arr _) ?_)
    | (refine congrArg (Value.int _) ?_)
    | (refine congrArg Value.bool ?_))
        · have hie : i = F.length := by omega
          subst hie
          have hup := riv_upper hR hJ.len (fun i hi => hJ.u0 i (by rw [hJ.len] at hi; exact hi)) hJ.poss
          have hW2 := Worth_eq (badW_good hok hJ.len (fun i hi => hJ.u0 i (by rw [hJ.len] at hi; exact hi)) hJ.poss) (w := worthL G us) rfl hl1 hl2 hl3 (by rw [hJ.len]; omega)
          repeat' (first
    | refine W.seq ?_
    | refine W.block ?_
    | (refine W.region tys_ok [] ?_; conv => whnf)
    | (refine W.drawAll tys_ok [] mixed rfl ?_; conv => whnf)
    | (refine W.ret ?_; conv => whnf)
    | (refine W.skip ?_; conv => whnf)
    | (refine W.exit ?_; conv => whnf)
    | (refine call_at (al := false) (hW2) rfl rfl rfl rfl ?_; conv => whnf)

    | (refine W.cond rfl (fun hb => ?_) (fun hb => ?_) <;> (try simp only [minL, maxL, pickB, getD_int, getD_sl, getD_bool, len_int, len_sl, len_bool, decide_eq_true_eq, decide_eq_false_iff_not, Bool.and_eq_true, Bool.or_eq_true, Bool.and_eq_false_iff, Bool.or_eq_false_iff, Bool.not_eq_true', Bool.not_eq_false', Bool.true_eq_false, Bool.false_eq_true, Int.toNat_natCast, Int.ofNat_lt, Int.ofNat_le, not_true_eq_false, not_false_eq_true, or_false, false_or, and_true, true_and, or_true, true_or, and_false, false_and] at hb) <;> (try (first | (cases hb; done) | exact absurd hb (by decide) | (exfalso; omega))))
    | ((with_reducible refine And.intro ?_ ?_); (focus ((repeat' (first | (with_reducible rfl) | (with_reducible refine And.intro ?_ ?_) | omega | rfl | exact Or.inl rfl | exact Or.inr rfl | (focus ((try simp only [minL, maxL, pickB, getD_int, getD_sl, getD_bool, len_int, len_sl, len_bool, decide_eq_true_eq, decide_eq_false_iff_not, Bool.and_eq_true, Bool.or_eq_true, Bool.and_eq_false_iff, Bool.or_eq_false_iff, Bool.not_eq_true', Bool.not_eq_false', Bool.true_eq_false, Bool.false_eq_true, Int.toNat_natCast, Int.ofNat_lt, Int.ofNat_le, not_true_eq_false, not_false_eq_true, or_false, false_or, and_true, true_and, or_true, true_or, and_false, false_and, InK, Path.imp, List.length_replicate, List.length_set, List.length_append, List.length_cons, List.length_nil] at *); omega)) | (refine app_le rfl ?_; omega))); done)); (conv => whnf))
    | ((with_reducible refine And.intro (Side.out ?_) ?_); rotate_left; (conv => whnf))
    | (refine retF1 ?_ <;> (conv => whnf) <;> repeat' (first
    | exact trivial
    | (with_reducible rfl)
    | ((with_reducible refine And.intro ?_ ?_) <;> conv => whnf)
    | omega
    | rfl
    | (refine congrArg (SV.arr _) ?_)
    | (refine congrArg (Value.int _) ?_)
    | (refine congrArg Value.bool ?_)))
    | (refine retF2 ?_ <;> (conv => whnf) <;> repeat' (first
    | exact trivial
    | (with_reducible rfl)
    | ((with_reducible refine And.intro ?_ ?_) <;> conv => whnf)
    | omega
    | rfl
    | (refine congrArg (SV.arr _) ?_)
    | (refine congrArg (Value.int _) ?_)
    | (refine congrArg Value.bool ?_)))); all_goals (try unfold Side)
          all_goals try (repeat' (first | (with_reducible rfl) | (with_reducible refine And.intro ?_ ?_) | omega | rfl | exact Or.inl rfl | exact Or.inr rfl | (focus ((try simp only [minL, maxL, pickB, getD_int, getD_sl, getD_bool, len_int, len_sl, len_bool, decide_eq_true_eq, decide_eq_false_iff_not, Bool.and_eq_true, Bool.or_eq_true, Bool.and_eq_false_iff, Bool.or_eq_false_iff, Bool.not_eq_true', Bool.not_eq_false', Bool.true_eq_false, Bool.false_eq_true, Int.toNat_natCast, Int.ofNat_lt, Int.ofNat_le, not_true_eq_false, not_false_eq_true, or_false, false_or, and_true, true_and, or_true, true_or, and_false, false_and, InK, Path.imp, List.length_replicate, List.length_set, List.length_append, List.length_cons, List.length_nil] at *); omega)) | (refine app_le rfl ?_; omega)))
end Go.Proofs.Ytohfemfgnohhdaa
/- What groups are worth alone and aspire to, by tables: the mathematics. No condition. -/
namespace Go.Proofs.Ytohfemfgnohhdaa
open Go Go.Vc
set_option linter.unusedVariables false
set_option linter.unusedSimpArgs false

theorem mxF_at {k : Nat → Int} {n : Nat} (hn : 0 < n) (h0 : 0 ≤ k 0) : ∃ x, x < n ∧ mxF k n = k x := by
  rcases mxF_attain (k := k) (n := n) with h | h
  · exact h
  · have := mxF_ge (k := k) hn
    exact ⟨0, hn, by omega⟩
theorem mxF_le {k k' : Nat → Int} {n m : Nat} (hnm : n ≤ m) (h : ∀ x, x < n → k x ≤ k' x) : mxF k n ≤ mxF k' m := by
  rcases mxF_attain (k := k) (n := n) with ⟨x, h1, h2⟩ | h1
  · have := h x h1
    have := mxF_ge (k := k') (n := m) (x := x) (by omega)
    omega
  · have := mxF_nonneg (k := k') (n := m)
    omega
theorem mxF_add {k : Nat → Int} {C : Int} {n : Nat} (hn : 0 < n) (h0 : 0 ≤ k 0) (hC : 0 ≤ C) : mxF (fun x => k x + C) n = mxF k n + C := by
  obtain ⟨x, h1, h2⟩ := mxF_at hn h0
  obtain ⟨y, h3, h4⟩ := mxF_at (k := fun x => k x + C) hn (show 0 ≤ k 0 + C by omega)
  have h5 := mxF_ge (k := fun x => k x + C) h1
  have h6 := mxF_ge (k := k) h3
  omega
theorem cntL_pos {f : Int} {g : List Int} {w : Int} : 0 < cntL f g w := by unfold cntL; omega
theorem cntL_mono {f : Int} {g : List Int} {w w' : Int} (h : w ≤ w') : cntL f g w ≤ cntL f g w' := by unfold cntL; omega
theorem cntL_x {f : Int} {g : List Int} {w : Int} {x : Nat} (h : x < cntL f g w) (hw : 0 ≤ w + f) : (x : Int) ≤ w + f := by unfold cntL at h; omega
/-- The greatest worth of the places of a group, from place i on, alone; and when all water comes to them. -/
def mA (S : Nat → Bool) : Nat → List Int → List (List Int) → Int → Int
  | i, f :: fs, g :: gs, w => if S i = true then mxF (fun x => (g.take x).sum + mA S (i + 1) fs gs (w + f - x)) (cntL f g w) else mA S (i + 1) fs gs 0
  | _, _, _, _ => 0
def mP (S : Nat → Bool) : Nat → List Int → List (List Int) → Int → Int
  | i, f :: fs, g :: gs, w => if S i = true then mxF (fun x => (g.take x).sum + mP S (i + 1) fs gs (w + f - x)) (cntL f g w) else mP S (i + 1) fs gs (w + f)
  | _, _, _, _ => 0
theorem mA_nonneg {S : Nat → Bool} : ∀ {i : Nat} {fs : List Int} {gs : List (List Int)} {w : Int}, 0 ≤ mA S i fs gs w
  | i, f :: fs, g :: gs, w => by
    simp only [mA]
    split
    · exact mxF_nonneg
    · exact mA_nonneg
  | _, [], _, _ => by simp [mA]
  | _, _ :: _, [], _ => by simp [mA]
theorem mP_nonneg {S : Nat → Bool} : ∀ {i : Nat} {fs : List Int} {gs : List (List Int)} {w : Int}, 0 ≤ mP S i fs gs w
  | i, f :: fs, g :: gs, w => by
    simp only [mP]
    split
    · exact mxF_nonneg
    · exact mP_nonneg
  | _, [], _, _ => by simp [mP]
  | _, _ :: _, [], _ => by simp [mP]
theorem mA_mono {S : Nat → Bool} : ∀ {i : Nat} {fs : List Int} {gs : List (List Int)} {w w' : Int}, w ≤ w' → mA S i fs gs w ≤ mA S i fs gs w'
  | i, f :: fs, g :: gs, w, w', h => by
    simp only [mA]
    split
    · refine mxF_le (cntL_mono h) fun x _ => ?_
      have := mA_mono (S := S) (i := i + 1) (fs := fs) (gs := gs) (w := w + f - x) (w' := w' + f - x) (by omega)
      omega
    · exact Int.le_refl _
  | _, [], _, _, _, _ => by simp [mA]
  | _, _ :: _, [], _, _, _ => by simp [mA]
theorem mP_mono {S : Nat → Bool} : ∀ {i : Nat} {fs : List Int} {gs : List (List Int)} {w w' : Int}, w ≤ w' → mP S i fs gs w ≤ mP S i fs gs w'
  | i, f :: fs, g :: gs, w, w', h => by
    simp only [mP]
    split
    · refine mxF_le (cntL_mono h) fun x _ => ?_
      have := mP_mono (S := S) (i := i + 1) (fs := fs) (gs := gs) (w := w + f - x) (w' := w' + f - x) (by omega)
      omega
    · exact mP_mono (by omega)
  | _, [], _, _, _, _ => by simp [mP]
  | _, _ :: _, [], _, _, _ => by simp [mP]
theorem Sfx.take0 {f : Int} {fs : List Int} {g : List Int} {gs : List (List Int)} (h : Sfx (f :: fs) (g :: gs)) (k : Nat) : 0 ≤ (g.take k).sum := take_sum_nonneg h.tail.2.2 k
/-- Two groups without a common place are worth together at least what they are worth alone. -/
theorem mA_union {S T U : Nat → Bool} (hU : ∀ i, U i = (S i || T i)) (hd : ∀ i, S i = true → T i = false) : ∀ {i : Nat} {fs : List Int} {gs : List (List Int)} {a b w : Int}, Sfx fs gs → 0 ≤ a → 0 ≤ b → a + b ≤ w →
    mA S i fs gs a + mA T i fs gs b ≤ mA U i fs gs w
  | i, f :: fs, g :: gs, a, b, w, hs, ha, hb, hw => by
    have ht := hs.tail
    simp only [mA, hU]
    cases hS : S i with
    | true =>
      have hT := hd i hS
      rw [hT]
      rw [if_pos rfl, if_neg (by simp), if_pos (by simp)]
      obtain ⟨x, h1, h2⟩ := mxF_at (k := fun x => (g.take x).sum + mA S (i + 1) fs gs (a + f - x)) (n := cntL f g a) cntL_pos (by
        have := mA_nonneg (S := S) (i := i + 1) (fs := fs) (gs := gs) (w := a + f - (0 : Nat))
        have := hs.take0 0
        omega)
      rw [h2]
      have hx := cntL_x h1 (by omega)
      have h3 := mxF_ge (k := fun x => (g.take x).sum + mA U (i + 1) fs gs (w + f - x)) (n := cntL f g w) (x := x) (Nat.lt_of_lt_of_le h1 (cntL_mono (by omega)))
      have h4 := mA_union hU hd (i := i + 1) (fs := fs) (gs := gs) (a := a + f - x) (b := 0) (w := w + f - x) ht.1 (by omega) (by omega) (by omega)
      omega
    | false =>
      cases hT : T i with
      | true =>
        rw [if_neg (by simp), if_pos rfl, if_pos (by simp)]
        obtain ⟨x, h1, h2⟩ := mxF_at (k := fun x => (g.take x).sum + mA T (i + 1) fs gs (b + f - x)) (n := cntL f g b) cntL_pos (by
          have := mA_nonneg (S := T) (i := i + 1) (fs := fs) (gs := gs) (w := b + f - (0 : Nat))
          have := hs.take0 0
          omega)
        rw [h2]
        have hx := cntL_x h1 (by omega)
        have h3 := mxF_ge (k := fun x => (g.take x).sum + mA U (i + 1) fs gs (w + f - x)) (n := cntL f g w) (x := x) (Nat.lt_of_lt_of_le h1 (cntL_mono (by omega)))
        have h4 := mA_union hU hd (i := i + 1) (fs := fs) (gs := gs) (a := 0) (b := b + f - x) (w := w + f - x) ht.1 (by omega) (by omega) (by omega)
        omega
      | false =>
        rw [if_neg (by simp), if_neg (by simp), if_neg (by simp)]
        exact mA_union hU hd ht.1 (by omega) (by omega) (by omega)
  | _, [], _, _, _, _, _, _, _, _ => by simp [mA]
  | _, _ :: _, [], _, _, _, _, _, _, _ => by simp [mA]
/-- What a group aspires to never rises by more than the other one aspires to. -/
theorem mP_union {S T U : Nat → Bool} (hU : ∀ i, U i = (S i || T i)) (hd : ∀ i, S i = true → T i = false) : ∀ {i : Nat} {fs : List Int} {gs : List (List Int)} {w : Int}, Sfx fs gs → 0 ≤ w →
    mP U i fs gs w ≤ mP S i fs gs w + mP T i fs gs w
  | i, f :: fs, g :: gs, w, hs, hw => by
    have ht := hs.tail
    simp only [mP, hU]
    cases hS : S i with
    | true =>
      have hT := hd i hS
      rw [hT]
      rw [if_pos (by simp), if_pos rfl, if_neg (by simp)]
      obtain ⟨x, h1, h2⟩ := mxF_at (k := fun x => (g.take x).sum + mP U (i + 1) fs gs (w + f - x)) (n := cntL f g w) cntL_pos (by
        have := mP_nonneg (S := U) (i := i + 1) (fs := fs) (gs := gs) (w := w + f - (0 : Nat))
        have := hs.take0 0
        omega)
      rw [h2]
      have hx := cntL_x h1 (by omega)
      have h3 := mxF_ge (k := fun x => (g.take x).sum + mP S (i + 1) fs gs (w + f - x)) h1
      have h4 := mP_union hU hd (i := i + 1) (fs := fs) (gs := gs) (w := w + f - x) ht.1 (by omega)
      have h5 := mP_mono (S := T) (i := i + 1) (fs := fs) (gs := gs) (w := w + f - x) (w' := w + f) (by omega)
      omega
    | false =>
      cases hT : T i with
      | true =>
        rw [if_pos (by simp), if_neg (by simp), if_pos rfl]
        obtain ⟨x, h1, h2⟩ := mxF_at (k := fun x => (g.take x).sum + mP U (i + 1) fs gs (w + f - x)) (n := cntL f g w) cntL_pos (by
          have := mP_nonneg (S := U) (i := i + 1) (fs := fs) (gs := gs) (w := w + f - (0 : Nat))
          have := hs.take0 0
          omega)
        rw [h2]
        have hx := cntL_x h1 (by omega)
        have h3 := mxF_ge (k := fun x => (g.take x).sum + mP T (i + 1) fs gs (w + f - x)) h1
        have h4 := mP_union hU hd (i := i + 1) (fs := fs) (gs := gs) (w := w + f - x) ht.1 (by omega)
        have h5 := mP_mono (S := S) (i := i + 1) (fs := fs) (gs := gs) (w := w + f - x) (w' := w + f) (by omega)
        omega
      | false =>
        rw [if_neg (by simp), if_neg (by simp), if_neg (by simp)]
        exact mP_union hU hd ht.1 (by omega)
  | _, [], _, _, _, _ => by simp [mP]
  | _, _ :: _, [], _, _, _ => by simp [mP]
theorem mA_mP {S : Nat → Bool} : ∀ {i : Nat} {fs : List Int} {gs : List (List Int)} {w w' : Int}, Sfx fs gs → 0 ≤ w' → w ≤ w' → mA S i fs gs w ≤ mP S i fs gs w'
  | i, f :: fs, g :: gs, w, w', hs, h0, hw => by
    have ht := hs.tail
    simp only [mA, mP]
    split
    · refine mxF_le (cntL_mono hw) fun x hx => ?_
      have hx := cntL_x (Nat.lt_of_lt_of_le hx (cntL_mono hw)) (by omega)
      have := mA_mP (S := S) (i := i + 1) (fs := fs) (gs := gs) (w := w + f - x) (w' := w' + f - x) ht.1 (by omega) (by omega)
      omega
    · exact mA_mP ht.1 (by omega) (by omega)
  | _, [], _, _, _, _, _, _ => by simp [mA, mP]
  | _, _ :: _, [], _, _, _, _, _ => by simp [mA, mP]
/-- The gains of a group's places only. -/
def maskG (S : Nat → Bool) : Nat → List (List Int) → List (List Int)
  | _, [] => []
  | i, g :: gs => (if S i = true then g else []) :: maskG S (i + 1) gs
theorem maskG_len {S : Nat → Bool} : ∀ {i : Nat} {gs : List (List Int)}, (maskG S i gs).length = gs.length
  | _, [] => rfl
  | i, g :: gs => by simp [maskG, maskG_len]
theorem maskG_get {S : Nat → Bool} : ∀ {i j : Nat} {gs : List (List Int)}, (maskG S i gs).getD j [] = if S (i + j) = true then gs.getD j [] else []
  | _, _, [] => by simp [maskG]
  | i, 0, g :: gs => by simp [maskG]
  | i, j + 1, g :: gs => by
    simp only [maskG, List.getD_cons_succ]
    rw [maskG_get, show i + 1 + j = i + (j + 1) from by omega]
theorem mP_mx {S : Nat → Bool} : ∀ {i : Nat} {fs : List Int} {gs : List (List Int)} {w : Int}, Sfx fs gs → 0 ≤ w → mP S i fs gs w = mx fs (maskG S i gs) w
  | i, f :: fs, g :: gs, w, hs, hw => by
    have ht := hs.tail
    simp only [mP, maskG, mx]
    split
    · have ex : ∀ x, x < cntL f g w → (g.take x).sum + mP S (i + 1) fs gs (w + f - x) = (g.take x).sum + mx fs (maskG S (i + 1) gs) (w + f - x) := fun x hx => by
        have hx := cntL_x hx (by omega)
        rw [mP_mx ht.1 (by omega)]
      exact mxF_congr ex
    · have e : cntL f [] w = 1 := by simp only [cntL, List.length_nil]; omega
      rw [e]
      have := mx_nonneg (fs := fs) (gs := maskG S (i + 1) gs) (w := w + f)
      have e2 : w + f - ((0 : Nat) : Int) = w + f := by omega
      simp only [mxF, List.take_nil, List.sum_nil, e2]
      rw [mP_mx ht.1 (by omega)]
      omega
  | _, [], gs, _, _, _ => by cases gs <;> simp [mP, mx, maskG]
  | _, _ :: _, [], _, _, _ => by simp [mP, mx, maskG]
/-- A row of places, and what follows behind a gap. -/
theorem mA_run {S : Nat → Bool} : ∀ {k i : Nat} {fs : List Int} {gs : List (List Int)} {w : Int}, k ≤ fs.length → Sfx fs gs → 0 ≤ w → (∀ j, j < k → S (i + j) = true) → (k < fs.length → S (i + k) = false) →
    mA S i fs gs w = mx (fs.take k) (gs.take k) w + mA S (i + k) (fs.drop k) (gs.drop k) 0
  | 0, i, fs, gs, w, _, hs, hw, h1, h2 => by
    simp only [List.take_zero, List.drop_zero, mx, Nat.add_zero, Int.zero_add]
    cases fs with
    | nil => simp [mA]
    | cons f fs =>
      cases gs with
      | nil => simp [mA]
      | cons g gs =>
        have := h2 (by simp)
        simp only [Nat.add_zero] at this
        simp only [mA, this, Bool.false_eq_true, if_false]
  | k + 1, i, [], gs, w, hk, _, _, _, _ => by simp at hk
  | k + 1, i, f :: fs, [], w, _, hs, _, _, _ => by have := hs.len; simp at this
  | k + 1, i, f :: fs, g :: gs, w, hk, hs, hw, h1, h2 => by
    have ht := hs.tail
    have h3 := h1 0 (by omega)
    simp only [Nat.add_zero] at h3
    simp only [mA, h3, if_true, List.take_succ_cons, List.drop_succ_cons, mx]
    have e : ∀ x, x < cntL f g w → (g.take x).sum + mA S (i + 1) fs gs (w + f - x) = ((g.take x).sum + mx (fs.take k) (gs.take k) (w + f - x)) + mA S (i + 1 + k) (fs.drop k) (gs.drop k) 0 := fun x hx => by
      have hx := cntL_x hx (by omega)
      rw [mA_run (k := k) (by simpa using hk) ht.1 (by omega) (fun j hj => by rw [show i + 1 + j = i + (j + 1) from by omega]; exact h1 (j + 1) (by omega)) (fun hj => by rw [show i + 1 + k = i + (k + 1) from by omega]; exact h2 (by simpa using hj))]
      omega
    rw [mxF_congr e, mxF_add cntL_pos (by
      have := mx_nonneg (fs := fs.take k) (gs := gs.take k) (w := w + f - (0 : Nat))
      have := hs.take0 0
      omega) mA_nonneg]
    rw [show i + 1 + k = i + (k + 1) from by omega]
theorem mA_skip {S : Nat → Bool} : ∀ {k i : Nat} {fs : List Int} {gs : List (List Int)}, (∀ j, j < k → S (i + j) = false) → mA S i fs gs 0 = mA S (i + k) (fs.drop k) (gs.drop k) 0
  | 0, i, fs, gs, _ => rfl
  | k + 1, i, [], gs, _ => by simp [mA]
  | k + 1, i, f :: fs, [], _ => by simp [mA]
  | k + 1, i, f :: fs, g :: gs, h => by
    have h3 := h 0 (by omega)
    simp only [Nat.add_zero] at h3
    simp only [mA, h3, Bool.false_eq_true, if_false, List.drop_succ_cons]
    rw [mA_skip (k := k) fun j hj => by rw [show i + 1 + j = i + (j + 1) from by omega]; exact h (j + 1) (by omega), show i + 1 + k = i + (k + 1) from by omega]
/-- Is a place in a group? -/
def inG (g : List Int) (i : Nat) : Bool := decide ((i : Int) ∈ g)
end Go.Proofs.Ytohfemfgnohhdaa
/- What groups are worth alone and aspire to are what tables say: the mathematics. No condition. -/
namespace Go.Proofs.Ytohfemfgnohhdaa
open Go Go.Vc
set_option linter.unusedVariables false
set_option linter.unusedSimpArgs false

theorem inG_iff {g : List Int} {i : Nat} : inG g i = true ↔ ∃ j, j < g.length ∧ g.getD j 0 = (i : Int) := by
  simp only [inG, decide_eq_true_eq, List.mem_iff_getElem]
  constructor
  · rintro ⟨j, hj, e⟩
    exact ⟨j, hj, by rw [List.getD_eq_getElem?_getD, List.getElem?_eq_getElem hj]; exact e⟩
  · rintro ⟨j, hj, e⟩
    exact ⟨j, hj, by rw [List.getD_eq_getElem?_getD, List.getElem?_eq_getElem hj] at e; exact e⟩
theorem inG_false {g : List Int} {i : Nat} : inG g i = false ↔ ∀ j, j < g.length → g.getD j 0 ≠ (i : Int) := by
  rw [← Bool.not_eq_true, inG_iff]
  exact ⟨fun h j hj e => h ⟨j, hj, e⟩, fun h ⟨j, hj, e⟩ => h j hj e⟩
theorem runT_spec : ∀ {a : Int} {r : List Int}, (∀ j, j < runT a r → r.getD j 0 = a + j + 1) ∧ (runT a r < r.length → r.getD (runT a r) 0 ≠ a + (runT a r : Int) + 1)
  | a, [] => ⟨fun j h => by simp [runT] at h, fun h => by simp [runT] at h⟩
  | a, b :: r => by
    have ih := runT_spec (a := b) (r := r)
    simp only [runT]
    split
    · rename_i e
      refine ⟨fun j hj => ?_, fun hj => ?_⟩
      · cases j with
        | zero => simp only [List.getD_cons_zero]; omega
        | succ j =>
          have := ih.1 j (by omega)
          rw [List.getD_cons_succ, this]
          omega
      · rw [List.getD_cons_succ]
        have := ih.2 (by simpa using hj)
        omega
    · rename_i e
      refine ⟨fun j hj => by omega, fun _ => ?_⟩
      simp only [List.getD_cons_zero]
      omega
theorem Grp.drop {n : Nat} {g : List Int} (h : Grp n g) (k : Nat) : Grp n (g.drop k) := by
  refine ⟨fun i hi => ?_, fun i hi => ?_⟩
  · rw [List.length_drop] at hi
    rw [getD_drop]
    exact h.val _ (by omega)
  · rw [List.length_drop] at hi
    rw [getD_drop, getD_drop]
    exact h.rise (k + i) (by omega)
theorem alone_mA {fl : List Int} {gs : List (List Int)} (h : Riv fl gs) {S : Nat → Bool} : ∀ (m : Nat) {g : List Int} {p : Nat}, g.length ≤ m → Grp fl.length g → (∀ j, j < g.length → (p : Int) ≤ g.getD j 0) → (∀ i, p ≤ i → S i = inG g i) →
    aloneL fl gs g = mA S p (fl.drop p) (gs.drop p) 0 := by
  intro m
  induction m with
  | zero =>
    intro g p hm hg hp hS
    have : g = [] := List.eq_nil_of_length_eq_zero (by omega)
    subst this
    rw [mA_skip (k := (fl.drop p).length) (fun j _ => by rw [hS _ (by omega)]; rfl)]
    rw [List.drop_drop, show List.drop (p + (fl.drop p).length) fl = [] from List.drop_eq_nil_of_le (by rw [List.length_drop]; omega)]
    simp [aloneL, aloneF, mA]
  | succ m ih =>
    intro g p hm hg hp hS
    cases g with
    | nil =>
      rw [mA_skip (k := (fl.drop p).length) (fun j _ => by rw [hS _ (by omega)]; rfl)]
      rw [List.drop_drop, show List.drop (p + (fl.drop p).length) fl = [] from List.drop_eq_nil_of_le (by rw [List.length_drop]; omega)]
      simp [aloneL, aloneF, mA]
    | cons a r =>
      have h0 := hp 0 (by simp)
      have hv0 := hg.val 0 (by simp)
      simp only [List.getD_cons_zero] at h0 hv0
      obtain ⟨A, hA⟩ : ∃ A : Nat, (A : Int) = a := ⟨a.toNat, by omega⟩
      obtain ⟨n, hn⟩ : ∃ n, n = runT a r + 1 := ⟨_, rfl⟩
      have hsp := runT_spec (a := a) (r := r)
      have hle := runT_le (a := a) (r := r)
      have hidx : ∀ j, j < n → (a :: r).getD j 0 = a + j := fun j hj => by
        cases j with
        | zero => simp
        | succ j =>
          rw [List.getD_cons_succ, hsp.1 j (by omega)]
          omega
      have hbig : ∀ j, n ≤ j → j < (a :: r).length → a + n + 1 ≤ (a :: r).getD j 0 := fun j hj hl => by
        simp only [List.length_cons] at hl
        have h1 := hsp.2 (by omega)
        have h2 : (a :: r).getD n 0 = r.getD (runT a r) 0 := by rw [hn, List.getD_cons_succ]
        have h3 := hidx (n - 1) (by omega)
        have h4 := hg.rise (n - 1) (by simp only [List.length_cons]; omega)
        rw [show n - 1 + 1 = n from by omega] at h4
        by_cases e : j = n
        · subst e; omega
        · have := hg.mono (i := n) (j := j) (by omega) (by simp only [List.length_cons]; omega)
          omega
      have hAp : p ≤ A := by omega
      have hlast := hg.val (n - 1) (by simp only [List.length_cons]; omega)
      rw [hidx _ (by omega)] at hlast
      have hnl : A + n ≤ fl.length := by omega
      rw [mA_skip (k := A - p) (fun j hj => by
        rw [hS _ (by omega), inG_false]
        intro i hi e
        by_cases c : i < n
        · rw [hidx i c] at e; omega
        · have := hbig i (by omega) hi; omega)]
      rw [List.drop_drop, List.drop_drop, show p + (A - p) = A from by omega]
      rw [mA_run (k := n) (by rw [List.length_drop]; omega) (h.sfx.drop A) (Int.le_refl 0) (fun j hj => by
        rw [hS _ (by omega), inG_iff]
        exact ⟨j, by simp only [List.length_cons]; omega, by rw [hidx j hj]; omega⟩) (fun _ => by
        rw [hS _ (by omega), inG_false]
        intro i hi e
        by_cases c : i < n
        · rw [hidx i c] at e; omega
        · have := hbig i (by omega) hi; omega)]
      rw [aloneL_cons, ← hn]
      have hrow : rowV fl gs a.toNat n = mx ((fl.drop A).take n) ((gs.drop A).take n) 0 := by
        rw [show a.toNat = A from by omega, rowV, ← (h.part A (A + n)).mx, List.drop_take, List.drop_take, show A + n - A = n from by omega]
      rw [hrow, List.drop_drop, List.drop_drop]
      have hdr : r.drop (runT a r) = (a :: r).drop n := by rw [hn, List.drop_succ_cons]
      rw [hdr]
      rw [ih (g := (a :: r).drop n) (p := A + n) (by rw [List.length_drop]; simp only [List.length_cons] at hm ⊢; omega) (hg.drop n) (fun j hj => by
        rw [getD_drop]
        rw [List.length_drop] at hj
        have := hbig (n + j) (by omega) (by omega)
        omega) (fun i hi => by
        rw [hS i (by omega)]
        apply Bool.eq_iff_iff.2
        rw [inG_iff, inG_iff]
        constructor
        · rintro ⟨j, hj, e⟩
          have hjn : n ≤ j := by
            refine Nat.le_of_not_lt fun c => ?_
            rw [hidx j c] at e
            omega
          exact ⟨j - n, by rw [List.length_drop]; omega, by rw [getD_drop, show n + (j - n) = j from by omega]; exact e⟩
        · rintro ⟨j, hj, e⟩
          rw [List.length_drop] at hj
          rw [getD_drop] at e
          exact ⟨n + j, by omega, e⟩)]
theorem alone_eq {fl : List Int} {gs : List (List Int)} (h : Riv fl gs) {g : List Int} (hg : Grp fl.length g) : aloneL fl gs g = mA (inG g) 0 fl gs 0 :=
  alone_mA h g.length (Nat.le_refl _) hg (fun j hj => by have := hg.val j hj; omega) (fun _ _ => rfl)
theorem foldl_mask {gs : List (List Int)} {j : Nat} : ∀ {g : List Int} {l : List (List Int)}, (∀ i, i < g.length → 0 ≤ g.getD i 0) → j < l.length →
    (g.foldl (fun l a => l.set a.toNat (gs.getD a.toNat [])) l).getD j [] = if inG g j = true then gs.getD j [] else l.getD j []
  | [], l, _, _ => by simp [inG]
  | a :: r, l, h, hj => by
    have h0 := h 0 (by simp)
    simp only [List.getD_cons_zero] at h0
    simp only [List.foldl_cons]
    rw [foldl_mask (g := r) (fun i hi => by have := h (i + 1) (by simpa using hi); simpa using this) (by rw [List.length_set]; exact hj)]
    by_cases c : inG r j = true
    · rw [if_pos c, if_pos]
      obtain ⟨i, hi, e⟩ := inG_iff.1 c
      exact inG_iff.2 ⟨i + 1, by simpa using hi, by simpa using e⟩
    · rw [if_neg c]
      by_cases ca : a = (j : Int)
      · rw [if_pos (inG_iff.2 ⟨0, by simp, by simpa using ca⟩)]
        rw [show a.toNat = j from by omega, getD_set hj, if_pos rfl]
      · rw [if_neg]
        · by_cases cl : a.toNat < l.length
          · rw [getD_set cl, if_neg (by omega)]
          · rw [List.set_eq_of_length_le (by omega)]
        · intro hin
          obtain ⟨i, hi, e⟩ := inG_iff.1 hin
          cases i with
          | zero => exact ca (by simpa using e)
          | succ i => exact c (inG_iff.2 ⟨i, by simpa using hi, by simpa using e⟩)
theorem ext_getD {α : Type} {d : α} {l m : List α} (hl : l.length = m.length) (h : ∀ i, i < l.length → l.getD i d = m.getD i d) : l = m := by
  refine List.ext_getElem hl fun i h1 h2 => ?_
  have := h i h1
  rw [List.getD_eq_getElem?_getD, List.getD_eq_getElem?_getD, List.getElem?_eq_getElem h1, List.getElem?_eq_getElem h2] at this
  exact this
theorem onlyL_mask {gs : List (List Int)} {n : Nat} {g : List Int} (hn : gs.length = n) (hg : Grp n g) : onlyL gs n g = maskG (inG g) 0 gs := by
  refine ext_getD (d := []) (by rw [onlyL_len, maskG_len, hn]) fun i hi => ?_
  rw [onlyL_len] at hi
  rw [maskG_get, onlyL, foldl_mask (fun i hi => (hg.val i hi).1) (by rw [List.length_replicate]; exact hi), Nat.zero_add]
  rw [List.getD_eq_getElem?_getD (l := List.replicate n []), List.getElem?_replicate, if_pos hi]
  rfl
theorem aspires_eq {fl : List Int} {gs : List (List Int)} (h : Riv fl gs) {g : List Int} (hg : Grp fl.length g) : val fl (onlyL gs fl.length g) = mP (inG g) 0 fl gs 0 := by
  rw [← (h.only g).mx, mP_mx h.sfx (Int.le_refl 0), onlyL_mask h.len.symm hg]
/-- The two groups of WaterTogether, and both together. -/
structure Two (n : Nat) (a b c : List Int) : Prop where
  ga : Grp n a
  gb : Grp n b
  gc : Grp n c
  u : ∀ i, inG c i = (inG a i || inG b i)
  d : ∀ i, inG a i = true → inG b i = false
theorem Two.alone {fl : List Int} {gs : List (List Int)} (h : Riv fl gs) {a b c : List Int} (t : Two fl.length a b c) : aloneL fl gs a + aloneL fl gs b ≤ aloneL fl gs c := by
  rw [alone_eq h t.ga, alone_eq h t.gb, alone_eq h t.gc]
  exact mA_union t.u t.d h.sfx (Int.le_refl 0) (Int.le_refl 0) (Int.le_refl 0)
theorem Two.aspires {fl : List Int} {gs : List (List Int)} (h : Riv fl gs) {a b c : List Int} (t : Two fl.length a b c) :
    val fl (onlyL gs fl.length c) ≤ val fl (onlyL gs fl.length a) + val fl (onlyL gs fl.length b) := by
  rw [aspires_eq h t.ga, aspires_eq h t.gb, aspires_eq h t.gc]
  exact mP_union t.u t.d h.sfx (Int.le_refl 0)
theorem alone_aspires {fl : List Int} {gs : List (List Int)} (h : Riv fl gs) {g : List Int} (hg : Grp fl.length g) : aloneL fl gs g ≤ val fl (onlyL gs fl.length g) := by
  rw [aspires_eq h hg, alone_eq h hg]
  exact mA_mP h.sfx (Int.le_refl 0) (Int.le_refl 0)
end Go.Proofs.Ytohfemfgnohhdaa
/- A region in whatever order, phase by phase: what floats, then some operations in every order, and so on. No condition. -/
namespace Go.Vc
set_option linter.unusedVariables false
set_option linter.unusedSimpArgs false

theorem wf_range {k : IntKind} {n : Int} (h : (Ty.int k).wf n) : k.min ≤ n ∧ n ≤ k.max := by
  have h : (decide (k.min ≤ n) && decide (n ≤ k.max)) = true := h
  rw [Bool.and_eq_true, decide_eq_true_iff, decide_eq_true_iff] at h
  exact h
theorem wf_u8 {n : Int} (h : (Ty.int .u8).wf n) : 0 ≤ n ∧ n ≤ 255 := by
  have := wf_range h
  simp [IntKind.min, IntKind.max, IntKind.signed, IntKind.bits] at this
  exact this
theorem wf_u16 {n : Int} (h : (Ty.int .u16).wf n) : 0 ≤ n ∧ n ≤ 65535 := by
  have := wf_range h
  simp [IntKind.min, IntKind.max, IntKind.signed, IntKind.bits] at this
  exact this
theorem wf_i64 {n : Int} (h : (Ty.int .i64).wf n) : -9223372036854775808 ≤ n ∧ n ≤ 9223372036854775807 := by
  have := wf_range h
  simp [IntKind.min, IntKind.max, IntKind.signed, IntKind.bits] at this
  exact this
theorem wpAnyH_sub {P : Program} {md : Region.Mode} {ops : Array Oper} {Q : Exit → Act → World → Prop} {S S' : World → Prop} (hS : ∀ w, S' w → S w) :
    ∀ (fuel : Nat) (listed : Array Bool) (a : Act) (w : World), wpAnyH P md ops Q S' fuel listed a w → wpAnyH P md ops Q S fuel listed a w
  | 0, _, _, _, h => h
  | fuel + 1, _, _, _, h => ⟨h.1, fun i hi => wpOp_mono (fun a' w' h' => ⟨hS _ h'.1, wpAnyH_sub hS fuel _ a' w' h'.2⟩) (h.2 i hi)⟩

def tree2 (P : Program) (T : List (Nat × TE)) (F : List Nat) (n : Nat) (ops : Array Oper) (E : List Nat) : Nat → Nat → Sy → (Nat → Sy → Prop) → Prop
  | 0, done, Γ, K => K done Γ
  | k + 1, done, Γ, K => eachP (rdy done E 0) fun i => match ops[i]? with
    | some o => opsVC P T F n (dstsOf ops) [] [o] i 0 Γ fun Γ' => tree2 P T F n ops E k (Nat.lor done (2 ^ i)) Γ' K
    | none => False

theorem tree2_sound {P : Program} {T : List (Nat × TE)} {F : List Nat} (hT : TOk P T) {c : Cx} {ops : Array Oper} {E : List Nat} (hE : dirms ops = E) {K : Nat → Sy → Prop} {Q : Exit → Act → World → Prop} {m : Nat}
    (hQ : ∀ (listed : Array Bool) done Γ' g' a' w', listed.size = ops.size → cnt listed = m → (∀ j, j < ops.size → listed[j]? = some (done.testBit j)) → K done Γ' → St c Γ' g' a' w' → wpAnyH P .any ops Q c.S m listed a' w')
    (hed : ∀ j o, ops[j]? = some o → ∀ e ∈ o.after, Region.binds .any e = true → e.on < j) :
    ∀ (k : Nat) (listed : Array Bool) (done : Nat) (Γ : Sy) (g : Nat → Value) (a : Act) (w : World), listed.size = ops.size → cnt listed = k + m → (∀ j, j < ops.size → listed[j]? = some (done.testBit j)) →
      tree2 P T F c.n ops E k done Γ K → St c Γ g a w → wpAnyH P .any ops Q c.S (k + m) listed a w := by
  intro k
  induction k with
  | zero =>
    intro listed done Γ g a w hsz hc hd h hst
    rw [Nat.zero_add] at hc ⊢
    exact hQ listed done Γ g a w hsz hc hd h hst
  | succ k ih =>
    intro listed done Γ g a w hsz hc hd h hst
    rw [show k + 1 + m = (k + m) + 1 from by omega] at hc ⊢
    refine ⟨fun hrd => ?_, fun i hi => ?_⟩
    · obtain ⟨i, h1, h2⟩ := cnt_pos (listed := listed) (by omega)
      have hi : i < ops.size := by rw [← hsz]; exact (Array.getElem?_eq_some_iff.1 h1).1
      have : i ∈ Region.ready .any ops listed := ready_mem.2 ⟨hi, by simp [Array.getD_eq_getD_getElem?, h1], fun o ho e he hb => by
        have := h2 e.on (hed i o ho e he hb)
        simp [Array.getD_eq_getD_getElem?, this]⟩
      rw [hrd] at this; cases this
    · obtain ⟨h1, h2, h3⟩ := ready_mem.1 hi
      have hoi : ops[i]? = some ops[i] := by simp [h1]
      have hdi : done.testBit i = false := by
        have := hd i h1
        simp only [Array.getD_eq_getD_getElem?, this, Option.getD_some] at h2
        exact h2
      have hEi : E[i]? = some (dirm (ops[i]).after.toList 0) := by
        rw [← hE, dirms, List.getElem?_map]
        simp [h1]
      have hm := rdy_mem (done := done) (i := i) (s := 0) hEi (by rw [Nat.zero_add]; exact hdi) fun j hj => by
        rcases dirm_bit hj with h4 | ⟨e, he, hb, rfl⟩
        · simp at h4
        · have h5 := h3 _ hoi e (by simpa using he) hb
          have h6 := hed i _ hoi e (by simpa using he) hb
          have h7 := hd e.on (by omega)
          simp only [Array.getD_eq_getD_getElem?, h7, Option.getD_some] at h5
          exact h5
      rw [Nat.zero_add] at hm
      have h4 := eachP_mem h i hm
      rw [hoi] at h4
      obtain ⟨Γ', h5, h6⟩ := one_sound hT hoi h4
      have hlf : listed[i]? = some false := by rw [hd i h1, hdi]
      refine h5 Q g a w _ hst fun g' a' w' h7 => ⟨h7.s, ih _ (Nat.lor done (2 ^ i)) Γ' g' a' w' (by simp [hsz]) (by have := cnt_set hlf; omega) (fun j hj => ?_) h6 h7⟩
      show _ = some ((done ||| 2 ^ i).testBit j)
      rw [Nat.testBit_or, Nat.testBit_two_pow]
      by_cases e : i = j
      · subst e
        rw [Array.getElem?_setIfInBounds_self_of_lt (by omega)]
        simp
      · rw [Array.getElem?_setIfInBounds_ne e, hd j hj]
        simp [e]

/-- Which of the first are done, as an array. -/
def arrOf (n done : Nat) : Array Bool := ((List.range n).map fun j => done.testBit j).toArray
theorem arrOf_eq {listed : Array Bool} {n done : Nat} (hsz : listed.size = n) (hd : ∀ j, j < n → listed[j]? = some (done.testBit j)) : listed = arrOf n done := by
  apply Array.ext_getElem?
  intro j
  by_cases h : j < n
  · rw [hd j h, arrOf, List.getElem?_toArray, List.getElem?_map, List.getElem?_range h]; rfl
  · rw [Array.getElem?_eq_none (by omega), arrOf, List.getElem?_toArray, List.getElem?_map, List.getElem?_eq_none (by simp; omega)]; rfl
def addM (done : Nat) : List Nat → Nat
  | [] => done
  | i :: r => addM (Nat.lor done (2 ^ i)) r
theorem addM_bit {j : Nat} : ∀ {L : List Nat} {done : Nat}, (addM done L).testBit j = (memN j L || done.testBit j)
  | [], done => by simp [addM, memN]
  | i :: r, done => by
    have h1 : (Nat.lor done (2 ^ i)).testBit j = (done.testBit j || decide (i = j)) := by
      show (done ||| 2 ^ i).testBit j = _
      rw [Nat.testBit_or, Nat.testBit_two_pow]
    simp only [addM, memN]
    rw [addM_bit, h1]
    have h2 : Nat.beq i j = decide (i = j) := by
      rw [Bool.eq_iff_iff, decide_eq_true_iff]
      exact ⟨Nat.eq_of_beq_eq_true, fun e => by subst e; exact Nat.beq_refl i⟩
    rw [h2]
    cases decide (i = j) <;> cases memN j r <;> cases done.testBit j <;> rfl
/-- The phases: what floats, how many operations come then in every order, and which are done behind them. -/
def phVC (P : Program) (T : List (Nat × TE)) (F : List Nat) (n : Nat) (ops : Array Oper) (E : List Nat) : List (List Nat × Nat × Nat) → Nat → Sy → (Sy → Prop) → Prop
  | [], _, Γ, K => K Γ
  | (L, k, d) :: r, done, Γ, K => floatVC T n ops L Γ fun Γ1 => tree2 P T F n ops E k (addM done L) Γ1 fun d' Γ' => ck (Nat.beq d' d) (phVC P T F n ops E r d Γ' K)
def phOk (ops : Array Oper) : List (List Nat × Nat × Nat) → Nat → Bool
  | [], done => allBelow ops.size fun j => done.testBit j
  | (L, k, d) :: r, done => floatOk ops L (arrOf ops.size done) && listOnce ops.size L && allBelow ops.size (fun j => !(memN j L && done.testBit j)) && Nat.ble (L.length + k) (cnt (arrOf ops.size done)) && phOk ops r d
theorem listOnce_lt {n : Nat} : ∀ {L : List Nat}, listOnce n L = true → ∀ k, memN k L = true → k < n
  | [], _, k, hk => by cases hk
  | i :: r, h1, k, hk => by
    simp only [listOnce, Bool.and_eq_true] at h1
    simp only [memN, Bool.or_eq_true] at hk
    rcases hk with hk | hk
    · rw [← Nat.eq_of_beq_eq_true hk]; exact Nat.le_of_ble_eq_true h1.1.1
    · exact listOnce_lt h1.2 k hk
theorem ph_sound {P : Program} {T : List (Nat × TE)} {F : List Nat} (hT : TOk P T) {ops : Array Oper} {E : List Nat} (hE : dirms ops = E) {K : Sy → Prop} {Q : Exit → Act → World → Prop} (hs : Region.noSelect ops = true) (hQp : ∀ x a w, ¬ Q (.panic x) a w)
    (hed : ∀ j o, ops[j]? = some o → ∀ e ∈ o.after, Region.binds .any e = true → e.on < j) (c0 : Cx) (hQ : ∀ Γ' g' a' w' K', K Γ' → (∀ b x, c0.K b = some x → K' b = some x) → St { c0 with K := K' } Γ' g' a' w' → Q .normal a' w') :
    ∀ (ph : List (List Nat × Nat × Nat)) (K0 : Nat → Option (Array Value × TypeId × (Nat × Nat))) (listed : Array Bool) (done : Nat) (Γ : Sy) (g : Nat → Value) (a : Act) (w : World), (∀ b x, c0.K b = some x → K0 b = some x) → listed.size = ops.size →
      (∀ j, j < ops.size → listed[j]? = some (done.testBit j)) → phOk ops ph done = true → phVC P T F c0.n ops E ph done Γ K → St { c0 with K := K0 } Γ g a w → wpAnyH P .any ops Q (Cx.S { c0 with K := K0 }) (cnt listed) listed a w
  | [], K0, listed, done, Γ, g, a, w, hK0, hsz, hd, hok, h, hst => by
    have hall : ∀ i, i < listed.size → listed[i]? = some true := fun i hi => by
      have := allBelow_get hok i (by omega)
      rw [hd i (by omega), this]
    have hc : cnt listed = 0 := by
      refine Classical.byContradiction fun hne => ?_
      obtain ⟨i, h1, _⟩ := cnt_pos (listed := listed) (by omega)
      have hi := (Array.getElem?_eq_some_iff.1 h1).1
      rw [hall i hi] at h1
      cases h1
    rw [hc]
    refine ⟨List.eq_nil_iff_forall_not_mem.2 fun i hi => ?_, hQ Γ g a w K0 h hK0 hst⟩
    obtain ⟨h1, h2, _⟩ := ready_mem.1 hi
    have := hall i (by omega)
    simp [Array.getD_eq_getD_getElem?, this] at h2
  | (L, k, d) :: r, K0, listed, done, Γ, g, a, w, hK0, hsz, hd, hok, h, hst => by
    simp only [phOk, Bool.and_eq_true] at hok
    obtain ⟨⟨⟨⟨hf, honce⟩, hnew⟩, hle⟩, hrest⟩ := hok
    have harr := arrOf_eq hsz hd
    rw [← harr] at hf hle
    have hle := Nat.le_of_ble_eq_true hle
    obtain ⟨K1, hK1, hK2⟩ := keepAll w (Oset Γ.own g)
    have hsub : ∀ b x, K0 b = some x → K1 b = some x := fun b x hb => hK2 b _ _ _ (hst.kept b x hb).1 (hst.kept b x hb).2
    have hst1 : St { c0 with K := K1 } Γ g a w := ⟨hst.defers, hst.size, hst.keep, hst.o0, hst.tmps, hK1, hst.hp⟩
    refine wpAnyH_sub (S' := Cx.S { c0 with K := K1 }) (fun w' h' b x hb => h' b x (hsub b x hb)) _ _ _ _ ?_
    have hun : ∀ i, memN i L = true → listed[i]? = some false := fun i hi => by
      have hlt := listOnce_lt honce i hi
      have h1 := allBelow_get hnew i hlt
      rw [hd i hlt]
      simp only [hi, Bool.true_and, Bool.not_eq_true'] at h1
      rw [h1]
    have hcn := cnt_listAll (L := L) (l := listed) honce hsz hun
    have hgo := floats (P := P) (c := { c0 with K := K1 }) (w := w) (Q := Q) hT hs hQp hK2 L listed Γ a (cnt (listAll L listed)) rfl hf h hst1
    rw [hcn] at hgo
    refine hgo fun Γ1 a1 h1 hst2 => ?_
    obtain ⟨m, hm⟩ : ∃ m, cnt (listAll L listed) = k + m := ⟨cnt (listAll L listed) - k, by omega⟩
    rw [hm]
    refine tree2_sound (c := { c0 with K := K1 }) hT hE (m := m) (fun listed' done' Γ' g' a' w' hsz' hc' hd' hk' hst' => ?_) hed k _ (addM done L) Γ1 g a1 _ (by rw [listAll_size]; exact hsz) hm (fun j hj => ?_) h1 hst2
    · obtain ⟨h2, h3⟩ := ck_ok hk'
      have h2 := Nat.eq_of_beq_eq_true h2
      rw [h2] at hd'
      have := ph_sound hT hE hs hQp hed c0 hQ r K1 listed' d Γ' g' a' w' (fun b x hb => hsub b x (hK0 b x hb)) hsz' hd' hrest h3 hst'
      rw [hc'] at this
      exact this
    · rw [listAll_get (by omega), addM_bit]
      cases hmm : memN j L with
      | true => simp
      | false => simp [hd j hj]

/-- A region in whatever order, phase by phase. -/
theorem W.drawPhK {P : Program} {n : Nat} {Q : Exit → Sy → Prop} {Γ : Sy} {T : List (Nat × TE)} (hT : TOk P T) (F : List Nat) (hmx : P.follows .mixedOrders = true) (E : List Nat) (ph : List (List Nat × Nat × Nat)) {id : Nat} {ops : Array Oper} {K : Sy → Prop}
    (hK : ∀ c Γ' g' a' w', K Γ' → St c Γ' g' a' w' → ∃ Γ'' g'', Q .normal Γ'' ∧ St c Γ'' g'' a' w')
    (hd : (allBelow ops.size (fun j => match ops[j]? with
      | none => false
      | some o => edgesLt j o.after.toList) && (dirms ops == E) && phOk ops ph 0 && Region.noSelect ops) = true)
    (h : phVC P T F n ops E ph 0 Γ K) : W P n (.region id ops true) Γ Q := by
  simp only [Bool.and_eq_true] at hd
  obtain ⟨⟨⟨hall, hE⟩, hok⟩, hsel⟩ := hd
  have hE : dirms ops = E := by simpa using hE
  have hed : ∀ j o, ops[j]? = some o → ∀ e ∈ o.after, Region.binds .any e = true → e.on < j := by
    intro j o ho
    have hlt := (Array.getElem?_eq_some_iff.1 ho).1
    have h1 := allBelow_get hall j hlt
    rw [ho] at h1
    exact fun e he hb => edgesLt_get h1 (by simpa using he) hb
  refine ⟨fun c g a w hn hst => ?_⟩
  have key : (Code.region id ops true).wp P (fun e a' w' => match e with | .normal => ∃ Γ' g', K Γ' ∧ St c Γ' g' a' w' | _ => False) a w := by
    refine wp_region_held (S := c.S) hmx ?_
    have hcr : cnt (Array.replicate ops.size false) = ops.size := by simp [cnt, List.filter_replicate]
    have hmain := ph_sound (K := K) (Q := fun e a' w' => match e with | .normal => ∃ Γ' g', K Γ' ∧ St c Γ' g' a' w' | _ => False) hT hE hsel (fun _ _ _ h => h) hed c (fun Γ' g' a' w' K' hq hK' hst' =>
      ⟨Γ', g', hq, hst'.defers, hst'.size, hst'.keep, hst'.o0, hst'.tmps, fun b x hb => hst'.kept b x (hK' b x hb), hst'.hp⟩) ph c.K (Array.replicate ops.size false) 0 Γ g a { w with drawn := w.drawn + 1 } (fun _ _ h => h) (by simp) (fun j hj => by simp [hj]) hok (by rw [hn]; exact h) (hst.keepW (Keep.drew w))
    rw [hcr] at hmain
    exact hmain
  refine wp_mono key fun e a' w' hq => ?_
  cases e with
  | normal =>
    obtain ⟨Γ', g', h1, h2⟩ := hq
    exact hK c Γ' g' a' w' h1 h2
  | _ => exact hq.elim
theorem W.drawPh {P : Program} {n : Nat} {Q : Exit → Sy → Prop} {Γ : Sy} {T : List (Nat × TE)} (hT : TOk P T) (F : List Nat) (hmx : P.follows .mixedOrders = true) (E : List Nat) (ph : List (List Nat × Nat × Nat)) {id : Nat} {ops : Array Oper}
    (hd : (allBelow ops.size (fun j => match ops[j]? with
      | none => false
      | some o => edgesLt j o.after.toList) && (dirms ops == E) && phOk ops ph 0 && Region.noSelect ops) = true)
    (h : phVC P T F n ops E ph 0 Γ fun Γ' => Q .normal Γ') : W P n (.region id ops true) Γ Q :=
  W.drawPhK hT F hmx E ph (K := fun Γ' => Q .normal Γ') (fun c Γ' g' a' w' h1 h2 => ⟨Γ', g', h1, h2⟩) hd h
theorem W.drawPhTo {P : Program} {n : Nat} {Q : Exit → Sy → Prop} {Γ : Sy} {T : List (Nat × TE)} (hT : TOk P T) (F : List Nat) (hmx : P.follows .mixedOrders = true) (E : List Nat) (ph : List (List Nat × Nat × Nat)) (Γ2 : Sy) {id : Nat} {ops : Array Oper}
    (hd : (allBelow ops.size (fun j => match ops[j]? with
      | none => false
      | some o => edgesLt j o.after.toList) && (dirms ops == E) && phOk ops ph 0 && Region.noSelect ops) = true)
    (h : phVC P T F n ops E ph 0 Γ fun Γ' => Leaf (Sub Γ' Γ2 (mkRen Γ' Γ2))) (hnext : Q .normal Γ2) : W P n (.region id ops true) Γ Q :=
  W.drawPhK hT F hmx E ph (K := fun Γ' => Leaf (Sub Γ' Γ2 (mkRen Γ' Γ2))) (fun c Γ' g' a' w' h1 h2 => by
    obtain ⟨hs⟩ := h1
    exact ⟨Γ2, _, hnext, hs.st h2⟩) hd h
end Go.Vc
/- WaterTogether: the law returns true. No condition. -/
namespace Go.Proofs.Ytohfemfgnohhdaa
open Go Go.Vc
set_option linter.unusedVariables false
set_option linter.unusedSimpArgs false

/-- A bit of a number. -/
def bitI (v : Int) (i : Nat) : Bool := decide ((((v / 2 ^ i).toNat &&& 1 : Nat) : Int) = 1)
theorem bitI_nat (s i : Nat) : bitI (s : Int) i = s.testBit i := by
  have e : ((s : Int) / 2 ^ i).toNat = s / 2 ^ i := by
    have : ((s : Int) / 2 ^ i) = ((s / 2 ^ i : Nat) : Int) := by simp
    rw [this, Int.toNat_natCast]
  simp only [bitI, e, Nat.and_one_is_mod, Nat.testBit_eq_decide_div_mod_eq]
  apply Bool.eq_iff_iff.2
  rw [decide_eq_true_iff, decide_eq_true_iff]
  omega
theorem shr_range {v m : Int} {n : Nat} (h0 : 0 ≤ v) (h1 : v ≤ m) : 0 ≤ v / 2 ^ n ∧ v / 2 ^ n ≤ m := by
  have hp : (0 : Int) < 2 ^ n := Int.pow_pos (by decide)
  have h2 := Int.ediv_nonneg h0 (Int.le_of_lt hp)
  have h3 := Int.ediv_le_self (2 ^ n) h0
  omega
/-- The group of the places before n at which something holds. -/
def grpI (S : Nat → Bool) : Nat → List Int
  | 0 => []
  | i + 1 => if S i = true then grpI S i ++ [(i : Int)] else grpI S i
theorem grpI_len {S : Nat → Bool} : ∀ {n : Nat}, (grpI S n).length ≤ n
  | 0 => Nat.le_refl _
  | n + 1 => by
    have := grpI_len (S := S) (n := n)
    simp only [grpI]
    split
    · rw [List.length_append]; simp only [List.length_cons, List.length_nil]; omega
    · omega
theorem grpI_val {S : Nat → Bool} : ∀ {n : Nat}, Grp n (grpI S n)
  | 0 => ⟨fun i hi => by simp [grpI] at hi, fun i hi => by simp [grpI] at hi⟩
  | n + 1 => by
    have ih := grpI_val (S := S) (n := n)
    simp only [grpI]
    split
    · refine ⟨fun i hi => ?_, fun i hi => ?_⟩
      · rw [List.length_append] at hi
        simp only [List.length_cons, List.length_nil] at hi
        rw [List.getD_eq_getElem?_getD]
        by_cases c : i < (grpI S n).length
        · rw [List.getElem?_append_left c, ← List.getD_eq_getElem?_getD]
          have := ih.val i c
          omega
        · rw [List.getElem?_append_right (by omega), show i - (grpI S n).length = 0 from by omega]
          simp only [List.getElem?_cons_zero, Option.getD_some]
          omega
      · rw [List.length_append] at hi
        simp only [List.length_cons, List.length_nil] at hi
        rw [List.getD_eq_getElem?_getD, List.getD_eq_getElem?_getD, List.getElem?_append_left (by omega), ← List.getD_eq_getElem?_getD]
        by_cases c : i + 1 < (grpI S n).length
        · rw [List.getElem?_append_left c, ← List.getD_eq_getElem?_getD]
          exact ih.rise i c
        · rw [List.getElem?_append_right (by omega), show i + 1 - (grpI S n).length = 0 from by omega]
          simp only [List.getElem?_cons_zero, Option.getD_some]
          have := ih.val i (by omega)
          omega
    · refine ⟨fun i hi => ?_, ih.rise⟩
      have := ih.val i hi
      omega
theorem grpI_in {S : Nat → Bool} {i : Nat} : ∀ {n : Nat}, inG (grpI S n) i = (decide (i < n) && S i)
  | 0 => by simp [grpI, inG]
  | n + 1 => by
    have ih := grpI_in (S := S) (i := i) (n := n)
    have ih := Bool.eq_iff_iff.1 ih
    unfold inG at ih
    rw [decide_eq_true_iff, Bool.and_eq_true, decide_eq_true_iff] at ih
    apply Bool.eq_iff_iff.2
    unfold inG
    rw [decide_eq_true_iff, Bool.and_eq_true, decide_eq_true_iff]
    simp only [grpI]
    split
    · rename_i h
      rw [List.mem_append, ih, List.mem_singleton]
      constructor
      · rintro (⟨h1, h2⟩ | h1)
        · exact ⟨by omega, h2⟩
        · have : i = n := by omega
          subst this
          exact ⟨by omega, h⟩
      · rintro ⟨h1, h2⟩
        by_cases c : i = n
        · exact .inr (by omega)
        · exact .inl ⟨by omega, h2⟩
    · rename_i h
      rw [ih]
      constructor
      · rintro ⟨h1, h2⟩
        exact ⟨by omega, h2⟩
      · rintro ⟨h1, h2⟩
        refine ⟨?_, h2⟩
        by_cases c : i = n
        · subst c; exact absurd h2 h
        · omega
theorem aloneL_bound {fl : List Int} {gs : List (List Int)} (h : OkG gs) {g : List Int} : 0 ≤ aloneL fl gs g ∧ aloneL fl gs g ≤ 160000 * g.length := aloneF_bound h
set_option maxHeartbeats 4000000 in
theorem WaterTogether_at (fl : List Int) (gs : List (List Int)) (one two : Int) (h10 : 0 ≤ one) (h11 : one ≤ 255) (h20 : 0 ≤ two) (h21 : two ≤ 255) :
    FnAt Try.prog false 14 [.agg [.arr (.int .i64) fl, .arr (.sl (.int .i64)) gs], .lit (.int .u8 one), .lit (.int .u8 two)] (.lit (.bool true)) [] := by
  obtain ⟨F, G, hmade, hok, hm8, hl1, hl2, hl3⟩ := made_ex fl gs 8 (by omega) (by omega)
  have hR := riverOk.riv hok
  obtain ⟨A, hA⟩ : ∃ A : Nat → Bool, A = bitI one := ⟨_, rfl⟩
  obtain ⟨B, hB⟩ : ∃ B : Nat → Bool, B = fun i => !A i && bitI two i := ⟨_, rfl⟩
  obtain ⟨C, hC⟩ : ∃ C : Nat → Bool, C = fun i => A i || B i := ⟨_, rfl⟩
  have h8 : IntKind.u8.bits = 8 := rfl
  refine FnAt.of_body tys_ok Try.func14 (by rfl) rfl Try.ntmps14 (by rw [Try.results14]) (by simp) ?_
  
  repeat' (first
    | refine W.seq ?_
    | refine W.block ?_
    | (refine W.region tys_ok [] ?_; conv => whnf)
    | (refine W.drawAll tys_ok [] mixed rfl ?_; conv => whnf)
    | (refine W.ret ?_; conv => whnf)
    | (refine W.skip ?_; conv => whnf)
    | (refine W.exit ?_; conv => whnf)
    | (refine call_at (al := false) (hmade) rfl rfl rfl rfl ?_; conv => whnf)

    | (refine W.cond rfl (fun hb => ?_) (fun hb => ?_) <;> (try simp only [minL, maxL, pickB, getD_int, getD_sl, getD_bool, len_int, len_sl, len_bool, decide_eq_true_eq, decide_eq_false_iff_not, Bool.and_eq_true, Bool.or_eq_true, Bool.and_eq_false_iff, Bool.or_eq_false_iff, Bool.not_eq_true', Bool.not_eq_false', Bool.true_eq_false, Bool.false_eq_true, Int.toNat_natCast, Int.ofNat_lt, Int.ofNat_le, not_true_eq_false, not_false_eq_true, or_false, false_or, and_true, true_and, or_true, true_or, and_false, false_and] at hb) <;> (try (first | (cases hb; done) | exact absurd hb (by decide) | (exfalso; omega))))
    | ((with_reducible refine And.intro ?_ ?_); (focus ((repeat' (first | (with_reducible rfl) | (with_reducible refine And.intro ?_ ?_) | omega | rfl | exact Or.inl rfl | exact Or.inr rfl | (focus ((try simp only [minL, maxL, pickB, getD_int, getD_sl, getD_bool, len_int, len_sl, len_bool, decide_eq_true_eq, decide_eq_false_iff_not, Bool.and_eq_true, Bool.or_eq_true, Bool.and_eq_false_iff, Bool.or_eq_false_iff, Bool.not_eq_true', Bool.not_eq_false', Bool.true_eq_false, Bool.false_eq_true, Int.toNat_natCast, Int.ofNat_lt, Int.ofNat_le, not_true_eq_false, not_false_eq_true, or_false, false_or, and_true, true_and, or_true, true_or, and_false, false_and, InK, Path.imp, List.length_replicate, List.length_set, List.length_append, List.length_cons, List.length_nil] at *); omega)) | (refine app_le rfl ?_; omega))); done)); (conv => whnf))
    | ((with_reducible refine And.intro (Side.out ?_) ?_); rotate_left; (conv => whnf))
    | (refine retF1 ?_ <;> (conv => whnf) <;> repeat' (first
    | exact trivial
    | (with_reducible rfl)
    | ((with_reducible refine And.intro ?_ ?_) <;> conv => whnf)
    | omega
    | rfl
    | (refine congrArg (SV.arr _) ?_)
    | (refine congrArg (Value.int _) ?_)
    | (refine congrArg Value.bool ?_)))
    | (refine retF2 ?_ <;> (conv => whnf) <;> repeat' (first
    | exact trivial
    | (with_reducible rfl)
    | ((with_reducible refine And.intro ?_ ?_) <;> conv => whnf)
    | omega
    | rfl
    | (refine congrArg (SV.arr _) ?_)
    | (refine congrArg (Value.int _) ?_)
    | (refine congrArg Value.bool ?_)))); all_goals (try unfold Side)
  all_goals try (repeat' (first | (with_reducible rfl) | (with_reducible refine And.intro ?_ ?_) | omega | rfl | exact Or.inl rfl | exact Or.inr rfl | (focus ((try simp only [minL, maxL, pickB, getD_int, getD_sl, getD_bool, len_int, len_sl, len_bool, decide_eq_true_eq, decide_eq_false_iff_not, Bool.and_eq_true, Bool.or_eq_true, Bool.and_eq_false_iff, Bool.or_eq_false_iff, Bool.not_eq_true', Bool.not_eq_false', Bool.true_eq_false, Bool.false_eq_true, Int.toNat_natCast, Int.ofNat_lt, Int.ofNat_le, not_true_eq_false, not_false_eq_true, or_false, false_or, and_true, true_and, or_true, true_or, and_false, false_and, InK, Path.imp, List.length_replicate, List.length_set, List.length_append, List.length_cons, List.length_nil] at *); omega)) | (refine app_le rfl ?_; omega)))
  refine W.loop (fun i : Nat => ⟨[(1, .lit (.int .u8 one)), (2, .lit (.int .u8 two)), (7, .own 900007), (8, .own 900008), (9, .own 900009), (10, .own 900010), (11, .own 900011), (12, .lit (.int .i64 i))],
      [(900007, .row 3 (.int .i64) true F), (900008, .row 22 (.sl (.int .i64)) true G), (900009, .row 3 (.int .i64) true (grpI A i)), (900010, .row 3 (.int .i64) true (grpI B i)), (900011, .row 3 (.int .i64) true (grpI C i))]⟩)
    (fun i => i ≤ F.length) (fun i => F.length - i) 0 ?_ ?_
  · refine ⟨Nat.zero_le _, ?_⟩
    refine subF.ok ?_ <;> (conv => whnf) <;> repeat' (first
    | exact trivial
    | (with_reducible rfl)
    | ((with_reducible refine And.intro ?_ ?_) <;> conv => whnf)
    | omega
    | rfl
    | (refine congrArg (SV.arr _) ?_)
    | (refine congrArg (Value.int _) ?_)
    | (refine congrArg Value.bool ?_))
  · intro i hi
    have hla : @List.length (Ty.int .i64).T (grpI A i) ≤ i := grpI_len
    have hlb : @List.length (Ty.int .i64).T (grpI B i) ≤ i := grpI_len
    have hlc : @List.length (Ty.int .i64).T (grpI C i) ≤ i := grpI_len
    by_cases hil : i < F.length
    · have hs1 := shr_range (n := i) h10 h11
      have hs2 := shr_range (n := i) h20 h21
      repeat' (first
    | refine W.seq ?_
    | refine W.block ?_
    | (refine W.region tys_ok [] ?_; conv => whnf)
    | (refine W.drawAll tys_ok [] mixed rfl ?_; conv => whnf)
    | (refine W.ret ?_; conv => whnf)
    | (refine W.skip ?_; conv => whnf)
    | (refine W.exit ?_; conv => whnf)

    | (refine W.cond rfl (fun hb => ?_) (fun hb => ?_) <;> (try simp only [minL, maxL, pickB, getD_int, getD_sl, getD_bool, len_int, len_sl, len_bool, decide_eq_true_eq, decide_eq_false_iff_not, Bool.and_eq_true, Bool.or_eq_true, Bool.and_eq_false_iff, Bool.or_eq_false_iff, Bool.not_eq_true', Bool.not_eq_false', Bool.true_eq_false, Bool.false_eq_true, Int.toNat_natCast, Int.ofNat_lt, Int.ofNat_le, not_true_eq_false, not_false_eq_true, or_false, false_or, and_true, true_and, or_true, true_or, and_false, false_and] at hb) <;> (try (first | (cases hb; done) | exact absurd hb (by decide) | (exfalso; omega))))
    | ((with_reducible refine And.intro ?_ ?_); (focus ((repeat' (first | (with_reducible rfl) | (with_reducible refine And.intro ?_ ?_) | omega | rfl | exact Or.inl rfl | exact Or.inr rfl | (focus ((try simp only [minL, maxL, pickB, getD_int, getD_sl, getD_bool, len_int, len_sl, len_bool, decide_eq_true_eq, decide_eq_false_iff_not, Bool.and_eq_true, Bool.or_eq_true, Bool.and_eq_false_iff, Bool.or_eq_false_iff, Bool.not_eq_true', Bool.not_eq_false', Bool.true_eq_false, Bool.false_eq_true, Int.toNat_natCast, Int.ofNat_lt, Int.ofNat_le, not_true_eq_false, not_false_eq_true, or_false, false_or, and_true, true_and, or_true, true_or, and_false, false_and, InK, Path.imp, List.length_replicate, List.length_set, List.length_append, List.length_cons, List.length_nil] at *); omega)) | (refine app_le rfl ?_; omega))); done)); (conv => whnf))
    | ((with_reducible refine And.intro (Side.out ?_) ?_); rotate_left; (conv => whnf))
    | (refine retF1 ?_ <;> (conv => whnf) <;> repeat' (first
    | exact trivial
    | (with_reducible rfl)
    | ((with_reducible refine And.intro ?_ ?_) <;> conv => whnf)
    | omega
    | rfl
    | (refine congrArg (SV.arr _) ?_)
    | (refine congrArg (Value.int _) ?_)
    | (refine congrArg Value.bool ?_)))
    | (refine retF2 ?_ <;> (conv => whnf) <;> repeat' (first
    | exact trivial
    | (with_reducible rfl)
    | ((with_reducible refine And.intro ?_ ?_) <;> conv => whnf)
    | omega
    | rfl
    | (refine congrArg (SV.arr _) ?_)
    | (refine congrArg (Value.int _) ?_)
    | (refine congrArg Value.bool ?_)))); all_goals (try unfold Side)
      all_goals try (repeat' (first | (with_reducible rfl) | (with_reducible refine And.intro ?_ ?_) | omega | rfl | exact Or.inl rfl | exact Or.inr rfl | (focus ((try simp only [minL, maxL, pickB, getD_int, getD_sl, getD_bool, len_int, len_sl, len_bool, decide_eq_true_eq, decide_eq_false_iff_not, Bool.and_eq_true, Bool.or_eq_true, Bool.and_eq_false_iff, Bool.or_eq_false_iff, Bool.not_eq_true', Bool.not_eq_false', Bool.true_eq_false, Bool.false_eq_true, Int.toNat_natCast, Int.ofNat_lt, Int.ofNat_le, not_true_eq_false, not_false_eq_true, or_false, false_or, and_true, true_and, or_true, true_or, and_false, false_and, InK, Path.imp, List.length_replicate, List.length_set, List.length_append, List.length_cons, List.length_nil] at *); omega)) | (refine app_le rfl ?_; omega)))
      · have hAi : A i = true := by rw [hA]; exact decide_eq_true hb
        have e1 : grpI A (i + 1) = grpI A i ++ [(i : Int)] := by simp only [grpI, hAi, if_true]
        have e2 : grpI B (i + 1) = grpI B i := by simp [grpI, hB, hAi]
        have e3 : grpI C (i + 1) = grpI C i ++ [(i : Int)] := by simp [grpI, hC, hAi]
        refine ⟨i + 1, ⟨by omega, by omega⟩, ?_⟩
        refine subF.ok ?_ <;> (conv => whnf) <;> repeat' (first
    | exact trivial
    | (with_reducible rfl)
    | ((with_reducible refine And.intro ?_ ?_) <;> conv => whnf)
    | omega
    | rfl
    | (refine congrArg (SV.arr _) ?_)
    | (refine congrArg (Value.int _) ?_)
    | (refine congrArg Value.bool ?_))
        · exact e1.symm
        · exact e2.symm
        · exact e3.symm
      · rename_i _ hb1
        have hAi : A i = false := by rw [hA]; exact decide_eq_false hb1
        have hBi : bitI two i = true := decide_eq_true hb
        have e1 : grpI A (i + 1) = grpI A i := by simp [grpI, hAi]
        have e2 : grpI B (i + 1) = grpI B i ++ [(i : Int)] := by simp [grpI, hB, hAi, hBi]
        have e3 : grpI C (i + 1) = grpI C i ++ [(i : Int)] := by simp [grpI, hC, hB, hAi, hBi]
        refine ⟨i + 1, ⟨by omega, by omega⟩, ?_⟩
        refine subF.ok ?_ <;> (conv => whnf) <;> repeat' (first
    | exact trivial
    | (with_reducible rfl)
    | ((with_reducible refine And.intro ?_ ?_) <;> conv => whnf)
    | omega
    | rfl
    | (refine congrArg (SV.arr _) ?_)
    | (refine congrArg (Value.int _) ?_)
    | (refine congrArg Value.bool ?_))
        · exact e1.symm
        · exact e2.symm
        · exact e3.symm
      · rename_i _ hb1
        have hAi : A i = false := by rw [hA]; exact decide_eq_false hb1
        have hBi : bitI two i = false := decide_eq_false hb
        have e1 : grpI A (i + 1) = grpI A i := by simp [grpI, hAi]
        have e2 : grpI B (i + 1) = grpI B i := by simp [grpI, hB, hAi, hBi]
        have e3 : grpI C (i + 1) = grpI C i := by simp [grpI, hC, hB, hAi, hBi]
        refine ⟨i + 1, ⟨by omega, by omega⟩, ?_⟩
        refine subF.ok ?_ <;> (conv => whnf) <;> repeat' (first
    | exact trivial
    | (with_reducible rfl)
    | ((with_reducible refine And.intro ?_ ?_) <;> conv => whnf)
    | omega
    | rfl
    | (refine congrArg (SV.arr _) ?_)
    | (refine congrArg (Value.int _) ?_)
    | (refine congrArg Value.bool ?_))
        · exact e1.symm
        · exact e2.symm
        · exact e3.symm
    · have hie : i = F.length := by omega
      subst hie
      have hga : Grp F.length (grpI A F.length) := grpI_val
      have hgb : Grp F.length (grpI B F.length) := grpI_val
      have hgc : Grp F.length (grpI C F.length) := grpI_val
      have ht : Two F.length (grpI A F.length) (grpI B F.length) (grpI C F.length) := ⟨hga, hgb, hgc, fun i => by
        rw [grpI_in, grpI_in, grpI_in, hC]
        cases decide (i < F.length) <;> simp, fun i h => by
        rw [grpI_in] at h ⊢
        rw [Bool.and_eq_true] at h
        rw [hB]
        simp [h.2]⟩
      have t1 := ht.alone hR
      have t2 := ht.aspires hR
      have t3 := alone_aspires hR hgc
      have b1 := aloneL_bound (fl := F) hR.g (g := grpI A F.length)
      have b2 := aloneL_bound (fl := F) hR.g (g := grpI B F.length)
      have b4 := val_bound (fl := F) (hR.only (grpI A F.length)).g
      have b5 := val_bound (fl := F) (hR.only (grpI B F.length)).g
      have lA := grpI_len (S := A) (n := F.length)
      have lB := grpI_len (S := B) (n := F.length)
      have lC := grpI_len (S := C) (n := F.length)
      obtain ⟨a, ha⟩ : ∃ a, a = grpI A F.length := ⟨_, rfl⟩
      obtain ⟨b, hbe⟩ : ∃ a, a = grpI B F.length := ⟨_, rfl⟩
      obtain ⟨c, hc⟩ : ∃ a, a = grpI C F.length := ⟨_, rfl⟩
      rw [← ha] at hga t1 t2 b1 b4 lA
      rw [← hbe] at hgb t1 t2 b2 b5 lB
      rw [← hc] at hgc t1 t2 t3 lC
      have hAa := Alone_good (g := a) hl1 hl2 hl3 hok hga.grpB (by omega)
      have hAb := Alone_good (g := b) hl1 hl2 hl3 hok hgb.grpB (by omega)
      have hAc := Alone_good (g := c) hl1 hl2 hl3 hok hgc.grpB (by omega)
      have hPa := Aspires_good (g := a) hl1 hl2 hl3 hok hga.grpB (by omega)
      have hPb := Aspires_good (g := b) hl1 hl2 hl3 hok hgb.grpB (by omega)
      have hPc := Aspires_good (g := c) hl1 hl2 hl3 hok hgc.grpB (by omega)
      obtain ⟨u, hu⟩ : ∃ u, u = aloneL F G a := ⟨_, rfl⟩
      obtain ⟨v, hv⟩ : ∃ u, u = aloneL F G b := ⟨_, rfl⟩
      obtain ⟨w, hw⟩ : ∃ u, u = aloneL F G c := ⟨_, rfl⟩
      obtain ⟨p, hp⟩ : ∃ u, u = val F (onlyL G F.length a) := ⟨_, rfl⟩
      obtain ⟨q, hq⟩ : ∃ u, u = val F (onlyL G F.length b) := ⟨_, rfl⟩
      obtain ⟨r, hr⟩ : ∃ u, u = val F (onlyL G F.length c) := ⟨_, rfl⟩
      rw [← hu] at hAa t1 b1
      rw [← hv] at hAb t1 b2
      rw [← hw] at hAc t1 t3
      rw [← hp] at hPa t2 b4
      rw [← hq] at hPb t2 b5
      rw [← hr] at hPc t2 t3
      have ha' : @grpI A F.length = a := ha.symm
      refine W.resub (Γ' := ⟨[(7, .own 900007), (8, .own 900008), (9, .own 900009), (10, .own 900010), (11, .own 900011), (12, .lit (.int .i64 F.length))],
      [(900007, .row 3 (.int .i64) true F), (900008, .row 22 (.sl (.int .i64)) true G), (900009, .row 3 (.int .i64) true a), (900010, .row 3 (.int .i64) true b), (900011, .row 3 (.int .i64) true c)]⟩) ?_ ?_
      · refine subF.ok ?_ <;> (conv => whnf) <;> repeat' (first
    | exact trivial
    | (with_reducible rfl)
    | ((with_reducible refine And.intro ?_ ?_) <;> conv => whnf)
    | omega
    | rfl
    | (refine congrArg (SV.arr _) ?_)
    | (refine congrArg (Value.int _) ?_)
    | (refine congrArg Value.bool ?_))
        · exact ha.symm
        · exact hbe.symm
        · exact hc.symm
      · repeat' (first
    | refine W.seq ?_
    | refine W.block ?_
    | (refine W.region tys_ok [] ?_; conv => whnf)
    | (refine W.drawAll tys_ok [] mixed rfl ?_; conv => whnf)
    | (refine W.ret ?_; conv => whnf)
    | (refine W.skip ?_; conv => whnf)
    | (refine W.exit ?_; conv => whnf)
    | (refine call_at (al := false) (hAa) rfl rfl rfl rfl ?_; conv => whnf)
    | (refine call_at (al := false) (hAb) rfl rfl rfl rfl ?_; conv => whnf)
    | (refine call_at (al := false) (hAc) rfl rfl rfl rfl ?_; conv => whnf)
    | (refine call_at (al := false) (hPa) rfl rfl rfl rfl ?_; conv => whnf)
    | (refine call_at (al := false) (hPb) rfl rfl rfl rfl ?_; conv => whnf)
    | (refine call_at (al := false) (hPc) rfl rfl rfl rfl ?_; conv => whnf)
    | (refine call_at (al := false) (lives_at) rfl rfl rfl rfl ?_; conv => whnf)

    | (refine W.cond rfl (fun hb => ?_) (fun hb => ?_) <;> (try simp only [minL, maxL, pickB, getD_int, getD_sl, getD_bool, len_int, len_sl, len_bool, decide_eq_true_eq, decide_eq_false_iff_not, Bool.and_eq_true, Bool.or_eq_true, Bool.and_eq_false_iff, Bool.or_eq_false_iff, Bool.not_eq_true', Bool.not_eq_false', Bool.true_eq_false, Bool.false_eq_true, Int.toNat_natCast, Int.ofNat_lt, Int.ofNat_le, not_true_eq_false, not_false_eq_true, or_false, false_or, and_true, true_and, or_true, true_or, and_false, false_and] at hb) <;> (try (first | (cases hb; done) | exact absurd hb (by decide) | (exfalso; omega))))
    | ((with_reducible refine And.intro ?_ ?_); (focus ((repeat' (first | (with_reducible rfl) | (with_reducible refine And.intro ?_ ?_) | omega | rfl | exact Or.inl rfl | exact Or.inr rfl | (focus ((try simp only [minL, maxL, pickB, getD_int, getD_sl, getD_bool, len_int, len_sl, len_bool, decide_eq_true_eq, decide_eq_false_iff_not, Bool.and_eq_true, Bool.or_eq_true, Bool.and_eq_false_iff, Bool.or_eq_false_iff, Bool.not_eq_true', Bool.not_eq_false', Bool.true_eq_false, Bool.false_eq_true, Int.toNat_natCast, Int.ofNat_lt, Int.ofNat_le, not_true_eq_false, not_false_eq_true, or_false, false_or, and_true, true_and, or_true, true_or, and_false, false_and, InK, Path.imp, List.length_replicate, List.length_set, List.length_append, List.length_cons, List.length_nil] at *); omega)) | (refine app_le rfl ?_; omega))); done)); (conv => whnf))
    | ((with_reducible refine And.intro (Side.out ?_) ?_); rotate_left; (conv => whnf))
    | (refine retF1 ?_ <;> (conv => whnf) <;> repeat' (first
    | exact trivial
    | (with_reducible rfl)
    | ((with_reducible refine And.intro ?_ ?_) <;> conv => whnf)
    | omega
    | rfl
    | (refine congrArg (SV.arr _) ?_)
    | (refine congrArg (Value.int _) ?_)
    | (refine congrArg Value.bool ?_)))
    | (refine retF2 ?_ <;> (conv => whnf) <;> repeat' (first
    | exact trivial
    | (with_reducible rfl)
    | ((with_reducible refine And.intro ?_ ?_) <;> conv => whnf)
    | omega
    | rfl
    | (refine congrArg (SV.arr _) ?_)
    | (refine congrArg (Value.int _) ?_)
    | (refine congrArg Value.bool ?_)))); all_goals (try unfold Side)
        all_goals try (repeat' (first | (with_reducible rfl) | (with_reducible refine And.intro ?_ ?_) | omega | rfl | exact Or.inl rfl | exact Or.inr rfl | (focus ((try simp only [minL, maxL, pickB, getD_int, getD_sl, getD_bool, len_int, len_sl, len_bool, decide_eq_true_eq, decide_eq_false_iff_not, Bool.and_eq_true, Bool.or_eq_true, Bool.and_eq_false_iff, Bool.or_eq_false_iff, Bool.not_eq_true', Bool.not_eq_false', Bool.true_eq_false, Bool.false_eq_true, Int.toNat_natCast, Int.ofNat_lt, Int.ofNat_le, not_true_eq_false, not_false_eq_true, or_false, false_or, and_true, true_and, or_true, true_or, and_false, false_and, InK, Path.imp, List.length_replicate, List.length_set, List.length_append, List.length_cons, List.length_nil] at *); omega)) | (refine app_le rfl ?_; omega)))
end Go.Proofs.Ytohfemfgnohhdaa
