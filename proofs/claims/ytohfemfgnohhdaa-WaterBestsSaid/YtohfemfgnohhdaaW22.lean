/- The document's table of greatest worths, and the greatest worth: the mathematics. No condition. -/
import Derived.Test.YtohfemfgnohhdaaW21
namespace Go.Proofs.Ytohfemfgnohhdaa
open Go Go.Vc
set_option linter.unusedVariables false
set_option linter.unusedSimpArgs false

/-- The greatest worth with less than c pieces at the first place. -/
def mostL (f : Int) (g : List Int) (w : Int) (af : List Int) : Nat → Int
  | 0 => 0
  | x + 1 => max (mostL f g w af x) ((g.take x).sum + af.getD (min ((af.length : Int) - 1) (w + f - x)).toNat 0)
/-- How many numbers of pieces there are. -/
def cntL (f : Int) (g : List Int) (w : Int) : Nat := (min (g.length : Int) (w + f)).toNat + 1
def tabF (T : Nat) : List Int → List (List Int) → List Int
  | f :: fs, g :: gs => (List.range (T + 1)).map fun (w : Nat) => mostL f g w (tabF T fs gs) (cntL f g w)
  | _, _ => List.replicate (T + 1) 0
theorem tabF_len {T : Nat} : ∀ {fs : List Int} {gs : List (List Int)}, (tabF T fs gs).length = T + 1
  | f :: fs, g :: gs => by simp [tabF]
  | [], _ => by simp [tabF]
  | _ :: _, [] => by simp [tabF]
/-- The greatest worth, given an amount of water. -/
def mxF (k : Nat → Int) : Nat → Int
  | 0 => 0
  | x + 1 => max (mxF k x) (k x)
def mx : List Int → List (List Int) → Int → Int
  | f :: fs, g :: gs, w => mxF (fun x => (g.take x).sum + mx fs gs (w + f - x)) (cntL f g w)
  | _, _, _ => 0
theorem mxF_ge {k : Nat → Int} : ∀ {n x : Nat}, x < n → k x ≤ mxF k n
  | 0, x, h => by omega
  | n + 1, x, h => by
    simp only [mxF]
    by_cases e : x = n
    · rw [e]; omega
    · have := mxF_ge (k := k) (n := n) (x := x) (by omega); omega
theorem mxF_nonneg {k : Nat → Int} : ∀ {n : Nat}, 0 ≤ mxF k n
  | 0 => Int.le_refl _
  | n + 1 => by simp only [mxF]; have := mxF_nonneg (k := k) (n := n); omega
theorem mxF_attain {k : Nat → Int} : ∀ {n : Nat}, (∃ x, x < n ∧ mxF k n = k x) ∨ mxF k n = 0
  | 0 => .inr rfl
  | n + 1 => by
    simp only [mxF]
    by_cases h : k n ≤ mxF k n
    · rw [Int.max_eq_left h]
      rcases mxF_attain (k := k) (n := n) with ⟨x, h1, h2⟩ | h1
      · exact .inl ⟨x, by omega, h2⟩
      · exact .inr h1
    · rw [Int.max_eq_right (by omega)]
      exact .inl ⟨n, by omega, rfl⟩
theorem mxF_congr {k k' : Nat → Int} : ∀ {n : Nat}, (∀ x, x < n → k x = k' x) → mxF k n = mxF k' n
  | 0, _ => rfl
  | n + 1, h => by simp only [mxF]; rw [mxF_congr (fun x hx => h x (by omega)), h n (by omega)]
theorem mostL_eq {f : Int} {g : List Int} {w : Int} {af : List Int} : ∀ {n : Nat}, mostL f g w af n = mxF (fun x => (g.take x).sum + af.getD (min ((af.length : Int) - 1) (w + f - x)).toNat 0) n
  | 0 => rfl
  | n + 1 => by simp only [mostL, mxF, mostL_eq (n := n)]
theorem mx_nonneg : ∀ {fs : List Int} {gs : List (List Int)} {w : Int}, 0 ≤ mx fs gs w
  | f :: fs, g :: gs, w => mxF_nonneg
  | [], _, _ => Int.le_refl _
  | _ :: _, [], _ => Int.le_refl _
/-- Flows and gains behind some place. -/
structure Sfx (fs : List Int) (gs : List (List Int)) : Prop where
  len : fs.length = gs.length
  f0 : ∀ i, i < fs.length → 0 ≤ fs.getD i 0
  g0 : ∀ i j, 0 ≤ (gs.getD i []).getD j 0
theorem Sfx.tail {f : Int} {fs : List Int} {g : List Int} {gs : List (List Int)} (h : Sfx (f :: fs) (g :: gs)) : Sfx fs gs ∧ 0 ≤ f ∧ ∀ j, 0 ≤ g.getD j 0 :=
  ⟨⟨by simpa using h.len, fun i hi => by simpa using h.f0 (i + 1) (by simpa using hi), fun i j => by simpa using h.g0 (i + 1) j⟩, by simpa using h.f0 0 (by simp), fun j => by simpa using h.g0 0 j⟩
theorem take_sum_nonneg {g : List Int} (h : ∀ j, 0 ≤ g.getD j 0) : ∀ k, 0 ≤ (g.take k).sum
  | 0 => by simp
  | k + 1 => by rw [sum_take_inc]; have := take_sum_nonneg h k; have := h k; omega
theorem sum_nonneg {fs : List Int} (h : ∀ i, i < fs.length → 0 ≤ fs.getD i 0) : 0 ≤ fs.sum := by
  induction fs with
  | nil => simp
  | cons f fs ih =>
    have h0 := h 0 (by simp)
    simp only [List.getD_cons_zero] at h0
    have := ih fun i hi => by simpa using h (i + 1) (by simpa using hi)
    simp only [List.sum_cons]; omega
/-- Where the water is enough, the table has the greatest worths. -/
theorem tabF_eq {T : Nat} : ∀ {fs : List Int} {gs : List (List Int)} {w : Int}, Sfx fs gs → 0 ≤ w → w + fs.sum ≤ T → (tabF T fs gs).getD w.toNat 0 = mx fs gs w
  | [], gs, w, h, h0, hT => by
    simp only [tabF, mx]
    rw [List.getD_eq_getElem?_getD, List.getElem?_replicate]; split <;> rfl
  | f :: fs, [], w, h, h0, hT => by have := h.len; simp at this
  | f :: fs, g :: gs, w, h, h0, hT => by
    obtain ⟨ht, hf, hg⟩ := h.tail
    simp only [List.sum_cons] at hT
    have hs := sum_nonneg ht.f0
    simp only [tabF, mx]
    have hw : w.toNat < T + 1 := by omega
    rw [List.getD_eq_getElem?_getD, List.getElem?_map, List.getElem?_range hw]
    simp only [Option.map_some, Option.getD_some]
    rw [show ((w.toNat : Nat) : Int) = w from by omega, mostL_eq]
    refine mxF_congr fun x hx => ?_
    have hx' : (x : Int) ≤ w + f := by simp only [cntL] at hx; omega
    rw [tabF_len, show min (((T + 1 : Nat) : Int) - 1) (w + f - x) = w + f - x from by omega]
    rw [tabF_eq ht (by omega) (by omega)]
/-- No use is worth more. -/
theorem mx_upper : ∀ {fs : List Int} {gs : List (List Int)} {us : List Int} {w : Int}, Sfx fs gs → us.length = fs.length → (∀ i, i < us.length → 0 ≤ us.getD i 0 ∧ us.getD i 0 ≤ (gs.getD i []).length) → poss w fs us = true → worthL gs us ≤ mx fs gs w
  | [], gs, us, w, h, hl, hu, hp => by
    have : us = [] := List.eq_nil_of_length_eq_zero hl
    subst this
    cases gs <;> exact Int.le_refl _
  | f :: fs, [], us, w, h, hl, hu, hp => by have := h.len; simp at this
  | f :: fs, g :: gs, [], w, h, hl, hu, hp => by simp at hl
  | f :: fs, g :: gs, u :: us, w, h, hl, hu, hp => by
    obtain ⟨ht, hf, hg⟩ := h.tail
    have h0 := hu 0 (by simp)
    simp only [List.getD_cons_zero] at h0
    simp only [poss, Bool.and_eq_true, Bool.not_eq_true', decide_eq_false_iff_not] at hp
    have ih := mx_upper (fs := fs) (gs := gs) (us := us) (w := w + f - u) ht (by simpa using hl) (fun i hi => by simpa using hu (i + 1) (by simpa using hi)) hp.2
    simp only [mx, worthL]
    have h1 := mxF_ge (k := fun x => (g.take x).sum + mx fs gs (w + f - x)) (n := cntL f g w) (x := u.toNat) (by simp only [cntL]; omega)
    rw [show ((u.toNat : Nat) : Int) = u from by omega] at h1
    omega
/-- Some use is worth as much. -/
theorem mx_attain : ∀ {fs : List Int} {gs : List (List Int)} {w : Int}, Sfx fs gs → 0 ≤ w → ∃ us : List Int, us.length = fs.length ∧ (∀ i, i < us.length → 0 ≤ us.getD i 0 ∧ us.getD i 0 ≤ (gs.getD i []).length) ∧ poss w fs us = true ∧ worthL gs us = mx fs gs w
  | [], gs, w, h, h0 => ⟨[], rfl, fun i hi => by simp at hi, rfl, by cases gs <;> rfl⟩
  | f :: fs, [], w, h, h0 => by have := h.len; simp at this
  | f :: fs, g :: gs, w, h, h0 => by
    obtain ⟨ht, hf, hg⟩ := h.tail
    have key : ∃ x : Nat, x < cntL f g w ∧ mx (f :: fs) (g :: gs) w = (g.take x).sum + mx fs gs (w + f - x) := by
      simp only [mx]
      rcases mxF_attain (k := fun x => (g.take x).sum + mx fs gs (w + f - x)) (n := cntL f g w) with ⟨x, h1, h2⟩ | h1
      · exact ⟨x, h1, h2⟩
      · refine ⟨0, by simp only [cntL]; omega, ?_⟩
        have h2 := mxF_ge (k := fun x => (g.take x).sum + mx fs gs (w + f - x)) (n := cntL f g w) (x := 0) (by simp only [cntL]; omega)
        have h3 := take_sum_nonneg hg 0
        have h4 := mx_nonneg (fs := fs) (gs := gs) (w := w + f - ((0 : Nat) : Int))
        omega
    obtain ⟨x, h1, h2⟩ := key
    have hx : (x : Int) ≤ w + f ∧ x ≤ g.length := by simp only [cntL] at h1; omega
    obtain ⟨us, h3, h4, h5, h6⟩ := mx_attain (fs := fs) (gs := gs) (w := w + f - x) ht (by omega)
    refine ⟨(x : Int) :: us, by simp [h3], fun i hi => ?_, ?_, ?_⟩
    · cases i with
      | zero => simp only [List.getD_cons_zero]; omega
      | succ i => simpa using h4 i (by simpa using hi)
    · simp only [poss, h5, Bool.and_true, Bool.not_eq_true', decide_eq_false_iff_not]; omega
    · rw [h2]
      simp only [worthL]
      rw [h6]
      rfl
/-- A use that is worth most, and is the least such one, given water. -/
structure LexOpt (fs : List Int) (gs : List (List Int)) (w : Int) (us : List Int) : Prop where
  len : us.length = fs.length
  val : ∀ i, i < us.length → 0 ≤ us.getD i 0 ∧ us.getD i 0 ≤ (gs.getD i []).length ∧ us.getD i 0 ≤ 20
  poss : poss w fs us = true
  worth : worthL gs us = mx fs gs w
  least : ∀ vs : List Int, vs.length = fs.length → (∀ i, i < vs.length → 0 ≤ vs.getD i 0 ∧ vs.getD i 0 ≤ (gs.getD i []).length ∧ vs.getD i 0 ≤ 20) → Go.Proofs.Ytohfemfgnohhdaa.poss w fs vs = true → worthL gs vs = mx fs gs w → lexL us ≤ lexL vs
theorem LexOpt.step {f u : Int} {fs us : List Int} {g : List Int} {gs : List (List Int)} {w : Int} (hs : Sfx (f :: fs) (g :: gs)) (hw : 0 ≤ w) (hlen : ∀ i, i < gs.length → (gs.getD i []).length ≤ 20) (h : LexOpt (f :: fs) (g :: gs) w (u :: us)) :
    LexOpt fs gs (w + f - u) us ∧ 0 ≤ u ∧ u ≤ w + f ∧ u ≤ g.length ∧ (g.take u.toNat).sum + mx fs gs (w + f - u) = mx (f :: fs) (g :: gs) w ∧
      ∀ x : Nat, (x : Int) < u → (g.take x).sum + mx fs gs (w + f - x) ≠ mx (f :: fs) (g :: gs) w := by
  obtain ⟨ht, hf, hg⟩ := hs.tail
  have h0 := h.val 0 (by simp)
  simp only [List.getD_cons_zero] at h0
  have hp := h.poss
  simp only [Go.Proofs.Ytohfemfgnohhdaa.poss, Bool.and_eq_true, Bool.not_eq_true', decide_eq_false_iff_not] at hp
  have hvt : ∀ i, i < us.length → 0 ≤ us.getD i 0 ∧ us.getD i 0 ≤ (gs.getD i []).length ∧ us.getD i 0 ≤ 20 := fun i hi => by simpa using h.val (i + 1) (by simpa using hi)
  have hlt : us.length = fs.length := by simpa using h.len
  have up := mx_upper (fs := fs) (gs := gs) (us := us) (w := w + f - u) ht hlt (fun i hi => ⟨(hvt i hi).1, (hvt i hi).2.1⟩) hp.2
  have hw1 := h.worth
  simp only [worthL] at hw1
  have ge : ∀ x : Nat, (x : Int) ≤ w + f → x ≤ g.length → (g.take x).sum + mx fs gs (w + f - x) ≤ mx (f :: fs) (g :: gs) w := fun x h1 h2 => by
    simp only [mx]
    exact mxF_ge (k := fun x => (g.take x).sum + mx fs gs (w + f - x)) (n := cntL f g w) (x := x) (by simp only [cntL]; omega)
  have hgu := ge u.toNat (by omega) (by omega)
  rw [show ((u.toNat : Nat) : Int) = u from by omega] at hgu
  have hwt : worthL gs us = mx fs gs (w + f - u) := by omega
  refine ⟨⟨hlt, hvt, hp.2, hwt, fun vs hl hv hpv hwv => ?_⟩, h0.1, by omega, h0.2.1, by omega, fun x hx e => ?_⟩
  · have := h.least (u :: vs) (by simp [hl]) (fun i hi => by
      cases i with
      | zero => simpa using h0
      | succ i => simpa using hv i (by simpa using hi)) (by simp only [Go.Proofs.Ytohfemfgnohhdaa.poss, hpv, Bool.and_true, Bool.not_eq_true', decide_eq_false_iff_not]; omega) (by simp only [worthL]; omega)
    simp only [lexL, hl, hlt] at this
    omega
  · obtain ⟨vs, h3, h4, h5, h6⟩ := mx_attain (fs := fs) (gs := gs) (w := w + f - x) ht (by omega)
    have hv20 : ∀ i, i < vs.length → 0 ≤ vs.getD i 0 ∧ vs.getD i 0 ≤ (gs.getD i []).length ∧ vs.getD i 0 ≤ 20 := fun i hi => by
      have := h4 i hi
      have h7 := hlen i (by have := ht.len; omega)
      omega
    have h7 := h.least ((x : Int) :: vs) (by simp [h3]) (fun i hi => by
      cases i with
      | zero => simp only [List.getD_cons_zero]; omega
      | succ i => simpa using hv20 i (by simpa using hi)) (by simp only [Go.Proofs.Ytohfemfgnohhdaa.poss, h5, Bool.and_true, Bool.not_eq_true', decide_eq_false_iff_not]; omega) (by
        simp only [worthL]
        rw [h6, ← e]
        rfl)
    have h8 := lexL_bound (us := vs) (fun i hi => ⟨(hv20 i hi).1, (hv20 i hi).2.2⟩)
    have h9 := lexL_bound (us := us) (fun i hi => ⟨(hvt i hi).1, (hvt i hi).2.2⟩)
    simp only [lexL, h3, hlt] at h7
    rw [h3] at h8
    have : ((x : Int) + 1) * 21 ^ fs.length ≤ u * 21 ^ fs.length := Int.mul_le_mul_of_nonneg_right (by omega) (Int.le_of_lt (pow_pos _))
    rw [Int.add_mul, Int.one_mul] at this
    omega
theorem Riv.sfx {fl : List Int} {gs : List (List Int)} (h : Riv fl gs) : Sfx fl gs := ⟨h.len, fun i hi => (h.val i hi).1, fun i j => h.falls.pos i j⟩
theorem Riv.mx {fl : List Int} {gs : List (List Int)} (h : Riv fl gs) : mx fl gs 0 = Go.Proofs.Ytohfemfgnohhdaa.val fl gs := by
  obtain ⟨us, h1, h2, h3, h4⟩ := mx_attain (w := 0) h.sfx (Int.le_refl 0)
  have hb := best_of h h1 (fun i hi => by
    have := h2 i hi
    have := h.g.lens i (by have := h.len; omega)
    omega) h3
  have hu := mx_upper (us := bestL fl gs) h.sfx h.best_len (fun i hi => ⟨(h.best_val i hi).1, (h.best_val i hi).2.1⟩) h.best_poss
  have e : worthL gs (bestL fl gs) = Go.Proofs.Ytohfemfgnohhdaa.val fl gs := rfl
  omega
theorem Riv.lexOpt {fl : List Int} {gs : List (List Int)} (h : Riv fl gs) : LexOpt fl gs 0 (bestL fl gs) := by
  refine ⟨h.best_len, h.best_val, h.best_poss, h.mx.symm, fun vs hl hv hp hw => ?_⟩
  exact (best_of h hl (fun i hi => ⟨(hv i hi).1, (hv i hi).2.2⟩) hp).2 (hw.trans h.mx)
