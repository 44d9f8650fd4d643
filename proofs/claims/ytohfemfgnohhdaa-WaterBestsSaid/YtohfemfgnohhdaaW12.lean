/- The two checks of rights agree. No condition. -/
import Derived.Test.YtohfemfgnohhdaaW11
namespace Go.Proofs.Ytohfemfgnohhdaa
open Go Go.Vc
set_option linter.unusedVariables false
set_option linter.unusedSimpArgs false

theorem pigeon : ∀ (n : Nat) (f : Nat → Nat), (∀ i, i < n → f i < n) → (∀ i j, i < n → j < n → f i = f j → i = j) → ∀ v, v < n → ∃ i, i < n ∧ f i = v
  | 0, f, _, _, v, h => by omega
  | n + 1, f, h1, h2, v, hv => by
    have ih := pigeon n (fun i => if f i = n then f n else f i) (fun i hi => by
      try dsimp only
      split
      · rename_i e
        have h3 := h1 n (by omega)
        have h4 : f n ≠ n := fun e' => by have := h2 i n (by omega) (by omega) (by omega); omega
        omega
      · have := h1 i (by omega); omega) (fun i j hi hj e => by
      try dsimp only at e
      split at e <;> split at e
      · exact h2 i j (by omega) (by omega) (by omega)
      · have := h2 n j (by omega) (by omega) e; omega
      · have := h2 i n (by omega) (by omega) e; omega
      · exact h2 i j (by omega) (by omega) e)
    by_cases e : v = n
    · subst e
      by_cases e' : f v = v
      · exact ⟨v, by omega, e'⟩
      · have h3 := h1 v (by omega)
        obtain ⟨i, h4, h5⟩ := ih (f v) (by omega)
        try dsimp only at h5
        split at h5
        · rename_i h6; exact ⟨i, by omega, h6⟩
        · have := h2 i v (by omega) (by omega) h5; omega
    · obtain ⟨i, h4, h5⟩ := ih v (by omega)
      try dsimp only at h5
      split at h5
      · exact ⟨n, by omega, h5⟩
      · exact ⟨i, by omega, h5⟩
theorem pigeon' (n : Nat) (f g : Nat → Nat) (hg : ∀ v, v < n → g v < n ∧ f (g v) = v) : ∀ i j, i < n → j < n → f i = f j → i = j := by
  have hs := pigeon n g (fun v hv => (hg v hv).1) (fun u v hu hv e => by
    have h1 := (hg u hu).2
    have h2 := (hg v hv).2
    rw [e] at h1
    omega)
  intro i j hi hj e
  obtain ⟨u, h1, h2⟩ := hs i hi
  obtain ⟨v, h3, h4⟩ := hs j hj
  have h5 := (hg u h1).2
  have h6 := (hg v h3).2
  rw [h2] at h5
  rw [h4] at h6
  have : u = v := by omega
  rw [← h2, ← h4, this]

theorem within_of {us : List Int} {m : Int} (h : ∀ i, i < us.length → 0 ≤ us.getD i 0 ∧ us.getD i 0 ≤ m) : within us m = true := by
  simp only [within, Bool.not_eq_true', List.any_eq_false]
  intro x hx
  obtain ⟨i, hi, rfl⟩ := List.mem_iff_getElem.1 hx
  have := h i hi
  rw [List.getD_eq_getElem?_getD, List.getElem?_eq_getElem hi] at this
  simp only [Option.getD_some] at this
  simp only [Bool.or_eq_true, decide_eq_true_eq]
  omega
theorem fidx_of {p : Int → Bool} : ∀ {us : List Int} {i k : Nat}, k < us.length → p (us.getD k 0) = true → 0 ≤ fidx p i us
  | [], _, k, h, _ => by simp at h
  | x :: r, i, k, h, hp => by
    simp only [fidx]
    cases hx : p x with
    | true => simp only [cond_true]; omega
    | false =>
      simp only [cond_false]
      cases k with
      | zero => simp only [List.getD_cons_zero] at hp; rw [hx] at hp; cases hp
      | succ k => exact fidx_of (k := k) (by simpa using h) (by simpa using hp)
theorem hasT_of {ag : List Int} : ∀ {n : Nat}, (∀ a, a < n → has ag a = true) → hasT ag n = true
  | 0, _ => rfl
  | n + 1, h => by
    simp only [hasT, Bool.and_eq_true]
    exact ⟨hasT_of fun a ha => h a (by omega), h n (by omega)⟩
theorem goodT_of {fl ri ag : List Int} : ∀ {n : Nat}, (∀ i, i < n → badAt fl ri ag i = false) → goodT fl ri ag n = true
  | 0, _ => rfl
  | n + 1, h => by
    simp only [goodT, Bool.and_eq_true, Bool.not_eq_true']
    exact ⟨goodT_of fun a ha => h a (by omega), h n (by omega)⟩
theorem Rights.inj {fl ri ag : List Int} (h : Rights fl ri ag) : ∀ i j, i < fl.length → j < fl.length → ag.getD i 0 = ag.getD j 0 → i = j := by
  intro i j hi hj e
  refine pigeon' fl.length (fun i => (ag.getD i 0).toNat) (ix ag) (fun v hv => ?_) i j hi hj (by rw [e])
  obtain ⟨_, h1, h2⟩ := has_spec (h.hs v hv)
  have := h.la
  exact ⟨by omega, by (try dsimp only); omega⟩
theorem rights_eq (fl ri ag : List Int) : rightsRef fl ri ag = rightsOk fl ri ag := by
  cases hr : rightsOk fl ri ag with
  | true =>
    have h := rightsOk.rights hr
    have h1 := h.pos
    have h2 := h.len
    have h3 := h.lr
    have h4 := h.la
    simp only [rightsRef, Bool.and_eq_true, decide_eq_true_eq]
    refine ⟨⟨⟨⟨h1, h2⟩, h3⟩, h4⟩, goodT_of fun i hi => ?_⟩
    have hv : ∀ i, i < fl.length → 0 ≤ ag.getD i 0 ∧ ag.getD i 0 < (fl.length : Int) := fun i hi => by have := h.va i hi; omega
    simp only [badAt, inR, Bool.or_eq_false_iff, Bool.not_eq_false', Bool.and_eq_true, decide_eq_true_eq]
    refine ⟨⟨⟨h.vf i hi, h.vr i hi⟩, h.va i hi⟩, ?_⟩
    have hvi := hv i hi
    cases hs : (seenT ag fl.length i).getD (ag.getD i 0).toNat false with
    | false => rfl
    | true =>
      obtain ⟨j, h5, h6⟩ := (seenT_get hv (i := i) (by omega) (ag.getD i 0).toNat (by omega)).1 hs
      have := h.inj j i (by omega) hi (by omega)
      omega
  | false =>
    cases hg : rightsRef fl ri ag with
    | false => rfl
    | true =>
      simp only [rightsRef, Bool.and_eq_true, decide_eq_true_eq] at hg
      obtain ⟨⟨⟨⟨h1, h2⟩, h3⟩, h4⟩, h5⟩ := hg
      have h6 := goodT_get h5
      simp only [badAt, inR, Bool.or_eq_false_iff, Bool.not_eq_false', Bool.and_eq_true, decide_eq_true_eq] at h6
      have hv : ∀ i, i < fl.length → 0 ≤ ag.getD i 0 ∧ ag.getD i 0 < (fl.length : Int) := fun i hi => by have := (h6 i hi).1.2; omega
      have hinj : ∀ j i, j < i → i < fl.length → ag.getD j 0 ≠ ag.getD i 0 := by
        intro j i hji hi e
        have hvi := hv i hi
        have := (seenT_get hv (i := i) (by omega) (ag.getD i 0).toNat (by omega)).2 ⟨j, hji, by omega⟩
        rw [(h6 i hi).2] at this
        cases this
      have hsurj := pigeon fl.length (fun i => (ag.getD i 0).toNat) (fun i hi => by have := hv i hi; (try dsimp only); omega) (fun i j hi hj e => by
        have h7 := hv i hi
        have h8 := hv j hj
        try dsimp only at e
        rcases Nat.lt_trichotomy i j with h9 | h9 | h9
        · exact absurd (by omega) (hinj i j h9 hj)
        · exact h9
        · exact absurd (by omega) (hinj j i h9 hi))
      rw [← hr]
      symm
      simp only [rightsOk, Bool.and_eq_true, decide_eq_true_eq]
      refine ⟨⟨⟨⟨⟨⟨⟨h1, h2⟩, h3⟩, h4⟩, within_of fun i hi => (h6 i hi).1.1.1⟩, within_of fun i hi => (h6 i (by omega)).1.1.2⟩, within_of fun i hi => (h6 i (by omega)).1.2⟩, hasT_of fun a ha => ?_⟩
      obtain ⟨i, h7, h8⟩ := hsurj a ha
      have h9 := hv i h7
      simp only [has, decide_eq_true_eq]
      refine fidx_of (k := i) (by omega) ?_
      simp only [decide_eq_true_eq]
      try dsimp only at h8
      omega
