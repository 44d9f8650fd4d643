/- Calls: what the program's function returns. No condition. -/
import Derived.Test.YtohfemfgnohhdaaW7
namespace Go.Proofs.Ytohfemfgnohhdaa
open Go Go.Vc
set_option linter.unusedVariables false
set_option linter.unusedSimpArgs false

def eqP (a : Int) (x : Int) : Bool := decide (a = x)
def has (ag : List Int) (a : Nat) : Bool := decide (0 ≤ fidx (fun x => decide ((a : Int) = x)) 0 ag)
def ix (ag : List Int) (a : Nat) : Nat := (fidx (fun x => decide ((a : Int) = x)) 0 ag).toNat
def hasT (ag : List Int) : Nat → Bool
  | 0 => true
  | a + 1 => hasT ag a && has ag a
theorem hasT_get {ag : List Int} : ∀ {n : Nat}, hasT ag n = true → ∀ a, a < n → has ag a = true
  | 0, _, a, h => by omega
  | n + 1, hn, a, h => by
    simp only [hasT, Bool.and_eq_true] at hn
    by_cases e : a = n
    · rw [e]; exact hn.2
    · exact hasT_get hn.1 a (by omega)
theorem fidx_spec {p : Int → Bool} : ∀ {us : List Int} {i : Nat}, 0 ≤ fidx p i us → ∃ k, fidx p i us = ((i + k : Nat) : Int) ∧ k < us.length ∧ p (us.getD k 0) = true
  | [], i, h => by simp [fidx] at h
  | x :: r, i, h => by
    simp only [fidx] at h ⊢
    cases hx : p x with
    | true => exact ⟨0, by simp, by simp, by simpa using hx⟩
    | false =>
      rw [hx] at h
      simp only [cond_false] at h ⊢
      obtain ⟨k, h1, h2, h3⟩ := fidx_spec (us := r) (i := i + 1) h
      exact ⟨k + 1, by rw [h1]; omega, by simpa using h2, by simpa using h3⟩
theorem has_spec {ag : List Int} {a : Nat} (h : has ag a = true) : fidx (fun x => decide ((a : Int) = x)) 0 ag = ix ag a ∧ ix ag a < ag.length ∧ ag.getD (ix ag a) 0 = a := by
  simp only [has, decide_eq_true_eq] at h
  obtain ⟨k, h1, h2, h3⟩ := fidx_spec h
  have : ix ag a = k := by simp only [ix]; omega
  simp only [decide_eq_true_eq] at h3
  rw [this]
  exact ⟨by omega, h2, h3.symm⟩
def top (p : Nat → Bool) : Nat → Nat
  | 0 => 0
  | k + 1 => cond (p (k + 1)) (k + 1) (top p k)
theorem top_le {p : Nat → Bool} : ∀ {n : Nat}, top p n ≤ n
  | 0 => by simp [top]
  | n + 1 => by
    simp only [top]
    have := top_le (p := p) (n := n)
    cases p (n + 1) <;> simp only [cond_true, cond_false] <;> omega
theorem top_max {p : Nat → Bool} : ∀ {n k : Nat}, top p n < k → k ≤ n → p k = false
  | 0, k, h1, h2 => by omega
  | n + 1, k, h1, h2 => by
    simp only [top] at h1
    cases hp : p (n + 1) with
    | true => rw [hp] at h1; simp only [cond_true] at h1; omega
    | false =>
      rw [hp] at h1
      simp only [cond_false] at h1
      by_cases e : k = n + 1
      · rw [e]; exact hp
      · exact top_max h1 (by omega)
theorem top_ok {p : Nat → Bool} (h0 : p 0 = true) : ∀ {n : Nat}, p (top p n) = true
  | 0 => h0
  | n + 1 => by
    simp only [top]
    cases hp : p (n + 1) with
    | true => exact hp
    | false => exact top_ok h0
theorem top_step {p : Nat → Bool} (down : ∀ k, p (k + 1) = true → p k = true) {n : Nat} : top p (n + 1) = cond (p (top p n + 1)) (top p n + 1) (top p n) := by
  have hl := top_le (p := p) (n := n)
  by_cases e : top p n = n
  · rw [e]; simp only [top, e]
  · have h1 : p (top p n + 1) = false := top_max (n := n) (by omega) (by omega)
    have h2 : p n = false := top_max (n := n) (by omega) (by omega)
    have h3 : p (n + 1) = false := by
      cases h : p (n + 1) with
      | false => rfl
      | true => rw [down n h] at h2; cases h2
    rw [h1]
    simp only [top, h3, cond_false]
theorem poss_mono : ∀ {fl us vs : List Int} {l m : Int}, m ≤ l → us.length = vs.length → (∀ i, i < us.length → us.getD i 0 ≤ vs.getD i 0) → poss m fl vs = true → poss l fl us = true
  | [], us, vs, l, m, _, _, _, _ => by cases us <;> rfl
  | f :: fl, [], vs, l, m, _, _, _, _ => rfl
  | f :: fl, u :: us, [], l, m, _, h, _, _ => by simp at h
  | f :: fl, u :: us, v :: vs, l, m, h1, h2, h3, h4 => by
    simp only [poss, Bool.and_eq_true, Bool.not_eq_true', decide_eq_false_iff_not] at h4 ⊢
    have h5 := h3 0 (by simp)
    simp only [List.getD_cons_zero] at h5
    exact ⟨by omega, poss_mono (by omega) (by simpa using h2) (fun i hi => by simpa using h3 (i + 1) (by simpa using hi)) h4.2⟩
/-- The pieces that place i gets, at most r. -/
def pIx (fl us : List Int) (i : Nat) (k : Nat) : Bool := poss 0 fl (us.set i (k : Int))
theorem pIx_down {fl us : List Int} {i : Nat} (hi : i < us.length) (k : Nat) (h : pIx fl us i (k + 1) = true) : pIx fl us i k = true := by
  refine poss_mono (Int.le_refl 0) (by simp) (fun j hj => ?_) h
  rw [set_getD hi, set_getD hi]
  split <;> omega
def callsT (fl ri ag : List Int) : Nat → List Int
  | 0 => List.replicate fl.length 0
  | a + 1 => (callsT fl ri ag a).set (ix ag a) (top (pIx fl (callsT fl ri ag a) (ix ag a)) (ri.getD (ix ag a) 0).toNat : Nat)
def rightsOk (fl ri ag : List Int) : Bool :=
  decide (1 ≤ fl.length) && decide (fl.length ≤ 8) && decide (ri.length = fl.length) && decide (ag.length = fl.length) && within fl 30 && within ri 30 && within ag ((fl.length : Int) - 1) && hasT ag fl.length
structure Rights (fl ri ag : List Int) : Prop where
  pos : 1 ≤ fl.length
  len : fl.length ≤ 8
  lr : ri.length = fl.length
  la : ag.length = fl.length
  vf : ∀ i, i < fl.length → 0 ≤ fl.getD i 0 ∧ fl.getD i 0 ≤ 30
  vr : ∀ i, i < fl.length → 0 ≤ ri.getD i 0 ∧ ri.getD i 0 ≤ 30
  va : ∀ i, i < fl.length → 0 ≤ ag.getD i 0 ∧ ag.getD i 0 ≤ (fl.length : Int) - 1
  hs : ∀ a, a < fl.length → has ag a = true
theorem rightsOk.rights {fl ri ag : List Int} (h : rightsOk fl ri ag = true) : Rights fl ri ag := by
  simp only [rightsOk, Bool.and_eq_true, decide_eq_true_eq] at h
  obtain ⟨⟨⟨⟨⟨⟨⟨h1, h2⟩, h3⟩, h4⟩, h5⟩, h6⟩, h7⟩, h8⟩ := h
  exact ⟨h1, h2, h3, h4, within_get h5, fun i hi => within_get h6 i (by omega), fun i hi => within_get h7 i (by omega), hasT_get h8⟩
structure Given (fl ri ag : List Int) (a : Nat) (us : List Int) : Prop where
  len : us.length = fl.length
  val : ∀ i, i < fl.length → 0 ≤ us.getD i 0 ∧ us.getD i 0 ≤ 30
  zero : ∀ b, a ≤ b → b < fl.length → us.getD (ix ag b) 0 = 0
  poss : poss 0 fl us = true
theorem callsT_given {fl ri ag : List Int} (h : Rights fl ri ag) : ∀ {a : Nat}, a ≤ fl.length → Given fl ri ag a (callsT fl ri ag a)
  | 0, _ => by
    refine ⟨by simp [callsT], fun i hi => by simp only [callsT]; rw [replicate_getD]; omega, fun b _ hb => by simp only [callsT]; exact replicate_getD, ?_⟩
    have go : ∀ (fl : List Int) (l : Int) (n : Nat), 0 ≤ l → (∀ i, i < fl.length → 0 ≤ fl.getD i 0) → poss l fl (List.replicate n 0) = true := by
      intro fl
      induction fl with
      | nil => intro l n _ _; cases n <;> rfl
      | cons f fl ih =>
        intro l n hl hf
        cases n with
        | zero => rfl
        | succ n =>
          have := hf 0 (by simp)
          simp only [List.getD_cons_zero] at this
          simp only [List.replicate_succ, poss, Bool.and_eq_true, Bool.not_eq_true', decide_eq_false_iff_not]
          exact ⟨by omega, ih _ _ (by omega) fun i hi => by simpa using hf (i + 1) (by simpa using hi)⟩
    exact go fl 0 _ (by omega) fun i hi => (h.vf i hi).1
  | a + 1, ha => by
    have g := callsT_given h (a := a) (by omega)
    obtain ⟨h1, h2, h3⟩ := has_spec (h.hs a (by omega))
    have hag := h.la
    have hgl := g.len
    have htop := top_le (p := pIx fl (callsT fl ri ag a) (ix ag a)) (n := (ri.getD (ix ag a) 0).toNat)
    have hri := h.vr (ix ag a) (by omega)
    refine ⟨by simp only [callsT]; rw [List.length_set]; exact g.len, fun i hi => ?_, fun b hb hb' => ?_, ?_⟩
    · simp only [callsT]
      rw [set_getD (by omega)]
      split
      · omega
      · exact g.val i hi
    · simp only [callsT]
      rw [set_getD (by omega)]
      obtain ⟨_, _, h6⟩ := has_spec (h.hs b hb')
      split
      · rename_i e
        rw [e, h3] at h6
        omega
      · exact g.zero b (by omega) hb'
    · refine top_ok (p := pIx fl (callsT fl ri ag a) (ix ag a)) ?_
      refine poss_mono (Int.le_refl 0) (by simp) (fun j hj => ?_) g.poss
      rw [set_getD (by omega)]
      split
      · rename_i e; rw [e]; have := g.val (ix ag a) (by omega); omega
      · exact Int.le_refl _
