/- The use that is found piece by piece is the best one: of two uses with the greatest worth, the least. No condition. -/
import Derived.Test.YtohfemfgnohhdaaW20
namespace Go.Proofs.Ytohfemfgnohhdaa
open Go Go.Vc
set_option linter.unusedVariables false
set_option linter.unusedSimpArgs false

structure Cand (fl : List Int) (gs : List (List Int)) (us : List Int) (j : Nat) : Prop where
  lt : us.getD j 0 < (gs.getD j []).length
  pos : 0 < gk gs j (us.getD j 0)
  poss : poss 0 fl (us.set j (us.getD j 0 + 1)) = true
theorem pk_spec {fl : List Int} {gs : List (List Int)} {us : List Int} : ∀ n, (pk fl gs us n < 0 ∧ ∀ j, j < n → ¬ Cand fl gs us j) ∨
    ∃ p : Nat, pk fl gs us n = p ∧ p < n ∧ Cand fl gs us p ∧ ∀ j, j < n → Cand fl gs us j → gk gs j (us.getD j 0) < gk gs p (us.getD p 0) ∨ (gk gs j (us.getD j 0) = gk gs p (us.getD p 0) ∧ j ≤ p)
  | 0 => .inl ⟨by simp [pk], fun j h => by omega⟩
  | n + 1 => by
    have okIff : okB fl gs us (pk fl gs us n) n = true ↔ Cand fl gs us n ∧ (pk fl gs us n < 0 ∨ gk gs (pk fl gs us n).toNat (us.getD (pk fl gs us n).toNat 0) ≤ gk gs n (us.getD n 0)) := by
      simp only [okB, Bool.and_eq_true, Bool.or_eq_true, decide_eq_true_eq]
      exact ⟨fun h => ⟨⟨h.1.1.1, h.1.1.2, h.1.2⟩, h.2⟩, fun h => ⟨⟨⟨h.1.lt, h.1.pos⟩, h.1.poss⟩, h.2⟩⟩
    simp only [pk]
    rcases pk_spec (fl := fl) (gs := gs) (us := us) n with ⟨h1, h2⟩ | ⟨p, h1, h2, h3, h4⟩
    · cases hb : okB fl gs us (pk fl gs us n) n with
      | true =>
        simp only [cond_true]
        refine .inr ⟨n, rfl, by omega, (okIff.1 hb).1, fun j hj hc => ?_⟩
        by_cases e : j = n
        · rw [e]; exact .inr ⟨rfl, Nat.le_refl _⟩
        · exact absurd hc (h2 j (by omega))
      | false =>
        simp only [cond_false]
        refine .inl ⟨h1, fun j hj hc => ?_⟩
        by_cases e : j = n
        · rw [e] at hc
          have := okIff.2 ⟨hc, .inl h1⟩
          rw [hb] at this; cases this
        · exact h2 j (by omega) hc
    · have hp : (pk fl gs us n).toNat = p := by omega
      rw [hp] at okIff
      cases hb : okB fl gs us (pk fl gs us n) n with
      | true =>
        simp only [cond_true]
        obtain ⟨h5, h6⟩ := okIff.1 hb
        have h7 : gk gs p (us.getD p 0) ≤ gk gs n (us.getD n 0) := by
          rcases h6 with h6 | h6
          · omega
          · exact h6
        refine .inr ⟨n, rfl, by omega, h5, fun j hj hc => ?_⟩
        by_cases e : j = n
        · rw [e]; exact .inr ⟨rfl, Nat.le_refl _⟩
        · rcases h4 j (by omega) hc with h8 | h8
          · exact .inl (by omega)
          · by_cases e2 : gk gs j (us.getD j 0) = gk gs n (us.getD n 0)
            · exact .inr ⟨e2, by omega⟩
            · exact .inl (by omega)
      | false =>
        simp only [cond_false]
        refine .inr ⟨p, h1, by omega, h3, fun j hj hc => ?_⟩
        by_cases e : j = n
        · rw [e] at hc ⊢
          refine .inl (Classical.byContradiction fun h => ?_)
          have := okIff.2 ⟨hc, .inr (by omega)⟩
          rw [hb] at this; cases this
        · exact h4 j (by omega) hc
theorem pow_le {a b : Nat} (h : a ≤ b) : (21 : Int) ^ a ≤ 21 ^ b := by
  induction h with
  | refl => exact Int.le_refl _
  | step _ ih => rw [Int.pow_succ]; have := pow_pos a; omega
theorem gk_len {gs : List (List Int)} {i : Nat} {k : Int} (h0 : 0 ≤ k) (h : (gs.getD i []).length ≤ k) : gk gs i k = 0 := by
  simp only [gk]
  rw [List.getD_eq_getElem?_getD, List.getElem?_eq_none (by omega)]
  rfl
theorem cand_of {fl : List Int} {gs : List (List Int)} (hF : Falls gs) {us : List Int} {j : Nat} (h0 : 0 ≤ us.getD j 0) (hp : poss 0 fl (us.set j (us.getD j 0 + 1)) = true) (hg : gk gs j (us.getD j 0) ≠ 0) : Cand fl gs us j := by
  refine ⟨Classical.byContradiction fun h => hg (gk_len h0 (by omega)), ?_, hp⟩
  have := hF.pos j (us.getD j 0).toNat
  have h1 : gk gs j (us.getD j 0) = (gs.getD j []).getD (us.getD j 0).toNat 0 := rfl
  omega
theorem bestF_max {fl : List Int} {gs : List (List Int)} (hF : Falls gs) (hfl : fl.length = gs.length) : ∀ (k : Nat) (us : List Int), us.length = gs.length → (∀ i, i < us.length → 0 ≤ us.getD i 0) → poss 0 fl us = true → room gs us ≤ k →
    ∀ vs : List Int, vs.length = us.length → Le us vs → poss 0 fl vs = true → keyL gs vs ≤ keyL gs (bestF fl gs k us) := by
  intro k
  induction k with
  | zero =>
    intro us hl h0 hpu hr vs hlv hle hp
    simp only [bestF]
    refine no_more (fl := fl) hF hl h0 (fun j hj hpj => ?_) _ vs hlv rfl hle (by omega) hp
    by_cases hg : gk gs j (us.getD j 0) = 0
    · simp only [hk, hg]
      have := pow_pos (us.length - 1 - j)
      omega
    · have hc := cand_of hF (h0 j hj) hpj hg
      have := room_set (gs := gs) (us := us) (i := j) (by omega) hj (h0 j hj) hc.lt
      omega
  | succ k ih =>
    intro us hl h0 hpu hr vs hlv hle hp
    simp only [bestF]
    rcases pk_spec (fl := fl) (gs := gs) (us := us) gs.length with ⟨h1, h2⟩ | ⟨p, h1, h2, h3, h4⟩
    · rw [decide_eq_true h1]
      simp only [cond_true]
      refine no_more (fl := fl) hF hl h0 (fun j hj hpj => ?_) _ vs hlv rfl hle (by omega) hp
      by_cases hg : gk gs j (us.getD j 0) = 0
      · simp only [hk, hg]
        have := pow_pos (us.length - 1 - j)
        omega
      · exact absurd (cand_of hF (h0 j hj) hpj hg) (h2 j (by omega))
    · rw [decide_eq_false (by omega : ¬ pk fl gs us gs.length < 0)]
      simp only [cond_false]
      have hpt : (pk fl gs us gs.length).toNat = p := by omega
      rw [hpt]
      have hrm := room_set (gs := gs) (us := us) (i := p) (by omega) (by omega) (h0 p (by omega)) h3.lt
      have hkp : ∀ j, j < us.length → poss 0 fl (us.set j (us.getD j 0 + 1)) = true → hk gs us.length j (us.getD j 0) ≤ hk gs us.length p (us.getD p 0) := by
        intro j hj hpj
        have hpp := h3.pos
        have hw1 := pow_pos (us.length - 1 - j)
        have hw2 := pow_pos us.length
        have hw3 : (21 : Int) ^ (us.length - 1 - p) ≤ 21 ^ us.length := pow_le (by omega)
        simp only [hk]
        by_cases hg : gk gs j (us.getD j 0) = 0
        · rw [hg]
          have : 1 * (21 : Int) ^ us.length ≤ gk gs p (us.getD p 0) * 21 ^ us.length := Int.mul_le_mul_of_nonneg_right (by omega) (by omega)
          omega
        · rcases h4 j (by omega) (cand_of hF (h0 j hj) hpj hg) with h5 | ⟨h5, h6⟩
          · have : (gk gs j (us.getD j 0) + 1) * (21 : Int) ^ us.length ≤ gk gs p (us.getD p 0) * 21 ^ us.length := Int.mul_le_mul_of_nonneg_right (by omega) (by omega)
            rw [Int.add_mul, Int.one_mul] at this
            omega
          · rw [h5]
            have : (21 : Int) ^ (us.length - 1 - p) ≤ 21 ^ (us.length - 1 - j) := pow_le (by omega)
            omega
      have hpos : 0 ≤ hk gs us.length p (us.getD p 0) := by
        have hpp := h3.pos
        have hw2 := pow_pos us.length
        have hw3 : (21 : Int) ^ (us.length - 1 - p) ≤ 21 ^ us.length := pow_le (by omega)
        simp only [hk]
        have : 1 * (21 : Int) ^ us.length ≤ gk gs p (us.getD p 0) * 21 ^ us.length := Int.mul_le_mul_of_nonneg_right (by omega) (by omega)
        omega
      obtain ⟨ws, hw1, hw2, hw3, hw4⟩ := exchange (fl := fl) hF hl (by omega) h0 (by omega) h3.poss hpos hkp hlv hle hp
      have := ih (us.set p (us.getD p 0 + 1)) (by simp; omega) (fun i hi => by
        rw [List.length_set] at hi
        rw [set_getD (by omega)]
        split
        · have := h0 p (by omega); omega
        · exact h0 i hi) h3.poss (by omega) ws (by simp; omega) hw2 hw3
      omega

/-- A river whose gains fall: flows up to 1000. -/
structure Riv (fl : List Int) (gs : List (List Int)) : Prop where
  g : OkG gs
  d : ∀ i, i < gs.length → desc (gs.getD i []) = true
  len : fl.length = gs.length
  val : ∀ i, i < fl.length → 0 ≤ fl.getD i 0 ∧ fl.getD i 0 ≤ 1000
theorem Riv.falls {fl : List Int} {gs : List (List Int)} (h : Riv fl gs) : Falls gs := by
  have out : ∀ i k, gs.length ≤ i → (gs.getD i []).getD k 0 = 0 := fun i k hi => by
    rw [show gs.getD i [] = [] from by rw [List.getD_eq_getElem?_getD, List.getElem?_eq_none hi]; rfl]
    simp
  have out2 : ∀ i k, (gs.getD i []).length ≤ k → (gs.getD i []).getD k 0 = 0 := fun i k hi => by
    rw [List.getD_eq_getElem?_getD, List.getElem?_eq_none hi]; rfl
  refine ⟨fun i k => ?_, fun i k => ?_⟩
  · by_cases hi : i < gs.length
    · by_cases hk : k < (gs.getD i []).length
      · exact (h.g.val i hi k hk).1
      · rw [out2 i k (by omega)]; exact Int.le_refl _
    · rw [out i k (by omega)]; exact Int.le_refl _
  · by_cases hi : i < gs.length
    · by_cases hk : k + 1 < (gs.getD i []).length
      · exact desc_iff.1 (h.d i hi) k hk
      · rw [out2 i (k + 1) (by omega)]
        by_cases hk' : k < (gs.getD i []).length
        · exact (h.g.val i hi k hk').1
        · rw [out2 i k (by omega)]; exact Int.le_refl _
    · rw [out i (k + 1) (by omega), out i k (by omega)]; exact Int.le_refl _
theorem riverOk.riv {fl : List Int} {gs : List (List Int)} (h : riverOk fl gs = true) : Riv fl gs := by
  have hR := riverOk.river h
  simp only [riverOk, Bool.and_eq_true, decide_eq_true_eq] at h
  refine ⟨hR.g, fun i hi => ?_, hR.len, fun i hi => by have := hR.val i hi; omega⟩
  have := (all_iff []).1 h.2 i hi
  simp only [gOk, Bool.and_eq_true] at this
  exact this.2
theorem zeros_poss {fl : List Int} (h : ∀ i, i < fl.length → 0 ≤ fl.getD i 0) (n : Nat) (hn : n = fl.length) : poss 0 fl (List.replicate n 0) = true := by
  rw [poss_iff (by simp [hn])]
  intro m hm
  have h1 : pre (List.replicate n (0 : Int)) m ≤ pre fl m := pre_mono (by simp [hn]) (fun i hi => by rw [replicate_getD]; exact h i (by simpa [hn] using hi))
  omega
theorem bestF_poss {fl : List Int} {gs : List (List Int)} : ∀ {k : Nat} {us : List Int}, poss 0 fl us = true → poss 0 fl (bestF fl gs k us) = true
  | 0, us, h => h
  | k + 1, us, h => by
    simp only [bestF]
    rcases pk_spec (fl := fl) (gs := gs) (us := us) gs.length with ⟨h1, h2⟩ | ⟨p, h1, h2, h3, h4⟩
    · rw [decide_eq_true h1]; exact h
    · rw [decide_eq_false (by omega : ¬ pk fl gs us gs.length < 0)]
      have hpt : (pk fl gs us gs.length).toNat = p := by omega
      rw [hpt]
      exact bestF_poss h3.poss
theorem Riv.best_poss {fl : List Int} {gs : List (List Int)} (h : Riv fl gs) : poss 0 fl (bestL fl gs) = true := bestF_poss (zeros_poss (fun i hi => (h.val i hi).1) _ rfl)
theorem Riv.best_key {fl : List Int} {gs : List (List Int)} (h : Riv fl gs) {vs : List Int} (hl : vs.length = fl.length) (h0 : ∀ i, i < vs.length → 0 ≤ vs.getD i 0) (hp : poss 0 fl vs = true) : keyL gs vs ≤ keyL gs (bestL fl gs) :=
  bestF_max h.falls h.len _ _ (by simp [h.len]) (fun i _ => by rw [replicate_getD]; exact Int.le_refl _) (zeros_poss (fun i hi => (h.val i hi).1) _ rfl) (Nat.le_refl _) vs (by simpa using hl) (fun i hi => by rw [replicate_getD]; exact h0 i (by rw [List.length_replicate] at hi; omega)) hp
theorem Riv.best_len {fl : List Int} {gs : List (List Int)} (h : Riv fl gs) : (bestL fl gs).length = fl.length := by have := (bestL_use h.len).len; rw [this, h.len]
theorem Riv.best_val {fl : List Int} {gs : List (List Int)} (h : Riv fl gs) : ∀ i, i < (bestL fl gs).length → 0 ≤ (bestL fl gs).getD i 0 ∧ (bestL fl gs).getD i 0 ≤ (gs.getD i []).length ∧ (bestL fl gs).getD i 0 ≤ 20 := by
  intro i hi
  have hU := bestL_use h.len
  have := hU.val i (by rw [hU.len] at hi; exact hi)
  have h2 := h.g.lens i (by rw [hU.len] at hi; exact hi)
  omega
/-- The best use is worth most; among those that are worth as much it is the least. -/
theorem best_of {fl : List Int} {gs : List (List Int)} (h : Riv fl gs) {vs : List Int} (hl : vs.length = fl.length) (h0 : ∀ i, i < vs.length → 0 ≤ vs.getD i 0 ∧ vs.getD i 0 ≤ 20) (hp : poss 0 fl vs = true) :
    worthL gs vs ≤ val fl gs ∧ (worthL gs vs = val fl gs → lexL (bestL fl gs) ≤ lexL vs) := by
  have h1 := h.best_key hl (fun i hi => (h0 i hi).1) hp
  have h2 := lexL_bound h0
  have h3 := lexL_bound (us := bestL fl gs) (fun i hi => by have := h.best_val i hi; omega)
  simp only [keyL, h.best_len, hl] at h1
  rw [hl] at h2
  have hw := pow_pos fl.length
  have e : worthL gs (bestL fl gs) = val fl gs := rfl
  rw [e] at h1
  constructor
  · refine Classical.byContradiction fun h4 => ?_
    have : (val fl gs + 1) * (21 : Int) ^ fl.length ≤ worthL gs vs * 21 ^ fl.length := Int.mul_le_mul_of_nonneg_right (by omega) (by omega)
    rw [Int.add_mul, Int.one_mul] at this
    omega
  · intro h4
    rw [h4] at h1
    omega
