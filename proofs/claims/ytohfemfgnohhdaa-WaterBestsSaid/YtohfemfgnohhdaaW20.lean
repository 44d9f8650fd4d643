/- The best use of a river is the one with the greatest worth, and of these the lexicographically least one: the mathematics. No condition. -/
import Derived.Test.YtohfemfgnohhdaaW19
namespace Go.Proofs.Ytohfemfgnohhdaa
open Go Go.Vc
set_option linter.unusedVariables false
set_option linter.unusedSimpArgs false

/-- What the places up to number m take. -/
def pre (us : List Int) (m : Nat) : Int := (us.take (m + 1)).sum
theorem pre_zero (u : Int) (us : List Int) : pre (u :: us) 0 = u := by simp [pre]
theorem pre_succ (u : Int) (us : List Int) (m : Nat) : pre (u :: us) (m + 1) = u + pre us m := by simp [pre]
theorem poss_iff : ∀ {fl us : List Int} {l : Int}, us.length = fl.length → (poss l fl us = true ↔ ∀ m, m < us.length → pre us m ≤ l + pre fl m)
  | [], [], l, _ => by simp [poss]
  | f :: fl, u :: us, l, h => by
    have ih := poss_iff (fl := fl) (us := us) (l := l + f - u) (by simpa using h)
    simp only [poss, Bool.and_eq_true, Bool.not_eq_true', decide_eq_false_iff_not, ih]
    constructor
    · rintro ⟨h1, h2⟩ m hm
      cases m with
      | zero => rw [pre_zero, pre_zero]; omega
      | succ m =>
        rw [pre_succ, pre_succ]
        have := h2 m (by simpa using hm)
        omega
    · intro h2
      refine ⟨by have := h2 0 (by simp); rw [pre_zero, pre_zero] at this; omega, fun m hm => ?_⟩
      have := h2 (m + 1) (by simpa using hm)
      rw [pre_succ, pre_succ] at this
      omega
  | [], _ :: _, _, h => by simp at h
  | _ :: _, [], _, h => by simp at h
theorem pre_set : ∀ {us : List Int} {i m : Nat} {a : Int}, i < us.length → pre (us.set i a) m = pre us m + if i ≤ m then a - us.getD i 0 else 0
  | u :: us, 0, m, a, _ => by
    cases m with
    | zero => simp only [List.set_cons_zero, pre_zero, List.getD_cons_zero]; simp; omega
    | succ m => simp only [List.set_cons_zero, pre_succ, List.getD_cons_zero]; simp; omega
  | u :: us, i + 1, m, a, h => by
    cases m with
    | zero => simp [List.set_cons_succ, pre_zero]
    | succ m =>
      simp only [List.set_cons_succ, pre_succ, List.getD_cons_succ]
      rw [pre_set (us := us) (by simpa using h)]
      simp only [Nat.add_le_add_iff_right]
      omega
theorem pre_mono : ∀ {us vs : List Int} {m : Nat}, us.length = vs.length → (∀ i, i < us.length → us.getD i 0 ≤ vs.getD i 0) → pre us m ≤ pre vs m
  | [], [], m, _, _ => Int.le_refl _
  | u :: us, v :: vs, m, h, hle => by
    have h0 := hle 0 (by simp)
    simp only [List.getD_cons_zero] at h0
    cases m with
    | zero => rw [pre_zero, pre_zero]; exact h0
    | succ m =>
      rw [pre_succ, pre_succ]
      have := pre_mono (us := us) (vs := vs) (m := m) (by simpa using h) (fun i hi => by simpa using hle (i + 1) (by simpa using hi))
      omega
  | [], _ :: _, _, h, _ => by simp at h
  | _ :: _, [], _, h, _ => by simp at h
/-- Where two lists differ in what they take up to m, they differ at some place. -/
theorem pre_lt {us vs : List Int} {m : Nat} (hl : us.length = vs.length) (h : pre us m < pre vs m) : ∃ j, j ≤ m ∧ j < us.length ∧ us.getD j 0 < vs.getD j 0 := by
  induction us generalizing vs m with
  | nil =>
    have : vs = [] := List.eq_nil_of_length_eq_zero hl.symm
    subst this
    exact absurd h (by omega)
  | cons u us ih =>
    cases vs with
    | nil => simp at hl
    | cons v vs =>
      by_cases h0 : u < v
      · exact ⟨0, by omega, by simp, by simpa using h0⟩
      · cases m with
        | zero => rw [pre_zero, pre_zero] at h; omega
        | succ m =>
          rw [pre_succ, pre_succ] at h
          obtain ⟨j, h1, h2, h3⟩ := ih (vs := vs) (m := m) (by simpa using hl) (by omega)
          exact ⟨j + 1, by omega, by simpa using h2, by simpa using h3⟩

/-- Uses, as numbers with 21 as base: smaller is lexicographically less. -/
def lexL : List Int → Int
  | [] => 0
  | u :: us => u * (21 : Int) ^ us.length + lexL us
theorem pow_pos (n : Nat) : (0 : Int) < 21 ^ n := Int.pow_pos (by decide)
theorem lexL_set : ∀ {us : List Int} {i : Nat} {a : Int}, i < us.length → lexL (us.set i a) = lexL us + (a - us.getD i 0) * (21 : Int) ^ (us.length - 1 - i)
  | u :: us, 0, a, _ => by
    simp only [List.set_cons_zero, lexL, List.getD_cons_zero, List.length_cons, Nat.add_sub_cancel, Nat.sub_zero, Int.sub_mul]
    omega
  | u :: us, i + 1, a, h => by
    simp only [List.set_cons_succ, lexL, List.getD_cons_succ, List.length_set, List.length_cons]
    rw [lexL_set (us := us) (by simpa using h)]
    rw [show us.length + 1 - 1 - (i + 1) = us.length - 1 - i from by omega]
    omega
theorem lexL_bound : ∀ {us : List Int}, (∀ i, i < us.length → 0 ≤ us.getD i 0 ∧ us.getD i 0 ≤ 20) → 0 ≤ lexL us ∧ lexL us < 21 ^ us.length
  | [], _ => by simp [lexL]
  | u :: us, h => by
    have h0 := h 0 (by simp)
    simp only [List.getD_cons_zero] at h0
    have ih := lexL_bound (us := us) (fun i hi => by simpa using h (i + 1) (by simpa using hi))
    have hp := pow_pos us.length
    simp only [lexL, List.length_cons, Int.pow_succ]
    have h1 : 0 ≤ u * 21 ^ us.length := Int.mul_nonneg h0.1 (by omega)
    have h2 : u * 21 ^ us.length ≤ 20 * 21 ^ us.length := Int.mul_le_mul_of_nonneg_right h0.2 (by omega)
    omega

/-- The gain of one more piece at place i, from k pieces on. -/
def gk (gs : List (List Int)) (i : Nat) (k : Int) : Int := (gs.getD i []).getD k.toNat 0
theorem sum_take_inc (l : List Int) (k : Nat) : (l.take (k + 1)).sum = (l.take k).sum + l.getD k 0 := by
  by_cases h : k < l.length
  · exact sum_take_succ h
  · rw [List.take_of_length_le (by omega), List.take_of_length_le (by omega)]
    simp [List.getD_eq_getElem?_getD, List.getElem?_eq_none (show l.length ≤ k by omega)]
theorem worth_set : ∀ {gs : List (List Int)} {us : List Int} {i : Nat}, us.length = gs.length → i < us.length → 0 ≤ us.getD i 0 → worthL gs (us.set i (us.getD i 0 + 1)) = worthL gs us + gk gs i (us.getD i 0)
  | g :: gs, u :: us, 0, _, _, h => by
    simp only [List.getD_cons_zero] at h
    simp only [List.set_cons_zero, worthL, List.getD_cons_zero, gk]
    rw [show (u + 1).toNat = u.toNat + 1 from by omega, sum_take_inc]
    omega
  | g :: gs, u :: us, i + 1, hl, hi, h => by
    have ih := worth_set (gs := gs) (us := us) (i := i) (by simpa using hl) (by simpa using hi) (by simpa using h)
    simp only [List.set_cons_succ, worthL, List.getD_cons_succ, gk] at ih ⊢
    rw [ih]
    omega
  | [], _ :: _, _, h, _, _ => by simp at h
  | _, [], _, _, h, _ => by simp at h
/-- Worth first, then the order of the uses. -/
def keyL (gs : List (List Int)) (us : List Int) : Int := worthL gs us * 21 ^ us.length - lexL us
def hk (gs : List (List Int)) (n i : Nat) (k : Int) : Int := gk gs i k * 21 ^ n - 21 ^ (n - 1 - i)
theorem key_inc {gs : List (List Int)} {us : List Int} {i : Nat} (hl : us.length = gs.length) (hi : i < us.length) (h : 0 ≤ us.getD i 0) :
    keyL gs (us.set i (us.getD i 0 + 1)) = keyL gs us + hk gs us.length i (us.getD i 0) := by
  simp only [keyL, hk, List.length_set]
  rw [worth_set hl hi h, lexL_set hi, show us.getD i 0 + 1 - us.getD i 0 = 1 from by omega, Int.add_mul, Int.one_mul]
  omega
theorem set_set_back {us : List Int} {j : Nat} (hj : j < us.length) : (us.set j (us.getD j 0 - 1)).set j ((us.set j (us.getD j 0 - 1)).getD j 0 + 1) = us := by
  rw [set_getD hj, if_pos rfl, List.set_set]
  have : us.getD j 0 - 1 + 1 = us.getD j 0 := by omega
  rw [this]
  apply List.ext_getElem?
  intro k
  rw [List.getElem?_set]
  split
  · rename_i e; subst e
    rw [List.getD_eq_getElem?_getD, List.getElem?_eq_getElem hj]; simp [hj]
  · rfl
theorem key_dec {gs : List (List Int)} {us : List Int} {j : Nat} (hl : us.length = gs.length) (hj : j < us.length) (h : 1 ≤ us.getD j 0) :
    keyL gs us = keyL gs (us.set j (us.getD j 0 - 1)) + hk gs us.length j (us.getD j 0 - 1) := by
  have h1 := key_inc (gs := gs) (us := us.set j (us.getD j 0 - 1)) (i := j) (by simpa using hl) (by simpa using hj) (by rw [set_getD hj, if_pos rfl]; omega)
  rw [set_set_back hj, set_getD hj, if_pos rfl, List.length_set] at h1
  exact h1

/-- Gains that fall, from 0 on. -/
structure Falls (gs : List (List Int)) : Prop where
  pos : ∀ i k, 0 ≤ (gs.getD i []).getD k 0
  fall : ∀ i k, (gs.getD i []).getD (k + 1) 0 ≤ (gs.getD i []).getD k 0
theorem Falls.le {gs : List (List Int)} (h : Falls gs) (i : Nat) {k m : Nat} (hkm : k ≤ m) : (gs.getD i []).getD m 0 ≤ (gs.getD i []).getD k 0 := by
  induction hkm with
  | refl => exact Int.le_refl _
  | step _ ih => exact Int.le_trans (h.fall i _) ih
theorem hk_le {gs : List (List Int)} (h : Falls gs) {n i : Nat} {a b : Int} (h0 : 0 ≤ a) (hab : a ≤ b) : hk gs n i b ≤ hk gs n i a := by
  simp only [hk, gk]
  have h1 := h.le i (show a.toNat ≤ b.toNat by omega)
  have h2 := Int.mul_le_mul_of_nonneg_right h1 (Int.le_of_lt (pow_pos n))
  omega

def Le (us vs : List Int) : Prop := ∀ i, i < us.length → us.getD i 0 ≤ vs.getD i 0
/-- No piece gains any more: nothing above is better. -/
theorem no_more {fl : List Int} {gs : List (List Int)} (hF : Falls gs) {us : List Int} (hlu : us.length = gs.length) (hu0 : ∀ i, i < us.length → 0 ≤ us.getD i 0)
    (hno : ∀ j, j < us.length → poss 0 fl (us.set j (us.getD j 0 + 1)) = true → hk gs us.length j (us.getD j 0) ≤ 0) :
    ∀ (d : Nat) (vs : List Int), vs.length = us.length → (vs.sum - us.sum).toNat = d → Le us vs → us.length = fl.length → poss 0 fl vs = true → keyL gs vs ≤ keyL gs us := by
  intro d
  induction d with
  | zero =>
    intro vs hlv hd hle hfl hp
    have : vs = us := by
      apply List.ext_getElem?
      intro i
      have key : ∀ (a b : List Int), a.length = b.length → Le a b → b.sum ≤ a.sum → ∀ i : Nat, b[i]? = a[i]? := by
        intro a
        induction a with
        | nil => intro b h _ _ i; have : b = [] := List.eq_nil_of_length_eq_zero h.symm; rw [this]
        | cons x a ih =>
          intro b h hle hs i
          cases b with
          | nil => simp at h
          | cons y b =>
            have h0 := hle 0 (by simp)
            simp only [List.getD_cons_zero] at h0
            have hle' : Le a b := fun i hi => by simpa using hle (i + 1) (by simpa using hi)
            have hab : a.sum ≤ b.sum := by
              have sm : ∀ (a b : List Int), a.length = b.length → Le a b → a.sum ≤ b.sum := by
                intro a
                induction a with
                | nil => intro b h _; have : b = [] := List.eq_nil_of_length_eq_zero h.symm; rw [this]; exact Int.le_refl _
                | cons x a ih =>
                  intro b h hle
                  cases b with
                  | nil => simp at h
                  | cons y b =>
                    have h0 := hle 0 (by simp)
                    simp only [List.getD_cons_zero] at h0
                    have := ih b (by simpa using h) (fun i hi => by simpa using hle (i + 1) (by simpa using hi))
                    simp only [List.sum_cons]; omega
              exact sm a b (by simpa using h) hle'
            simp only [List.sum_cons] at hs
            cases i with
            | zero => simp; omega
            | succ i => simpa using ih b (by simpa using h) hle' (by omega) i
      exact key us vs hlv.symm hle (by omega) i
    rw [this]
    exact Int.le_refl _
  | succ d ih =>
    intro vs hlv hd hle hfl hp
    have hex : ∃ j, j < us.length ∧ us.getD j 0 < vs.getD j 0 := by
      have hp1 : pre us (us.length) < pre vs (us.length) := by
        simp only [pre]
        rw [List.take_of_length_le (by omega), List.take_of_length_le (by omega)]
        omega
      obtain ⟨j, _, h2, h3⟩ := pre_lt hlv.symm hp1
      exact ⟨j, h2, h3⟩
    obtain ⟨j, hj, hjv⟩ := hex
    have hu := hu0 j hj
    have hle2 : Le us (vs.set j (vs.getD j 0 - 1)) := fun i hi => by
      rw [set_getD (by omega)]
      split
      · rename_i e; rw [e]; omega
      · exact hle i hi
    have hp2 : poss 0 fl (vs.set j (vs.getD j 0 - 1)) = true := poss_mono (Int.le_refl 0) (by simp) (fun i hi => by
      rw [List.length_set] at hi
      rw [set_getD (by omega)]
      split
      · rename_i e; rw [e]; omega
      · exact Int.le_refl _) hp
    have hsum : (vs.set j (vs.getD j 0 - 1)).sum = vs.sum - 1 := by
      have := pre_set (us := vs) (i := j) (m := vs.length) (a := vs.getD j 0 - 1) (by omega)
      simp only [pre] at this
      rw [List.take_of_length_le (by rw [List.length_set]; omega), List.take_of_length_le (by omega), if_pos (by omega)] at this
      omega
    have h1 := ih (vs.set j (vs.getD j 0 - 1)) (by simpa using hlv) (by omega) hle2 hfl hp2
    have h2 := key_dec (gs := gs) (us := vs) (j := j) (by omega) (by omega) (by omega)
    have h3 : poss 0 fl (us.set j (us.getD j 0 + 1)) = true := poss_mono (Int.le_refl 0) (by simp [hlv]) (fun i hi => by
      rw [List.length_set] at hi
      rw [set_getD (by omega)]
      split
      · rename_i e; rw [e]; omega
      · exact hle i hi) hp
    have h4 := hno j hj h3
    have h5 := hk_le hF (n := us.length) (i := j) hu (show us.getD j 0 ≤ vs.getD j 0 - 1 by omega)
    rw [hlv] at h2
    omega

/-- The exchange: whoever has more, and not the piece that is taken, loses nothing by it. -/
theorem exchange {fl : List Int} {gs : List (List Int)} (hF : Falls gs) {us vs : List Int} {i : Nat} (hlu : us.length = gs.length) (hfl : us.length = fl.length) (hu0 : ∀ i, i < us.length → 0 ≤ us.getD i 0) (hi : i < us.length)
    (hpi : poss 0 fl (us.set i (us.getD i 0 + 1)) = true) (hpos : 0 ≤ hk gs us.length i (us.getD i 0))
    (hmax : ∀ j, j < us.length → poss 0 fl (us.set j (us.getD j 0 + 1)) = true → hk gs us.length j (us.getD j 0) ≤ hk gs us.length i (us.getD i 0))
    (hlv : vs.length = us.length) (hle : Le us vs) (hp : poss 0 fl vs = true) :
    ∃ ws : List Int, ws.length = us.length ∧ Le (us.set i (us.getD i 0 + 1)) ws ∧ poss 0 fl ws = true ∧ keyL gs vs ≤ keyL gs ws := by
  by_cases hvi : us.getD i 0 < vs.getD i 0
  · refine ⟨vs, hlv, fun j hj => ?_, hp, Int.le_refl _⟩
    rw [List.length_set] at hj
    rw [set_getD hi]
    split
    · rename_i e; rw [e]; omega
    · exact hle j hj
  · have hvu : vs.getD i 0 = us.getD i 0 := by have := hle i hi; omega
    have hui := hu0 i hi
    have hk1 := key_inc (gs := gs) (us := vs) (i := i) (by omega) (by omega) (by omega)
    rw [hvu, hlv] at hk1
    have leI : Le (us.set i (us.getD i 0 + 1)) (vs.set i (us.getD i 0 + 1)) := fun j hj => by
      rw [List.length_set] at hj
      rw [set_getD hi, set_getD (by omega)]
      split
      · exact Int.le_refl _
      · exact hle j hj
    by_cases hpv : poss 0 fl (vs.set i (us.getD i 0 + 1)) = true
    · exact ⟨_, by simpa using hlv, leI, hpv, by omega⟩
    · -- a first place, from i on, where nothing is left
      have hpv' : ∃ m, m < vs.length ∧ i ≤ m ∧ pre vs m = pre fl m := by
        rw [poss_iff (by simp; omega)] at hpv
        rw [poss_iff (by omega)] at hp
        have ⟨m, hm⟩ : ∃ m, ¬ (m < vs.length → pre (vs.set i (us.getD i 0 + 1)) m ≤ 0 + pre fl m) := by
          refine Classical.byContradiction fun h => hpv fun m hm => ?_
          rw [List.length_set] at hm
          exact Classical.byContradiction fun h' => h ⟨m, fun h'' => h' (h'' hm)⟩
        have hm1 : m < vs.length := Classical.byContradiction fun h => hm fun h' => absurd h' h
        have hm2 : ¬ pre (vs.set i (us.getD i 0 + 1)) m ≤ 0 + pre fl m := fun h => hm fun _ => h
        rw [pre_set (by omega), hvu] at hm2
        have hm3 := hp m hm1
        split at hm2
        · exact ⟨m, hm1, by assumption, by omega⟩
        · omega
      have hfirst : ∃ m, m < vs.length ∧ i ≤ m ∧ pre vs m = pre fl m ∧ ∀ q, i ≤ q → q < m → pre vs q ≠ pre fl q := by
        obtain ⟨m, h1, h2, h3⟩ := hpv'
        induction m using Nat.strongRecOn with
        | ind m ih =>
          by_cases h : ∃ q, i ≤ q ∧ q < m ∧ pre vs q = pre fl q
          · obtain ⟨q, h4, h5, h6⟩ := h
            exact ih q h5 (by omega) h4 h6
          · exact ⟨m, h1, h2, h3, fun q h4 h5 h6 => h ⟨q, h4, h5, h6⟩⟩
      obtain ⟨m, hm1, hm2, hm3, hm4⟩ := hfirst
      have hpi' := (poss_iff (by simp; omega)).1 hpi
      have hp' := (poss_iff (by omega)).1 hp
      have h1 := hpi' m (by rw [List.length_set]; omega)
      rw [pre_set hi, if_pos hm2] at h1
      obtain ⟨j, hj1, hj2, hj3⟩ := pre_lt (us := us) (vs := vs) (m := m) hlv.symm (by omega)
      have hij : i ≠ j := fun e => by rw [e] at hvu; omega
      have huj := hu0 j hj2
      -- one piece goes from j to i
      let ws := (vs.set j (vs.getD j 0 - 1)).set i (us.getD i 0 + 1)
      have hwl : ws.length = us.length := by simp [ws, hlv]
      have hgi : (vs.set j (vs.getD j 0 - 1)).getD i 0 = us.getD i 0 := by rw [set_getD (by omega), if_neg hij, hvu]
      have hkd := key_dec (gs := gs) (us := vs) (j := j) (by omega) (by omega) (by omega)
      have hki := key_inc (gs := gs) (us := vs.set j (vs.getD j 0 - 1)) (i := i) (by simp; omega) (by simp; omega) (by rw [hgi]; omega)
      rw [hgi, List.length_set, hlv] at hki
      rw [hlv] at hkd
      have hpj : poss 0 fl (us.set j (us.getD j 0 + 1)) = true := poss_mono (Int.le_refl 0) (by simp [hlv]) (fun q hq => by
        rw [List.length_set] at hq
        rw [set_getD (by omega)]
        split
        · rename_i e; rw [e]; omega
        · exact hle q hq) hp
      have h2 := hmax j hj2 hpj
      have h3 := hk_le hF (n := us.length) (i := j) huj (show us.getD j 0 ≤ vs.getD j 0 - 1 by omega)
      refine ⟨ws, hwl, fun q hq => ?_, ?_, by show _ ≤ keyL gs ws; simp only [ws]; omega⟩
      · rw [List.length_set] at hq
        rw [set_getD hi]
        simp only [ws]
        rw [set_getD (by simp; omega)]
        split
        · exact Int.le_refl _
        · rw [set_getD (by omega)]
          split
          · rename_i e; rw [e]; omega
          · exact hle q hq
      · rw [poss_iff (by omega)]
        intro q hq
        simp only [ws]
        rw [pre_set (by simp; omega), pre_set (by omega), hgi]
        have h4 := hp' q (by omega)
        by_cases hqi : i ≤ q
        · rw [if_pos hqi]
          by_cases hqj : j ≤ q
          · rw [if_pos hqj]; omega
          · rw [if_neg hqj]
            have := hm4 q hqi (by omega)
            omega
        · rw [if_neg hqi]
          split <;> omega
