/- Joined of: Sd1 Sd2 S29 Sa1 Sa2 S20 S21 S22 S23 S24 Sm8 S16 S17 Se3 Se4. No condition. -/
import Derived.Test.YtdfajcfkdfjoeaaJ5
import Derived.Test.YtdfajcfkdfjoeaaJ4
import Derived.WalkKit
import Derived.Lib.AppendZerosOnto
import Derived.Lib.Walk
import Derived.Lib.SliceRun

namespace Go.Scr
set_option linter.unusedVariables false
set_option linter.unusedSimpArgs false
def wt (e : Nat → Nat → Bool) (s : List Int) (x z : Nat) : Int := if e x z = true then 1 - s.getD x 0 else s.getD x 0
def Valid (n : Nat) (g e : Nat → Nat → Bool) (d : Nat → Bool) : Prop := ∀ x y, x < n → y < n → g x y = true → (d x ^^ d y) = e x y
def Clo (n : Nat) (g e : Nat → Nat → Bool) (s : List Int) : Prop := ∀ x z, x < n → z < n → 0 ≤ s.getD x 0 → g x z = true → 0 ≤ s.getD z 0 ∧ s.getD z 0 = wt e s x z
structure Vals (n : Nat) (s : List Int) : Prop where
  len : s.length = n
  val : ∀ x, x < n → s.getD x 0 = -1 ∨ s.getD x 0 = 0 ∨ s.getD x 0 = 1
structure Rd (n : Nat) (g e : Nat → Nat → Bool) (s0 s : List Int) (H : List Int) (k y : Nat) : Prop where
  va : Vals n s
  old : ∀ x, x < n → 0 ≤ s0.getD x 0 → s.getD x 0 = s0.getD x 0
  new : ∀ x, x < n → 0 ≤ s.getD x 0 → 0 ≤ s0.getD x 0 ∨ (x : Int) ∈ H
  mem : ∀ x ∈ H, 0 ≤ x ∧ x < n ∧ s0.getD x.toNat 0 < 0 ∧ 0 ≤ s.getD x.toNat 0
  nd : H.Nodup
  kl : k ≤ H.length
  don : ∀ i x z, i < k → H.getD i 0 = ((x : Nat) : Int) → z < n → g x z = true → 0 ≤ s.getD z 0 ∧ s.getD z 0 = wt e s x z
  par : ∀ x z, k < H.length → H.getD k 0 = ((x : Nat) : Int) → z < y → z < n → g x z = true → 0 ≤ s.getD z 0 ∧ s.getD z 0 = wt e s x z
  con : ∀ d, Valid n g e d → ∃ c : Bool, ∀ x : Nat, (x : Int) ∈ H → d x = (decide (s.getD x 0 = 1) ^^ c)
theorem set_get {s : List Int} {i j : Nat} {v : Int} (h : i < s.length) : (s.set i v).getD j 0 = if j = i then v else s.getD j 0 := by
  simp only [List.getD_eq_getElem?_getD]
  by_cases e : j = i
  · subst e; rw [if_pos rfl, List.getElem?_set_self h]; rfl
  · rw [if_neg e, List.getElem?_set_ne (Ne.symm e)]
theorem Vals.set {n : Nat} {s : List Int} (h : Vals n s) {f : Nat} (hf : f < n) {v : Int} (hv : v = 0 ∨ v = 1) : Vals n (s.set f v) := by
  refine ⟨by rw [List.length_set]; exact h.len, fun x hx => ?_⟩
  rw [set_get (by rw [h.len]; exact hf)]
  split
  · rcases hv with h | h <;> simp [h]
  · exact h.val x hx
theorem Rd.init {n : Nat} {g e : Nat → Nat → Bool} {s0 : List Int} (h : Vals n s0) {f : Nat} (hf : f < n) (hs : s0.getD f 0 < 0) : Rd n g e s0 (s0.set f 0) [(f : Int)] 0 0 := by
  have hfl : f < s0.length := by rw [h.len]; exact hf
  refine ⟨h.set hf (.inl rfl), fun x hx h0 => ?_, fun x hx h0 => ?_, fun x hx => ?_, by simp, by simp, fun i x z hi => by omega, fun x z hk hx hz => by omega, fun d hd => ⟨d f, fun x hx => ?_⟩⟩
  · rw [set_get hfl, if_neg (by rintro rfl; omega)]
  · rw [set_get hfl] at h0
    split at h0
    · rename_i e; subst e; exact .inr (by simp)
    · exact .inl h0
  · simp at hx; subst hx
    refine ⟨by omega, by omega, by simpa using hs, ?_⟩
    rw [Int.toNat_natCast, set_get hfl, if_pos rfl]; omega
  · simp at hx
    have : x = f := by omega
    subst this
    rw [set_get hfl, if_pos rfl]; simp
theorem Rd.len {n : Nat} {g e : Nat → Nat → Bool} {s0 s H : List Int} {k y : Nat} (h : Rd n g e s0 s H k y) : H.length ≤ n := by
  have := nodup_lt (n := n) (l := H.map Int.toNat) ?_ fun x hx => ?_
  · simpa using this
  · rw [List.nodup_iff_pairwise_ne, List.pairwise_map]
    refine List.Pairwise.imp_of_mem (fun {a b} ha hb hab => ?_) (List.nodup_iff_pairwise_ne.1 h.nd)
    have := h.mem a ha; have := h.mem b hb; omega
  · obtain ⟨a, ha, rfl⟩ := List.mem_map.1 hx
    have := h.mem a ha; omega
theorem Rd.at {n : Nat} {g e : Nat → Nat → Bool} {s0 s H : List Int} {k y : Nat} (h : Rd n g e s0 s H k y) (hk : k < H.length) : ∃ x : Nat, H.getD k 0 = (x : Int) ∧ x < n ∧ (s.getD x 0 = 0 ∨ s.getD x 0 = 1) ∧ s0.getD x 0 < 0 ∧ (x : Int) ∈ H := by
  have hm := mem_getD hk
  have := h.mem _ hm
  refine ⟨(H.getD k 0).toNat, by omega, by omega, ?_, this.2.2.1, ?_⟩
  · have hv := h.va.val (H.getD k 0).toNat (by omega); omega
  · rw [Int.toNat_of_nonneg this.1]; exact hm
theorem Rd.skip {n : Nat} {g e : Nat → Nat → Bool} {s0 s H : List Int} {k y x : Nat} (h : Rd n g e s0 s H k y) (hx : H.getD k 0 = (x : Int)) (hg : g x y = true → 0 ≤ s.getD y 0 ∧ s.getD y 0 = wt e s x y) : Rd n g e s0 s H k (y + 1) := by
  refine ⟨h.va, h.old, h.new, h.mem, h.nd, h.kl, h.don, fun x' z hk hx' hz hn hgz => ?_, h.con⟩
  have : x' = x := by omega
  subst this
  by_cases e : z = y
  · subst e; exact hg hgz
  · exact h.par x' z hk hx' (by omega) hn hgz
theorem Rd.put {n : Nat} {g e : Nat → Nat → Bool} {s0 s H : List Int} {k y x : Nat} (h : Rd n g e s0 s H k y) (hk : k < H.length) (hx : H.getD k 0 = (x : Int)) (hy : y < n) (hg : g x y = true) (hs : s.getD y 0 < 0) :
    Rd n g e s0 (s.set y (wt e s x y)) (H ++ [(y : Int)]) k (y + 1) := by
  obtain ⟨x', hx', hxn, hxv, hx0, hxm⟩ := h.at hk
  have : x' = x := by omega
  subst this
  have hyl : y < s.length := by rw [h.va.len]; exact hy
  have hw : wt e s x' y = 0 ∨ wt e s x' y = 1 := by unfold wt; split <;> rcases hxv with h | h <;> omega
  have ho : s0.getD y 0 < 0 := by
    refine Int.not_le.1 fun h0 => ?_
    have := h.old y hy h0; omega
  have hyH : ¬ (y : Int) ∈ H := fun hm => by have := h.mem _ hm; rw [Int.toNat_natCast] at this; omega
  have hne : ∀ z : Nat, 0 ≤ s.getD z 0 → z ≠ y := fun z hz e => by subst e; omega
  have hst : ∀ z, 0 ≤ s.getD z 0 → (s.set y (wt e s x' y)).getD z 0 = s.getD z 0 := fun z hz => by rw [set_get hyl, if_neg (hne z hz)]
  have hwt : ∀ a z, 0 ≤ s.getD a 0 → wt e (s.set y (wt e s x' y)) a z = wt e s a z := fun a z ha => by
    have h1 := hst a ha
    unfold wt at h1 ⊢; rw [h1]
  have hgd : ∀ i, i < H.length → (H ++ [(y : Int)]).getD i 0 = H.getD i 0 := fun i hi => by rw [getD_app, if_pos hi]
  have hgx : ∀ i (a : Nat), i < H.length → H.getD i 0 = (a : Int) → 0 ≤ s.getD a 0 := fun i a hi ha => by
    have := h.mem _ (mem_getD hi); rw [ha, Int.toNat_natCast] at this; exact this.2.2.2
  refine ⟨h.va.set hy hw, fun a ha h0 => ?_, fun a ha h0 => ?_, fun a ha => ?_, ?_, by simp; have := h.kl; omega, fun i a z hi ha hz hgz => ?_, fun a z _ ha hz hzn hgz => ?_, fun d hd => ?_⟩
  · have h1 := h.old a ha h0
    rw [hst a (by omega), h1]
  · rw [set_get hyl] at h0
    split at h0
    · rename_i e1; subst e1; exact .inr (by simp)
    · rcases h.new a ha h0 with h | h
      · exact .inl h
      · exact .inr (by simp [h])
  · rcases List.mem_append.1 ha with ha | ha
    · have := h.mem a ha
      refine ⟨this.1, this.2.1, this.2.2.1, ?_⟩
      rw [hst _ this.2.2.2]; exact this.2.2.2
    · simp at ha; subst ha
      refine ⟨by omega, by omega, by simpa using ho, ?_⟩
      rw [Int.toNat_natCast, set_get hyl, if_pos rfl]; omega
  · rw [List.nodup_append]
    refine ⟨h.nd, by simp, fun a ha b hb => ?_⟩
    simp at hb; subst hb
    rintro rfl; exact hyH ha
  · have hil : i < H.length := by have := h.kl; omega
    rw [hgd i hil] at ha
    have hz1 := h.don i a z hi ha hz hgz
    rw [hst z hz1.1, hwt a z (hgx i a hil ha)]; exact hz1
  · rw [hgd k hk] at ha
    have : a = x' := by omega
    subst this
    rw [hwt a z (by omega)]
    by_cases e1 : z = y
    · subst e1; rw [set_get hyl, if_pos rfl]; exact ⟨by omega, rfl⟩
    · have hz1 := h.par a z hk ha (by omega) hzn hgz
      rw [hst z hz1.1]; exact hz1
  · obtain ⟨c, hc⟩ := h.con d hd
    refine ⟨c, fun a ha => ?_⟩
    rcases List.mem_append.1 ha with ha | ha
    · have := h.mem _ ha; rw [Int.toNat_natCast] at this
      rw [hst a this.2.2.2]; exact hc a ha
    · simp at ha
      have : a = y := by omega
      subst this
      rw [set_get hyl, if_pos rfl]
      have h1 := hc x' hxm
      have h2 := hd x' a hxn hy hg
      have h3 : decide (wt e s x' a = 1) = (decide (s.getD x' 0 = 1) ^^ e x' a) := by
        unfold wt
        cases e x' a <;> rcases hxv with h | h <;> rw [h] <;> decide
      rw [h3]
      revert h1 h2
      generalize d x' = p; generalize d a = q; generalize e x' a = r; generalize decide (s.getD x' 0 = 1) = t
      cases p <;> cases q <;> cases r <;> cases t <;> cases c <;> simp
theorem Rd.next {n : Nat} {g e : Nat → Nat → Bool} {s0 s H : List Int} {k : Nat} (h : Rd n g e s0 s H k n) (hk : k < H.length) : Rd n g e s0 s H (k + 1) 0 := by
  refine ⟨h.va, h.old, h.new, h.mem, h.nd, hk, fun i x z hi hx hz hg => ?_, fun x z _ _ hz => by omega, h.con⟩
  by_cases e : i = k
  · subst e; exact h.par x z hk hx hz hz hg
  · exact h.don i x z (by omega) hx hz hg
theorem Rd.done {n : Nat} {g e : Nat → Nat → Bool} {s0 s H : List Int} {y : Nat} (h : Rd n g e s0 s H H.length y) (h0 : Clo n g e s0) : Clo n g e s := fun x z hx hz hs hg => by
  rcases h.new x hx hs with h1 | h1
  · have h2 := h0 x z hx hz h1 hg
    have h3 := h.old z hz h2.1
    have h4 := h.old x hx h1
    rw [h3, h2.2]
    unfold wt at *
    rw [h4]; exact ⟨h2.2 ▸ h2.1, rfl⟩
  · obtain ⟨i, hi, hgi⟩ := getD_mem h1
    exact h.don i x z hi hgi hz hg
theorem Rd.bad {n : Nat} {g e : Nat → Nat → Bool} (hsy : ∀ x y, x < n → y < n → g x y = true → g y x = true) {s0 s H : List Int} {k y x : Nat} (h : Rd n g e s0 s H k y) (h0 : Clo n g e s0) (hk : k < H.length) (hx : H.getD k 0 = (x : Int)) (hy : y < n) (hg : g x y = true) (hs : 0 ≤ s.getD y 0) (hw : ¬ s.getD y 0 = wt e s x y)
    (d : Nat → Bool) (hd : Valid n g e d) : False := by
  obtain ⟨x', hx', hxn, hxv, hx0, hxm⟩ := h.at hk
  have : x' = x := by omega
  subst this
  rcases h.new y hy hs with h1 | h1
  · have := h0 y x' hy hxn h1 (hsy x' y hxn hy hg); omega
  · obtain ⟨c, hc⟩ := h.con d hd
    have h1 := hc x' hxm
    have h2 := hc y ‹_›
    have h3 := hd x' y hxn hy hg
    have hyv := h.va.val y hy
    apply hw
    have hyv' : s.getD y 0 = 0 ∨ s.getD y 0 = 1 := by omega
    unfold wt
    rw [h1, h2] at h3
    rw [← h3]
    rcases hxv with h | h <;> rcases hyv' with h' | h' <;> rw [h, h'] <;> cases c <;> simp
theorem Clo.valid {n : Nat} {g e : Nat → Nat → Bool} {s : List Int} (h : Clo n g e s) (hv : Vals n s) (ha : ∀ x, x < n → 0 ≤ s.getD x 0) : Valid n g e fun x => decide (s.getD x 0 = 1) := fun x y hx hy hg => by
  have h1 := (h x y hx hy (ha x hx) hg).2
  have h2 := hv.val x hx; have h3 := hv.val y hy
  have h4 := ha x hx; have h5 := ha y hy
  have hx' : s.getD x 0 = 0 ∨ s.getD x 0 = 1 := by omega
  have hy' : s.getD y 0 = 0 ∨ s.getD y 0 = 1 := by omega
  dsimp only
  unfold wt at h1
  generalize e x y = r at h1 ⊢
  cases r <;> rcases hx' with h | h <;> rcases hy' with h' | h' <;> rw [h, h'] at h1 ⊢ <;> simp at h1 ⊢
end Go.Scr
namespace Go.Scr
set_option linter.unusedVariables false
set_option linter.unusedSimpArgs false
set_option linter.unusedSectionVars false
theorem inter_self {w : List Int} {a : Int} : interT w a a = false := by simp [interT]
theorem inter_symm {w : List Int} {n : Nat} (h : Word w n) {a b : Nat} (ha : a < n) (hb : b < n) : interT w a b = interT w b a := by
  by_cases e : a = b
  · subst e; rfl
  · obtain ⟨p, q, hpq, hq, hA, hp1, hq1, hallA⟩ := h.places ha
    obtain ⟨r, s, hrs, hs, hB, hr1, hs1, hallB⟩ := h.places hb
    rw [inter_places h ha hb hA hB hpq hq hrs hs hp1 hq1 hr1 hs1 hallB, inter_places h hb ha hB hA hrs hs hpq hq hr1 hs1 hp1 hq1 hallA]
    have e1 : (a : Int) ≠ b := by omega
    have e2 : (b : Int) ≠ a := by omega
    rw [decide_eq_true e1, decide_eq_true e2, Bool.true_and, Bool.true_and]
    have k1 : p ≠ r := by rintro rfl; omega
    have k2 : p ≠ s := by rintro rfl; omega
    have k3 : q ≠ r := by rintro rfl; omega
    have k4 : q ≠ s := by rintro rfl; omega
    by_cases c1 : p < r <;> by_cases c2 : r < q <;> by_cases c3 : p < s <;> by_cases c4 : s < q <;>
      by_cases d1 : r < p <;> by_cases d2 : p < s <;> by_cases d3 : r < q <;> by_cases d4 : q < s <;>
      first | (exfalso; omega) | simp [c1, c2, c3, c4, d1, d2, d3, d4]
def cmnK (w : List Int) (x y : Nat) : Nat → Nat
  | 0 => 0
  | k + 1 => cmnK w x y k + if (interT w x k && interT w y k) = true then 1 else 0
theorem cmnK_le {w : List Int} {x y : Nat} : ∀ {k : Nat}, cmnK w x y k ≤ k
  | 0 => Nat.le_refl _
  | k + 1 => by rw [cmnK]; have := cmnK_le (w := w) (x := x) (y := y) (k := k); split <;> omega
theorem cmnK_symm {w : List Int} {x y : Nat} : ∀ {k : Nat}, cmnK w x y k = cmnK w y x k
  | 0 => rfl
  | k + 1 => by rw [cmnK, cmnK, cmnK_symm, Bool.and_comm]
theorem cmnK_yes {w : List Int} {x y k : Nat} (h : (interT w x k && interT w y k) = true) : cmnK w x y (k + 1) = cmnK w x y k + 1 := by rw [cmnK, if_pos h]
theorem cmnK_no {w : List Int} {x y k : Nat} (h : (interT w x k && interT w y k) = false) : cmnK w x y (k + 1) = cmnK w x y k := by rw [cmnK, h]; rfl
def gD (w : List Int) (x y : Nat) : Bool := interT w x y
def eD (w : List Int) (n x y : Nat) : Bool := decide (cmnK w x y n % 2 = 0)
def C1 (w : List Int) (n a : Nat) : Prop := cmnK w a a n % 2 = 0
def C2 (w : List Int) (n a b : Nat) : Prop := interT w a b = false → cmnK w a b n % 2 = 0
def DrawnP (w : List Int) (n : Nat) : Prop := (∀ a, a < n → C1 w n a) ∧ (∀ a b, b < a → a < n → C2 w n a b) ∧ ∃ d, Valid n (gD w) (eD w n) d
noncomputable def drawnB (w : List Int) (n : Nat) : Bool := @decide (DrawnP w n) (Classical.propDecidable _)
theorem drawnB_yes {w : List Int} {n : Nat} (h : DrawnP w n) : drawnB w n = true := @decide_eq_true _ (Classical.propDecidable _) h
theorem drawnB_no {w : List Int} {n : Nat} (h : ¬ DrawnP w n) : drawnB w n = false := @decide_eq_false _ (Classical.propDecidable _) h
theorem wt_eD {w : List Int} {n x y : Nat} {s : List Int} (h : s.getD x 0 = 0 ∨ s.getD x 0 = 1) : (s.getD x 0 + 1 + (cmnK w x y n : Int)).tmod 2 = wt (eD w n) s x y := by
  unfold wt eD
  rw [Int.tmod_eq_emod_of_nonneg (by omega)]
  by_cases e : cmnK w x y n % 2 = 0
  · rw [if_pos (by simpa using e)]; omega
  · rw [if_neg (by simpa using e)]; omega
theorem gD_symm {w : List Int} {n : Nat} (h : Word w n) : ∀ x y, x < n → y < n → gD w x y = true → gD w y x = true := fun x y hx hy hg => by
  unfold gD at *; rw [inter_symm h hy hx]; exact hg
theorem gD_self {w : List Int} {x : Nat} : gD w x x = false := inter_self
end Go.Scr
namespace Go.Proofs.Ytdfajcfkdfjoeaa
open Go Go.Vc Go.Scr
set_option linter.unusedVariables false
set_option linter.unusedSimpArgs false
/-! ### The list of pairs -/
theorem rowP_mem {w : List Int} {a : Nat} : ∀ {b : Nat} {x : Int × Int × Unit}, x ∈ rowP w a b ↔ ∃ c : Nat, a < c ∧ c < b ∧ interT w a c = true ∧ x = ((a : Int), (c : Int), ())
  | 0, x => by simp [rowP]
  | b + 1, x => by
    rw [rowP]
    constructor
    · intro h
      split at h
      · rename_i e
        rcases List.mem_append.1 h with h | h
        · obtain ⟨c, h1, h2, h3, h4⟩ := rowP_mem.1 h; exact ⟨c, h1, by omega, h3, h4⟩
        · simp at h; exact ⟨b, e.1, by omega, e.2, h⟩
      · obtain ⟨c, h1, h2, h3, h4⟩ := rowP_mem.1 h; exact ⟨c, h1, by omega, h3, h4⟩
    · rintro ⟨c, h1, h2, h3, h4⟩
      by_cases e : c = b
      · subst e; rw [if_pos ⟨h1, h3⟩]; simp [h4]
      · have := (rowP_mem (w := w) (a := a) (b := b) (x := x)).2 ⟨c, h1, by omega, h3, h4⟩
        split
        · exact List.mem_append.2 (.inl this)
        · exact this
theorem pairsK_mem {w : List Int} {n : Nat} : ∀ {k : Nat} {x : Int × Int × Unit}, x ∈ pairsK w n k ↔ ∃ a c : Nat, a < k ∧ a < c ∧ c < n ∧ interT w a c = true ∧ x = ((a : Int), (c : Int), ())
  | 0, x => by simp [pairsK]
  | k + 1, x => by
    rw [pairsK, List.mem_append, pairsK_mem, rowP_mem]
    constructor
    · rintro (⟨a, c, h1, h2⟩ | ⟨c, h1, h2⟩)
      · exact ⟨a, c, by omega, h2⟩
      · exact ⟨k, c, by omega, h1, h2⟩
    · rintro ⟨a, c, h1, h2⟩
      by_cases e : a = k
      · subst e; exact .inr ⟨c, h2⟩
      · exact .inl ⟨a, c, by omega, h2⟩
theorem pairs_at {w : List Int} {n i : Nat} (hi : i < (pairsK w n n).length) : ∃ a c : Nat, a < c ∧ c < n ∧ interT w a c = true ∧ (pairsK w n n).getD i (0, 0, ()) = ((a : Int), (c : Int), ()) := by
  have hm : (pairsK w n n).getD i (0, 0, ()) ∈ pairsK w n n := by
    have : (pairsK w n n).getD i (0, 0, ()) = (pairsK w n n)[i] := by simp [List.getD, hi]
    rw [this]; exact List.getElem_mem hi
  obtain ⟨a, c, _, h2, h3, h4, h5⟩ := pairsK_mem.1 hm
  exact ⟨a, c, h2, h3, h4, h5⟩
theorem pairs_of {w : List Int} {n a c : Nat} (h1 : a < c) (h2 : c < n) (h3 : interT w a c = true) : ∃ i, i < (pairsK w n n).length ∧ (pairsK w n n).getD i (0, 0, ()) = ((a : Int), (c : Int), ()) := by
  have hm : ((a : Int), (c : Int), ()) ∈ pairsK w n n := pairsK_mem.2 ⟨a, c, by omega, h1, h2, h3, rfl⟩
  obtain ⟨i, hi, e⟩ := List.mem_iff_getElem.1 hm
  exact ⟨i, hi, by simp [List.getD, hi, e]⟩
/-! ### Sets as numbers -/
def setOf (d : Nat → Bool) : Nat → Nat
  | 0 => 0
  | k + 1 => setOf d k + if d k = true then 2 ^ k else 0
theorem setOf_lt {d : Nat → Bool} : ∀ {k : Nat}, setOf d k < 2 ^ k
  | 0 => by simp [setOf]
  | k + 1 => by have := setOf_lt (d := d) (k := k); rw [setOf, Nat.pow_succ]; split <;> omega
theorem bit_add {s c k x : Nat} (hx : x < k) : bitT (s + 2 ^ k * c) x = bitT s x := by
  unfold bitT
  obtain ⟨m, hm⟩ : ∃ m, k = x + (m + 1) := ⟨k - x - 1, by omega⟩
  have : 2 ^ k * c = 2 ^ x * (2 * (2 ^ m * c)) := by
    rw [hm, Nat.pow_add, Nat.pow_succ, Nat.mul_assoc, Nat.mul_comm (2 ^ m) 2, Nat.mul_assoc]
  rw [this, Nat.add_mul_div_left _ _ (Nat.two_pow_pos x)]
  omega
theorem setOf_bit {d : Nat → Bool} : ∀ {k x : Nat}, x < k → bitT (setOf d k) x = (d x).toNat
  | k + 1, x, hx => by
    rw [setOf]
    have he : (if d k = true then 2 ^ k else 0) = 2 ^ k * (d k).toNat := by cases d k <;> simp
    rw [he]
    by_cases e : x = k
    · subst e
      have h1 := setOf_lt (d := d) (k := x)
      unfold bitT
      rw [Nat.add_mul_div_left _ _ (Nat.two_pow_pos x), Nat.div_eq_of_lt h1, Nat.zero_add]
      cases d x <;> rfl
    · rw [bit_add (by omega)]; exact setOf_bit (by omega)
def apT (P : List (Int × Int × Unit)) (z i : Nat) : Bool := bitT z (P.getD i (0, 0, ())).1.toNat != bitT z (P.getD i (0, 0, ())).2.1.toNat
def evT (w : List Int) (n : Nat) (P : List (Int × Int × Unit)) (i : Nat) : Bool := decide ((cmnK w (P.getD i (0, 0, ())).1.toNat (P.getD i (0, 0, ())).2.1.toNat n : Int).tmod 2 = 0)
theorem valid_of {w : List Int} {n : Nat} (h : Word w n) {z : Nat} (hz : ∀ i, i < (pairsK w n n).length → apT (pairsK w n n) z i = evT w n (pairsK w n n) i) : ∃ d, Valid n (gD w) (eD w n) d := by
  have key : ∀ x y, x < y → y < n → gD w x y = true → (decide (bitT z x = 1) ^^ decide (bitT z y = 1)) = eD w n x y := fun x y hxy hy hg => by
    obtain ⟨i, hi, he⟩ := pairs_of hxy hy hg
    have h1 := hz i hi
    unfold apT evT at h1
    rw [he] at h1
    dsimp only at h1
    rw [Int.toNat_natCast, Int.toNat_natCast, Int.tmod_eq_emod_of_nonneg (by omega)] at h1
    unfold eD
    have b1 := bitT_le (k := z) (j := x); have b2 := bitT_le (k := z) (j := y)
    have h2 : decide (((cmnK w x y n : Nat) : Int) % 2 = 0) = decide (cmnK w x y n % 2 = 0) := by rw [decide_eq_decide]; omega
    rw [h2] at h1
    rw [← h1]
    have c1 : bitT z x = 0 ∨ bitT z x = 1 := by omega
    have c2 : bitT z y = 0 ∨ bitT z y = 1 := by omega
    rcases c1 with c1 | c1 <;> rcases c2 with c2 | c2 <;> rw [c1, c2] <;> decide
  refine ⟨fun x => decide (bitT z x = 1), fun x y hx hy hg => ?_⟩
  rcases Nat.lt_trichotomy x y with hxy | hxy | hxy
  · exact key x y hxy hy hg
  · subst hxy; rw [gD_self] at hg; cases hg
  · have := key y x hxy hx (gD_symm h x y hx hy hg)
    rw [Bool.xor_comm, this]
    unfold eD
    rw [cmnK_symm]
theorem of_valid {w : List Int} {n : Nat} {d : Nat → Bool} (hd : Valid n (gD w) (eD w n) d) : ∀ i, i < (pairsK w n n).length → apT (pairsK w n n) (setOf d n) i = evT w n (pairsK w n n) i := fun i hi => by
  obtain ⟨a, c, h1, h2, h3, h4⟩ := pairs_at hi
  unfold apT evT
  rw [h4]
  dsimp only
  rw [Int.toNat_natCast, Int.toNat_natCast, setOf_bit (by omega), setOf_bit h2, Int.tmod_eq_emod_of_nonneg (by omega)]
  have h5 := hd a c (by omega) h2 h3
  unfold eD at h5
  have h6 : decide (((cmnK w a c n : Nat) : Int) % 2 = 0) = decide (cmnK w a c n % 2 = 0) := by rw [decide_eq_decide]; omega
  rw [h6, ← h5]
  cases d a <;> cases d c <;> rfl
end Go.Proofs.Ytdfajcfkdfjoeaa
namespace Go.Scr
set_option linter.unusedVariables false
set_option linter.unusedSimpArgs false
def lessL : List Int → List Int → Bool
  | _, [] => false
  | [], _ :: _ => true
  | x :: a, y :: b => if x = y then lessL a b else decide (x < y)
theorem lessL_irr : ∀ {a : List Int}, lessL a a = false
  | [] => rfl
  | x :: a => by rw [lessL, if_pos rfl, lessL_irr]
theorem lessL_tri : ∀ {a b : List Int}, lessL a b = false → lessL b a = false → a = b
  | [], [], _, _ => rfl
  | [], y :: b, h, _ => by rw [lessL] at h; cases h
  | x :: a, [], _, h => by rw [lessL] at h; cases h
  | x :: a, y :: b, h1, h2 => by
    rw [lessL] at h1 h2
    by_cases e : x = y
    · subst e; rw [if_pos rfl] at h1 h2; rw [lessL_tri h1 h2]
    · rw [if_neg e] at h1; rw [if_neg (Ne.symm e)] at h2
      simp at h1 h2; omega
theorem lessL_trans : ∀ {a b c : List Int}, lessL a b = true → lessL b c = true → lessL a c = true
  | _, _, [], _, h => by cases ‹List Int› <;> simp [lessL] at h
  | _, [], z :: c, h, _ => by simp [lessL] at h
  | [], y :: b, z :: c, _, _ => rfl
  | x :: a, y :: b, z :: c, h1, h2 => by
    rw [lessL] at h1 h2 ⊢
    by_cases e : x = y
    · subst e; rw [if_pos rfl] at h1
      by_cases e2 : x = z
      · subst e2; rw [if_pos rfl] at h2 ⊢; exact lessL_trans h1 h2
      · rw [if_neg e2] at h2 ⊢; exact h2
    · rw [if_neg e] at h1
      by_cases e2 : y = z
      · subst e2; rw [if_neg e]; exact h1
      · rw [if_neg e2] at h2
        simp at h1 h2
        rw [if_neg (by omega)]; simp; omega
def bestL (b : List Int) : List (List Int) → List Int
  | [] => b
  | w :: l => bestL (if lessL w b = true then w else b) l
theorem bestL_mem : ∀ {l : List (List Int)} {b : List Int}, bestL b l ∈ b :: l
  | [], b => by simp [bestL]
  | w :: l, b => by
    rw [bestL]
    have := bestL_mem (l := l) (b := if lessL w b = true then w else b)
    by_cases e : lessL w b = true
    · rw [if_pos e] at this ⊢; rcases List.mem_cons.1 this with h | h <;> simp [h]
    · rw [if_neg e] at this ⊢; rcases List.mem_cons.1 this with h | h <;> simp [h]
theorem bestL_min : ∀ {l : List (List Int)} {b : List Int}, ∀ x ∈ b :: l, lessL x (bestL b l) = false
  | [], b, x, hx => by simp at hx; subst hx; exact lessL_irr
  | w :: l, b, x, hx => by
    rw [bestL]
    obtain ⟨c, hc⟩ : ∃ c, c = if lessL w b = true then w else b := ⟨_, rfl⟩
    rw [← hc]
    have ih := bestL_min (l := l) (b := c)
    have key : lessL x c = false → lessL x (bestL c l) = false := fun h => by
      cases h3 : lessL x (bestL c l) with
      | false => rfl
      | true =>
        have h4 := ih c (by simp)
        -- x < best, not c < best, so not c < x or ..: best ≤ c; x < best ≤ c
        by_cases e : bestL c l = c
        · rw [e, h] at h3; cases h3
        · have h5 : lessL (bestL c l) c = true := by
            cases h6 : lessL (bestL c l) c with
            | true => rfl
            | false => exact absurd (lessL_tri h6 h4) e
          rw [lessL_trans h3 h5] at h; cases h
    have hxs : x = b ∨ x = w ∨ x ∈ l := by simpa using hx
    rcases hxs with rfl | rfl | h
    · apply key
      rw [hc]; split
      · rename_i h1
        cases h2 : lessL x w with
        | false => rfl
        | true => have := lessL_trans h1 h2; rw [lessL_irr] at this; cases this
      · exact lessL_irr
    · apply key
      rw [hc]; split
      · exact lessL_irr
      · rename_i h1; simpa using h1
    · exact ih x (by simp [h])
theorem bestL_eq {l l' : List (List Int)} {b b' : List Int} (h : ∀ x, x ∈ b :: l → x ∈ b' :: l') (h' : ∀ x, x ∈ b' :: l' → x ∈ b :: l) : bestL b l = bestL b' l' :=
  lessL_tri (bestL_min _ (h _ bestL_mem)) (bestL_min _ (h' _ bestL_mem)) |> fun e => e
theorem bestL_app {l l' : List (List Int)} : ∀ {b : List Int}, bestL b (l ++ l') = bestL (bestL b l) l' := by
  induction l with
  | nil => intro b; rfl
  | cons w l ih => intro b; rw [List.cons_append, bestL, ih, ← bestL]
theorem bestL_snoc {l : List (List Int)} {b w : List Int} : bestL b (l ++ [w]) = if lessL w (bestL b l) = true then w else bestL b l := by
  rw [bestL_app]; rfl
def nmI (x : Int) : List Int → Nat
  | [] => 0
  | y :: r => if y = x then 0 else nmI x r + 1
theorem nmI_le {x : Int} : ∀ {l : List Int}, nmI x l ≤ l.length
  | [] => by simp [nmI]
  | y :: r => by rw [nmI]; have := nmI_le (x := x) (l := r); split <;> simp; omega
theorem nmI_lt {x : Int} : ∀ {l : List Int}, x ∈ l ↔ nmI x l < l.length
  | [] => by simp [nmI]
  | y :: r => by
    rw [nmI]
    by_cases e : y = x
    · subst e; simp
    · rw [if_neg e]
      have := nmI_lt (x := x) (l := r)
      simp [this, Ne.symm e]
theorem nmI_app {x : Int} {l l' : List Int} (h : x ∈ l) : nmI x (l ++ l') = nmI x l := by
  induction l with
  | nil => cases h
  | cons y r ih =>
    rw [List.cons_append, nmI, nmI]
    by_cases e : y = x
    · rw [if_pos e, if_pos e]
    · rw [if_neg e, if_neg e, ih (by simpa [Ne.symm e] using h)]
theorem nmI_not {x : Int} {l l' : List Int} (h : ¬ x ∈ l) : nmI x (l ++ l') = l.length + nmI x l' := by
  induction l with
  | nil => simp
  | cons y r ih =>
    have h1 : ¬ y = x ∧ ¬ x ∈ r := by simpa [eq_comm] using h
    rw [List.cons_append, nmI, if_neg h1.1, ih h1.2]; simp; omega
theorem nmI_get {x : Int} : ∀ {l : List Int}, x ∈ l → l.getD (nmI x l) 0 = x
  | [], h => by cases h
  | y :: r, h => by
    rw [nmI]
    by_cases e : y = x
    · rw [if_pos e]; exact e
    · rw [if_neg e]; simpa using nmI_get (l := r) (by simpa [Ne.symm e] using h)
theorem nmI_first {x : Int} : ∀ {l : List Int} {k : Nat}, k < nmI x l → ¬ l.getD k 0 = x
  | [], k, h => by simp [nmI] at h
  | y :: r, k, h => by
    rw [nmI] at h
    by_cases e : y = x
    · rw [if_pos e] at h; omega
    · rw [if_neg e] at h
      cases k with
      | zero => simpa using e
      | succ k => simpa using nmI_first (l := r) (k := k) (by omega)
def namesK (w : List Int) : Nat → List Int
  | 0 => []
  | i + 1 => if w.getD i 0 ∈ namesK w i then namesK w i else namesK w i ++ [w.getD i 0]
def namedK (w : List Int) : Nat → List Int
  | 0 => []
  | i + 1 => namedK w i ++ [(nmI (w.getD i 0) (namesK w i) : Int)]
def namedT (w : List Int) : List Int := namedK w w.length
theorem namesK_len {w : List Int} : ∀ {i : Nat}, (namesK w i).length ≤ i
  | 0 => by simp [namesK]
  | i + 1 => by
    have := namesK_len (w := w) (i := i)
    rw [namesK]; split <;> simp <;> omega
theorem namedK_len {w : List Int} : ∀ {i : Nat}, (namedK w i).length = i
  | 0 => rfl
  | i + 1 => by rw [namedK, List.length_append, namedK_len]; rfl
theorem namesK_in {w : List Int} {i : Nat} (h : w.getD i 0 ∈ namesK w i) : namesK w (i + 1) = namesK w i := by rw [namesK, if_pos h]
theorem namesK_out {w : List Int} {i : Nat} (h : ¬ w.getD i 0 ∈ namesK w i) : namesK w (i + 1) = namesK w i ++ [w.getD i 0] := by rw [namesK, if_neg h]
theorem namedK_in {w : List Int} {i : Nat} : namedK w (i + 1) = namedK w i ++ [(nmI (w.getD i 0) (namesK w i) : Int)] := rfl
theorem nmI_end {x : Int} {l : List Int} (h : ¬ x ∈ l) : nmI x l = l.length := by
  have h1 := nmI_le (x := x) (l := l)
  have h2 : ¬ nmI x l < l.length := fun h2 => h (nmI_lt.2 h2)
  omega
def nmap (l : List Int) : Int → Option Int := fun x => if x ∈ l then some (nmI x l : Int) else none
theorem nmap_in {l : List Int} {x : Int} (h : x ∈ l) : nmap l x = some (nmI x l : Int) := by rw [nmap, if_pos h]
theorem nmap_out {l : List Int} {x : Int} (h : ¬ x ∈ l) : nmap l x = none := by rw [nmap, if_neg h]
theorem nmap_put {l : List Int} {x : Int} (h : ¬ x ∈ l) : (fun y => if y = x then some (l.length : Int) else nmap l y) = nmap (l ++ [x]) := by
  funext y
  unfold nmap
  by_cases e : y = x
  · subst e; rw [if_pos rfl, if_pos (by simp), nmI_not h]; simp [nmI]
  · rw [if_neg e]
    by_cases hy : y ∈ l
    · rw [if_pos hy, if_pos (by simp [hy]), nmI_app hy]
    · rw [if_neg hy, if_neg (by simp [hy, e])]
def begun (w : List Int) (i : Nat) : List Int := w.drop i ++ w.take i
theorem begun_len {w : List Int} {i : Nat} : (begun w i).length = w.length := by unfold begun; simp; omega
def begK (w : List Int) (i : Nat) : List (List Int) := (List.range i).map fun j => namedT (begun w j)
def bothK (w : List Int) (i : Nat) : List (List Int) := ((List.range i).map fun j => [namedT (begun w j), namedT (begun w j).reverse]).flatten
theorem begK_succ {w : List Int} {i : Nat} : begK w (i + 1) = begK w i ++ [namedT (begun w i)] := by simp [begK, List.range_succ]
theorem bothK_succ {w : List Int} {i : Nat} : bothK w (i + 1) = bothK w i ++ [namedT (begun w i), namedT (begun w i).reverse] := by simp [bothK, List.range_succ]
theorem begun_rev {w : List Int} {i : Nat} (h : i ≤ w.length) : (begun w i).reverse = begun w.reverse (w.length - i) := by
  unfold begun
  rw [List.reverse_append, List.drop_reverse, List.take_reverse, show w.length - (w.length - i) = i by omega]
theorem begun_zero {w : List Int} : begun w 0 = w := by simp [begun]
theorem begun_all {w : List Int} : begun w w.length = w := by simp [begun]
def canonT (w : List Int) : List Int := bestL (namedT w) (bothK w w.length)
theorem canon_prog {w : List Int} (h : 1 ≤ w.length) {l : List (List Int)} (hl : l = begK w w.length ++ begK w.reverse w.length) : bestL (namedT w) l = canonT w := by
  subst hl
  have m1 : ∀ x, x ∈ begK w w.length ↔ ∃ j, j < w.length ∧ x = namedT (begun w j) := fun x => by simp [begK, eq_comm]
  have m2 : ∀ x, x ∈ begK w.reverse w.length ↔ ∃ j, j < w.length ∧ x = namedT (begun w.reverse j) := fun x => by simp [begK, eq_comm]
  have m3 : ∀ x, x ∈ bothK w w.length ↔ ∃ j, j < w.length ∧ (x = namedT (begun w j) ∨ x = namedT (begun w j).reverse) := fun x => by
    simp only [bothK, List.mem_flatten, List.mem_map, List.mem_range]
    constructor
    · rintro ⟨_, ⟨j, hj, rfl⟩, hx⟩
      exact ⟨j, hj, by simpa using hx⟩
    · rintro ⟨j, hj, hx⟩
      exact ⟨_, ⟨j, hj, rfl⟩, by simpa using hx⟩
  refine bestL_eq (fun x hx => ?_) (fun x hx => ?_)
  · rcases List.mem_cons.1 hx with rfl | hx
    · simp
    · refine List.mem_cons_of_mem _ ((m3 x).2 ?_)
      rcases List.mem_append.1 hx with hx | hx
      · obtain ⟨j, hj, e⟩ := (m1 x).1 hx; exact ⟨j, hj, .inl e⟩
      · obtain ⟨j, hj, e⟩ := (m2 x).1 hx
        by_cases h0 : j = 0
        · subst h0; exact ⟨0, by omega, .inr (by rw [e, begun_zero, begun_zero])⟩
        · exact ⟨w.length - j, by omega, .inr (by rw [e, begun_rev (by omega), show w.length - (w.length - j) = j by omega])⟩
  · rcases List.mem_cons.1 hx with rfl | hx
    · simp
    · refine List.mem_cons_of_mem _ ?_
      obtain ⟨j, hj, e | e⟩ := (m3 x).1 hx
      · exact List.mem_append.2 (.inl ((m1 x).2 ⟨j, hj, e⟩))
      · refine List.mem_append.2 (.inr ((m2 x).2 ?_))
        by_cases h0 : j = 0
        · subst h0; exact ⟨0, by omega, by rw [e, begun_zero, begun_zero]⟩
        · exact ⟨w.length - j, by omega, by rw [e, begun_rev (by omega)]⟩
end Go.Scr
namespace Go.Scr
set_option linter.unusedVariables false
set_option linter.unusedSimpArgs false
set_option linter.unusedSectionVars false
def revK (xs : List Int) (i : Nat) : List Int := (List.range xs.length).map fun p : Nat => if p < i ∨ xs.length - i ≤ p then xs.getD (xs.length - 1 - p) 0 else xs.getD p 0
theorem revK_len {xs : List Int} {i : Nat} : (revK xs i).length = xs.length := by simp [revK]
theorem revK_get {xs : List Int} {i p : Nat} (h : p < xs.length) : (revK xs i).getD p 0 = if p < i ∨ xs.length - i ≤ p then xs.getD (xs.length - 1 - p) 0 else xs.getD p 0 := by
  simp [revK, List.getD, h]
theorem revK_zero {xs : List Int} : revK xs 0 = xs := by
  refine ext_getD 0 revK_len fun p hp => ?_
  rw [revK_len] at hp
  rw [revK_get hp, if_neg (by omega)]
theorem revK_step {xs : List Int} {i j : Nat} (h : i < j) (hj : j + 1 + i = xs.length) : ((revK xs i).set i ((revK xs i).getD j 0)).set j ((revK xs i).getD i 0) = revK xs (i + 1) := by
  refine ext_getD 0 (by simp [revK_len]) fun p hp => ?_
  simp only [List.length_set, revK_len] at hp
  have h1 := revK_get (xs := xs) (i := i + 1) hp
  have h2 := revK_get (xs := xs) (i := i) hp
  have h3 := revK_get (xs := xs) (i := i) (p := i) (by omega)
  have h4 := revK_get (xs := xs) (i := i) (p := j) (by omega)
  rw [if_neg (by omega)] at h3 h4
  rw [getD_set (by simp [revK_len]; omega), getD_set (by simp [revK_len]; omega), h1, h2, h3, h4]
  by_cases e1 : p = j
  · subst e1
    rw [if_pos rfl, if_pos (by omega), show xs.length - 1 - p = i by omega]
  · rw [if_neg e1]
    by_cases e2 : p = i
    · subst e2
      rw [if_pos rfl, if_pos (by omega), show xs.length - 1 - p = j by omega]
    · rw [if_neg e2]
      by_cases e3 : p < i ∨ xs.length - i ≤ p
      · rw [if_pos e3, if_pos (by omega)]
      · rw [if_neg e3, if_neg (by omega)]
theorem revK_end {xs : List Int} {i : Nat} (h : xs.length ≤ 2 * i + 1) : revK xs i = xs.reverse := by
  refine ext_getD 0 (by simp [revK_len]) fun p hp => ?_
  rw [revK_len] at hp
  have hr : xs.reverse.getD p 0 = xs.getD (xs.length - 1 - p) 0 := by
    rw [List.getD_eq_getElem?_getD, List.getD_eq_getElem?_getD, List.getElem?_reverse hp]
  rw [revK_get hp, hr]
  by_cases e3 : p < i ∨ xs.length - i ≤ p
  · rw [if_pos e3]
  · rw [if_neg e3, show xs.length - 1 - p = p by omega]
theorem back_step {xs : List Int} {i : Nat} (h : i < xs.length) : (xs.drop i).reverse = (xs.drop (i + 1)).reverse ++ [xs.getD i 0] := by
  have : xs.drop i = xs.getD i 0 :: xs.drop (i + 1) := by
    rw [List.drop_eq_getElem_cons h]; simp [List.getD, h]
  rw [this, List.reverse_cons]
def cmpL (a b : List Int) : Int := if lessL a b = true then -1 else if a = b then 0 else 1
theorem cmpL_lt {a b : List Int} : decide (cmpL a b < 0) = lessL a b := by
  unfold cmpL
  cases h : lessL a b with
  | true => simp
  | false => rw [if_neg (by simp)]; split <;> rfl
theorem cmpL_nil {b : List Int} : cmpL [] [] = 0 := rfl
theorem cmpL_short {y : Int} {b : List Int} : cmpL [] (y :: b) = -1 := rfl
theorem cmpL_long {x : Int} {a : List Int} : cmpL (x :: a) [] = 1 := by
  unfold cmpL; rw [if_neg (by simp [lessL]), if_neg (by simp)]
theorem cmpL_eq {x : Int} {a b : List Int} : cmpL (x :: a) (x :: b) = cmpL a b := by
  unfold cmpL; rw [lessL, if_pos rfl]; simp
theorem cmpL_lt' {x y : Int} {a b : List Int} (h : x < y) : cmpL (x :: a) (y :: b) = -1 := by
  have h1 : lessL (x :: a) (y :: b) = true := by rw [lessL, if_neg (by omega)]; simpa using h
  unfold cmpL; rw [if_pos h1]
theorem cmpL_gt {x y : Int} {a b : List Int} (h : y < x) : cmpL (x :: a) (y :: b) = 1 := by
  have h1 : lessL (x :: a) (y :: b) = false := by rw [lessL, if_neg (by omega)]; simp; omega
  unfold cmpL; rw [h1, if_neg (by simp), if_neg (by simp; omega)]
def bestN : List (List Int) → List Int
  | [] => []
  | x :: r => bestL x r
theorem bestN_one {x : List Int} : bestN ([] ++ [x]) = x := rfl
theorem bestN_yes {l : List (List Int)} {x : List Int} (h : l = [] ∨ lessL x (bestN l) = true) : bestN (l ++ [x]) = x := by
  cases l with
  | nil => rfl
  | cons y r => 
    have h : lessL x (bestL y r) = true := h.resolve_left (by simp)
    show bestL y (r ++ [x]) = x
    rw [bestL_snoc, if_pos h]
theorem bestN_no {l : List (List Int)} {x : List Int} (h1 : l ≠ []) (h : ¬ lessL x (bestN l) = true) : bestN (l ++ [x]) = bestN l := by
  cases l with
  | nil => exact absurd rfl h1
  | cons y r => 
    have h : ¬ lessL x (bestL y r) = true := h
    show bestL y (r ++ [x]) = bestL y r
    rw [bestL_snoc, if_neg h]
theorem namedT_len {w : List Int} : (namedT w).length = w.length := namedK_len
theorem bestN_mem : ∀ {l : List (List Int)}, l ≠ [] → bestN l ∈ l
  | x :: r, _ => bestL_mem
def triedK (w : List Int) (j i : Nat) : List (List Int) := if j = 0 then begK w i else begK w w.length ++ begK w.reverse i
theorem begK_zero {w : List Int} : begK w 0 = [] := rfl
theorem begK_len {w : List Int} {i : Nat} : (begK w i).length = i := by simp [begK]
theorem begK_mem {w x : List Int} {i : Nat} (h : x ∈ begK w i) : x.length = w.length := by
  simp only [begK, List.mem_map] at h
  obtain ⟨j, _, rfl⟩ := h
  rw [namedT_len, begun_len]
theorem triedK_mem {w x : List Int} {j i : Nat} (h : x ∈ triedK w j i) : x.length = w.length := by
  unfold triedK at h
  split at h
  · exact begK_mem h
  · rcases List.mem_append.1 h with h | h
    · exact begK_mem h
    · rw [begK_mem h, List.length_reverse]
theorem triedK_nil {w : List Int} (hw : 1 ≤ w.length) {j i : Nat} : triedK w j i = [] ↔ bestN (triedK w j i) = [] := by
  constructor
  · intro h; rw [h]; rfl
  · intro h
    by_cases e : triedK w j i = []
    · exact e
    · have h1 := triedK_mem (bestN_mem e)
      rw [h] at h1; simp at h1; omega
def sideT (w : List Int) (j : Nat) : List Int := if j = 0 then w else w.reverse
theorem sideT_len {w : List Int} {j : Nat} : (sideT w j).length = w.length := by unfold sideT; split <;> simp
theorem triedK_succ {w : List Int} {j i : Nat} : triedK w j (i + 1) = triedK w j i ++ [namedT (begun (sideT w j) i)] := by
  unfold triedK sideT
  split
  · rw [begK_succ]
  · rw [begK_succ, List.append_assoc]
theorem triedK_next {w : List Int} : triedK w 0 w.length = triedK w 1 0 := by simp [triedK, begK_zero]
theorem canon_two {w : List Int} (hw : 1 ≤ w.length) : bestN (triedK w 1 w.length) = canonT w := by
  obtain ⟨m, hm⟩ : ∃ m, w.length = m + 1 := ⟨w.length - 1, by omega⟩
  have h0 : ∀ k, begK w (k + 1) = namedT w :: ((List.range k).map fun j => namedT (begun w (j + 1))) := by
    intro k
    simp [begK, List.range_succ_eq_map, begun_zero, Function.comp_def]
  have h1 : triedK w 1 w.length = begK w w.length ++ begK w.reverse w.length := rfl
  rw [h1]
  have h2 : bestN (begK w w.length ++ begK w.reverse w.length) = bestL (namedT w) (begK w w.length ++ begK w.reverse w.length) := by
    rw [hm, h0, List.cons_append]
    show bestL (namedT w) _ = bestL (namedT w) (namedT w :: _)
    rw [bestL, if_neg (by rw [lessL_irr]; simp)]
  rw [h2]
  exact canon_prog hw rfl
end Go.Scr
namespace Go.Proofs.Ytdfajcfkdfjoeaa
open Go Go.Vc Go.Scr
set_option linter.unusedVariables false
set_option linter.unusedSimpArgs false
theorem FnAt.narr0 {P : Program} {al : Bool} {f : FuncId} {t : Ty} {xs : List t.T} {r : List SV} {R : AV} {N : List (Nat × Ob)} (h : FnAt P al f (.narr t xs :: r) R N) (hx : xs ≠ []) : FnAt P al f (.arr t xs :: r) R N := by
  refine ⟨h.1, fun w O vals hO ha => h.2 w O vals hO ⟨by simpa using ha.1, fun i v A hv hA => ?_⟩⟩
  cases i with
  | zero =>
    simp at hA
    subst hA
    exact .narr _ _ _ (ha.2 0 v _ hv rfl) (fun h => absurd h hx)
  | succ i => exact ha.2 (i + 1) v A hv (by simpa using hA)
theorem clone_at {w : List Int} (h : w ≠ []) (hl : w.length ≤ 1000) : FnAt Try.prog false 57 [.arr (.int .i64) w] (.own 0) [(0, .row 3 (.int .i64) true w)] := by
  refine FnAt.narr0 ?_ h
  have he : w.isEmpty = false := by cases w with | nil => exact absurd rfl h | cons => rfl
  have hwl : @List.length (Ty.int .i64).T w ≤ 1000 := hl
  refine FnAt.of_body tys_ok Try.func57 (by rfl) rfl Try.ntmps57 (by rw [Try.results57]) (by simp) ?_
  
  repeat' (first
 | refine W.seq ?_
 | refine W.block ?_
 | (refine W.region tys_ok [] ?_; conv => whnf)
 | (refine W.drawAll tys_ok [] mixed rfl ?_; conv => whnf)
 | (refine W.ret ?_; conv => whnf)
 | (refine W.skip ?_; conv => whnf)
 | (refine W.exit ?_; conv => whnf)
 | (refine W.cond rfl (fun hb => ?_) (fun hb => ?_) <;> (try simp only [Int.reduceToNat, Int.reduceTDiv, Int.reduceTMod, minL, maxL, pickB, zHB] at hb) <;> (try (first | (cases hb; done) | exact absurd hb (by decide) | (exfalso; omega) | (exact absurd (hb.symm.trans he) (by decide)))))
 | ((with_reducible refine And.intro ?_ ?_); (focus ((repeat' (first | (with_reducible rfl) | (with_reducible refine And.intro ?_ ?_) | omega | rfl | exact Or.inl rfl | exact Or.inr rfl | exact of_decide_eq_true rfl | exact Path.imp_of (of_decide_eq_true rfl) | (focus ((try simp only [Int.reduceToNat, Int.reduceTDiv, Int.reduceTMod, minL, maxL, pickB, zHB, InK, Path.imp, List.length_replicate, List.length_set, List.length_append, List.length_cons, List.length_nil] at *); omega)) | (refine app_le rfl ?_; omega))); done)); (conv => whnf))
 | ((with_reducible refine And.intro (Side.out ?_) ?_); rotate_left; (conv => whnf))
 | ((first | refine retF1 ?_ | refine retF2 ?_) <;> (conv => whnf) <;> repeat' (first
 | exact trivial
 | (with_reducible rfl)
 | ((with_reducible refine And.intro ?_ ?_) <;> conv => whnf)
 | omega
 | rfl
 | (refine congrArg (SV.arr _) ?_)
 | (refine congrArg (Value.int _) ?_)
 | (refine congrArg Value.bool ?_)))); all_goals (try unfold Side)
  all_goals try (repeat' (first | (with_reducible rfl) | (with_reducible refine And.intro ?_ ?_) | omega | rfl | exact Or.inl rfl | exact Or.inr rfl | exact of_decide_eq_true rfl | exact Path.imp_of (of_decide_eq_true rfl) | (focus ((try simp only [Int.reduceToNat, Int.reduceTDiv, Int.reduceTMod, minL, maxL, pickB, zHB, InK, Path.imp, List.length_replicate, List.length_set, List.length_append, List.length_cons, List.length_nil] at *); omega)) | (refine app_le rfl ?_; omega)))
set_option maxHeartbeats 4000000 in
theorem reverse_at {w : List Int} (hl : w.length ≤ 1000) : FnM Try.prog 58 [.own 1000000000] [(1000000000, .row 3 (.int .i64) true w)] (.tup []) [(1000000000, .row 3 (.int .i64) true w.reverse)] := by
  have hwl : @List.length (Ty.int .i64).T w ≤ 1000 := hl
  have hkl : ∀ i, @List.length (Ty.int .i64).T (revK w i) = @List.length (Ty.int .i64).T w := fun i => revK_len
  refine FnM.of_body tys_ok Try.func58 (by rfl) rfl Try.ntmps58 (by rw [Try.results58]) (by simp) ?_
  
  repeat' (first
 | refine W.seq ?_
 | refine W.block ?_
 | (refine W.region tys_ok [] ?_; conv => whnf)
 | (refine W.drawAll tys_ok [] mixed rfl ?_; conv => whnf)
 | (refine W.ret ?_; conv => whnf)
 | (refine W.skip ?_; conv => whnf)
 | (refine W.exit ?_; conv => whnf)
 | (refine W.cond rfl (fun hb => ?_) (fun hb => ?_) <;> (try simp only [Int.reduceToNat, Int.reduceTDiv, Int.reduceTMod, minL, maxL, pickB, zHB] at hb) <;> (try (first | (cases hb; done) | exact absurd hb (by decide) | (exfalso; omega))))
 | ((with_reducible refine And.intro ?_ ?_); (focus ((repeat' (first | (with_reducible rfl) | (with_reducible refine And.intro ?_ ?_) | omega | rfl | exact Or.inl rfl | exact Or.inr rfl | exact of_decide_eq_true rfl | exact Path.imp_of (of_decide_eq_true rfl) | (focus ((try simp only [Int.reduceToNat, Int.reduceTDiv, Int.reduceTMod, minL, maxL, pickB, zHB, InK, Path.imp, List.length_replicate, List.length_set, List.length_append, List.length_cons, List.length_nil] at *); omega)) | (refine app_le rfl ?_; omega))); done)); (conv => whnf))
 | ((with_reducible refine And.intro (Side.out ?_) ?_); rotate_left; (conv => whnf))
 | ((first | refine retM1 ?_ | refine retM2 ?_) <;> (conv => whnf) <;> repeat' (first
 | exact trivial
 | (with_reducible rfl)
 | ((with_reducible refine And.intro ?_ ?_) <;> conv => whnf)
 | omega
 | rfl
 | (refine congrArg (SV.arr _) ?_)
 | (refine congrArg (Value.int _) ?_)
 | (refine congrArg Value.bool ?_)))); all_goals (try unfold Side)
  all_goals try (repeat' (first | (with_reducible rfl) | (with_reducible refine And.intro ?_ ?_) | omega | rfl | exact Or.inl rfl | exact Or.inr rfl | exact of_decide_eq_true rfl | exact Path.imp_of (of_decide_eq_true rfl) | (focus ((try simp only [Int.reduceToNat, Int.reduceTDiv, Int.reduceTMod, minL, maxL, pickB, zHB, InK, Path.imp, List.length_replicate, List.length_set, List.length_append, List.length_cons, List.length_nil] at *); omega)) | (refine app_le rfl ?_; omega)))
  refine W.loop (fun i : Nat => ⟨[(0, .own 1000000000), (2, .lit (.int .i64 (i))), (3, .lit (.int .i64 ((@List.length (Ty.int .i64).T w : Int) - 1 - i)))], [(1000000000, .row 3 (.int .i64) true ((revK w i : List Int) : List Int))]⟩) (fun i => 2 * i ≤ w.length + 1) (fun i => w.length - i) (0) ?_ ?_
  · refine ⟨by omega, ?_⟩
    refine subF.ok ?_ <;> (conv => whnf) <;> repeat' (first
 | exact trivial
 | (with_reducible rfl)
 | ((with_reducible refine And.intro ?_ ?_) <;> conv => whnf)
 | omega
 | rfl
 | (refine congrArg (SV.arr _) ?_)
 | (refine congrArg (Value.int _) ?_)
 | (refine congrArg Value.bool ?_))
    all_goals exact revK_zero.symm
  · intro i hi
    have hk := hkl i
    have hi' : 2 * i ≤ @List.length (Ty.int .i64).T w + 1 := hi
    by_cases hil : 2 * i + 1 < w.length
    · have hil' : 2 * i + 1 < @List.length (Ty.int .i64).T w := hil
      have hs := revK_step (xs := w) (i := i) (j := w.length - 1 - i) (by omega) (by omega)
      have ej : ((@List.length (Ty.int .i64).T w : Int) - 1 - i).toNat = w.length - 1 - i := by have hw' : @List.length (Ty.int .i64).T w = w.length := rfl; omega
      rw [← ej] at hs
      have hsl : ∀ x, ((@List.length (Ty.int .i64).T w : Int) - 1 - i).toNat < @List.length (Ty.int .i64).T (List.set (revK w i) (i : Int).toNat x) := fun x => by
        have h1 : @List.length (Ty.int .i64).T (List.set (revK w i) (i : Int).toNat x) = @List.length (Ty.int .i64).T w := by rw [← hk]; exact List.length_set
        omega
      repeat' (first
 | refine W.seq ?_
 | refine W.block ?_
 | (refine W.drawPh (id := 3) tys_ok [] mixed [0, 0, 0, 0, 0, 0, 48, 64, 0, 0, 768, 1024, 2291, 6387, 16383, 32767] [([0, 1, 2, 3, 4, 5, 6, 8, 9, 10], 2, 4095), ([12], 1, 16383), ([14], 1, 65535)] (by decide +kernel) ?_; conv => whnf)
 | (refine W.region tys_ok [] ?_; conv => whnf)
 | (refine W.drawAll tys_ok [] mixed rfl ?_; conv => whnf)
 | (refine W.ret ?_; conv => whnf)
 | (refine W.skip ?_; conv => whnf)
 | (refine W.exit ?_; conv => whnf)
 | (refine Both.mk ?_ ?_ <;> (conv => whnf))
 | (refine W.cond rfl (fun hb => ?_) (fun hb => ?_) <;> (try simp only [Int.reduceToNat, Int.reduceTDiv, Int.reduceTMod, minL, maxL, pickB, zHB] at hb) <;> (try (first | (cases hb; done) | exact absurd hb (by decide) | (exfalso; omega))))
 | ((with_reducible refine And.intro ?_ ?_); (focus ((repeat' (first | (with_reducible rfl) | (with_reducible refine And.intro ?_ ?_) | omega | rfl | exact Or.inl rfl | exact Or.inr rfl | exact of_decide_eq_true rfl | exact Path.imp_of (of_decide_eq_true rfl) | (focus ((try simp only [Int.reduceToNat, Int.reduceTDiv, Int.reduceTMod, minL, maxL, pickB, zHB, InK, Path.imp, List.length_replicate, List.length_set, List.length_append, List.length_cons, List.length_nil] at *); omega)) | (refine app_le rfl ?_; omega))); done)); (conv => whnf))
 | ((with_reducible refine And.intro (Side.out ?_) ?_); rotate_left; (conv => whnf))
 | ((first | refine retM1 ?_ | refine retM2 ?_ | refine subF.leaf ?_ | refine subF.side ?_) <;> (conv => whnf) <;> repeat' (first
 | exact trivial
 | (with_reducible rfl)
 | ((with_reducible refine And.intro ?_ ?_) <;> conv => whnf)
 | omega
 | rfl
 | (refine congrArg (SV.arr _) ?_)
 | (refine congrArg (Value.int _) ?_)
 | (refine congrArg Value.bool ?_)))); all_goals (try unfold Side)
      all_goals try (repeat' (first | (with_reducible rfl) | (with_reducible refine And.intro ?_ ?_) | omega | rfl | exact Or.inl rfl | exact Or.inr rfl | exact of_decide_eq_true rfl | exact Path.imp_of (of_decide_eq_true rfl) | (focus ((try simp only [Int.reduceToNat, Int.reduceTDiv, Int.reduceTMod, minL, maxL, pickB, zHB, InK, Path.imp, List.length_replicate, List.length_set, List.length_append, List.length_cons, List.length_nil] at *); omega)) | (refine app_le rfl ?_; omega)))
      all_goals try (first | exact hs | exact hsl _ | exact Path.imp_of ⟨by omega, hsl _⟩)
      all_goals (refine ⟨i + 1, ⟨by omega, by omega⟩, ?_⟩)
      all_goals refine subF.ok ?_ <;> (conv => whnf) <;> repeat' (first
 | exact trivial
 | (with_reducible rfl)
 | ((with_reducible refine And.intro ?_ ?_) <;> conv => whnf)
 | omega
 | rfl
 | (refine congrArg (SV.arr _) ?_)
 | (refine congrArg (Value.int _) ?_)
 | (refine congrArg Value.bool ?_))
      all_goals first | exact hs | omega
    · have hil' : ¬ 2 * i + 1 < @List.length (Ty.int .i64).T w := hil
      have he := revK_end (xs := w) (i := i) (by omega)
      repeat' (first
 | refine W.seq ?_
 | refine W.block ?_
 | (refine W.region tys_ok [] ?_; conv => whnf)
 | (refine W.drawAll tys_ok [] mixed rfl ?_; conv => whnf)
 | (refine W.ret ?_; conv => whnf)
 | (refine W.skip ?_; conv => whnf)
 | (refine W.exit ?_; conv => whnf)
 | (refine W.cond rfl (fun hb => ?_) (fun hb => ?_) <;> (try simp only [Int.reduceToNat, Int.reduceTDiv, Int.reduceTMod, minL, maxL, pickB, zHB] at hb) <;> (try (first | (cases hb; done) | exact absurd hb (by decide) | (exfalso; omega))))
 | ((with_reducible refine And.intro ?_ ?_); (focus ((repeat' (first | (with_reducible rfl) | (with_reducible refine And.intro ?_ ?_) | omega | rfl | exact Or.inl rfl | exact Or.inr rfl | exact of_decide_eq_true rfl | exact Path.imp_of (of_decide_eq_true rfl) | (focus ((try simp only [Int.reduceToNat, Int.reduceTDiv, Int.reduceTMod, minL, maxL, pickB, zHB, InK, Path.imp, List.length_replicate, List.length_set, List.length_append, List.length_cons, List.length_nil] at *); omega)) | (refine app_le rfl ?_; omega))); done)); (conv => whnf))
 | ((with_reducible refine And.intro (Side.out ?_) ?_); rotate_left; (conv => whnf))
 | ((first | refine retM1 ?_ | refine retM2 ?_) <;> (conv => whnf) <;> repeat' (first
 | exact trivial
 | (with_reducible rfl)
 | ((with_reducible refine And.intro ?_ ?_) <;> conv => whnf)
 | omega
 | rfl
 | (refine congrArg (SV.arr _) ?_)
 | (refine congrArg (Value.int _) ?_)
 | (refine congrArg Value.bool ?_)))); all_goals (try unfold Side)
      all_goals try (repeat' (first | (with_reducible rfl) | (with_reducible refine And.intro ?_ ?_) | omega | rfl | exact Or.inl rfl | exact Or.inr rfl | exact of_decide_eq_true rfl | exact Path.imp_of (of_decide_eq_true rfl) | (focus ((try simp only [Int.reduceToNat, Int.reduceTDiv, Int.reduceTMod, minL, maxL, pickB, zHB, InK, Path.imp, List.length_replicate, List.length_set, List.length_append, List.length_cons, List.length_nil] at *); omega)) | (refine app_le rfl ?_; omega)))
      all_goals exact he
end Go.Proofs.Ytdfajcfkdfjoeaa
namespace Go.Proofs.Ytdfajcfkdfjoeaa
open Go Go.Vc Go.Scr
set_option linter.unusedVariables false
set_option linter.unusedSimpArgs false
theorem mi_eq {m m' : Int → Option Int} {c c' : Nat} (h : m = m') (hc : c = c') : Ob.mp .i64 (.int .i64) m c = Ob.mp .i64 (.int .i64) m' c' := by rw [h, hc]
theorem nmap_nil : nmap [] = fun _ => none := by funext x; simp [nmap]
set_option maxHeartbeats 4000000 in
theorem named_at {w : List Int} (hl : w.length ≤ 1000) : FnAt Try.prog false 59 [.arr (.int .i64) w] (.own 0) [(0, .row 3 (.int .i64) true (namedT w))] := by
  have hwl : @List.length (Ty.int .i64).T w ≤ 1000 := hl
  refine FnAt.of_body tys_ok Try.func59 (by rfl) rfl Try.ntmps59 (by rw [Try.results59]) (by simp) ?_
  
  repeat' (first
 | refine W.seq ?_
 | refine W.block ?_
 | (refine W.region tys_ok [] ?_; conv => whnf)
 | (refine W.drawAll tys_ok [] mixed rfl ?_; conv => whnf)
 | (refine W.ret ?_; conv => whnf)
 | (refine W.skip ?_; conv => whnf)
 | (refine W.exit ?_; conv => whnf)
 | (refine W.cond rfl (fun hb => ?_) (fun hb => ?_) <;> (try simp only [Int.reduceToNat, Int.reduceTDiv, Int.reduceTMod, minL, maxL, pickB, zHB] at hb) <;> (try (first | (cases hb; done) | exact absurd hb (by decide) | (exfalso; omega))))
 | ((with_reducible refine And.intro ?_ ?_); (focus ((repeat' (first | (with_reducible rfl) | (with_reducible refine And.intro ?_ ?_) | omega | rfl | exact Or.inl rfl | exact Or.inr rfl | exact of_decide_eq_true rfl | exact Path.imp_of (of_decide_eq_true rfl) | (focus ((try simp only [Int.reduceToNat, Int.reduceTDiv, Int.reduceTMod, minL, maxL, pickB, zHB, InK, Path.imp, List.length_replicate, List.length_set, List.length_append, List.length_cons, List.length_nil] at *); omega)) | (refine app_le rfl ?_; omega))); done)); (conv => whnf))
 | ((with_reducible refine And.intro (Side.out ?_) ?_); rotate_left; (conv => whnf))
 | ((first | refine retF1 ?_ | refine retF2 ?_) <;> (conv => whnf) <;> repeat' (first
 | exact trivial
 | (with_reducible rfl)
 | ((with_reducible refine And.intro ?_ ?_) <;> conv => whnf)
 | omega
 | rfl
 | (refine congrArg (SV.arr _) ?_)
 | (refine congrArg (Value.int _) ?_)
 | (refine congrArg Value.bool ?_)))); all_goals (try unfold Side)
  all_goals try (repeat' (first | (with_reducible rfl) | (with_reducible refine And.intro ?_ ?_) | omega | rfl | exact Or.inl rfl | exact Or.inr rfl | exact of_decide_eq_true rfl | exact Path.imp_of (of_decide_eq_true rfl) | (focus ((try simp only [Int.reduceToNat, Int.reduceTDiv, Int.reduceTMod, minL, maxL, pickB, zHB, InK, Path.imp, List.length_replicate, List.length_set, List.length_append, List.length_cons, List.length_nil] at *); omega)) | (refine app_le rfl ?_; omega)))
  refine W.loop (fun i : Nat => ⟨[(3, .own 900003), (4, .own 900004), (10, .st false (.arr (.int .i64) (w : List Int))), (11, .lit (.int .i64 ((@List.length (Ty.int .i64).T w : Int)))), (12, .lit (.int .i64 (i)))], [(900003, .mp .i64 (.int .i64) (nmap (namesK w i)) (namesK w i).length), (900004, .row 3 (.int .i64) true ((namedK w i : List Int) : List Int))]⟩) (fun i => i ≤ w.length) (fun i => w.length - i) (0) ?_ ?_
  · refine ⟨Nat.zero_le _, ?_⟩
    refine subF.ok ?_ <;> (conv => whnf) <;> repeat' (first
 | exact trivial
 | (with_reducible rfl)
 | ((with_reducible refine And.intro ?_ ?_) <;> conv => whnf)
 | omega
 | rfl
 | (refine congrArg (SV.arr _) ?_)
 | (refine congrArg (Value.int _) ?_)
 | (refine congrArg Value.bool ?_))
    all_goals exact mi_eq nmap_nil.symm rfl
  · intro i hi
    have hk : @List.length (Ty.int .i64).T (namedK w i) = i := namedK_len
    have hi' : i ≤ @List.length (Ty.int .i64).T w := hi
    have hnl : (namesK w i).length ≤ i := namesK_len
    have hadd := namedK_in (w := w) (i := i)
    by_cases hil : i < w.length
    · have hil' : i < @List.length (Ty.int .i64).T w := hil
      by_cases hm : w.getD i 0 ∈ namesK w i
      · have hv := nmap_in hm
        have hn := namesK_in (w := w) (i := i) hm
        have h2 : (nmap (namesK w i) (w.getD i 0)).isSome = true := by rw [hv]; rfl
        have h3 : namedK w i ++ [(nmap (namesK w i) (w.getD i 0)).getD 0] = namedK w (i + 1) := by rw [hv, hadd]; rfl
        repeat' (first
 | refine W.seq ?_
 | refine W.block ?_
 | (refine W.region tys_ok [] ?_; conv => whnf)
 | (refine W.drawAll tys_ok [] mixed rfl ?_; conv => whnf)
 | (refine W.ret ?_; conv => whnf)
 | (refine W.skip ?_; conv => whnf)
 | (refine W.exit ?_; conv => whnf)
 | (refine W.cond rfl (fun hb => ?_) (fun hb => ?_) <;> (try simp only [Int.reduceToNat, Int.reduceTDiv, Int.reduceTMod, minL, maxL, pickB, zHB] at hb) <;> (try (first | (cases hb; done) | exact absurd hb (by decide) | (exfalso; omega) | (exact absurd (hb.symm.trans h2) (by decide)))))
 | ((with_reducible refine And.intro ?_ ?_); (focus ((repeat' (first | (with_reducible rfl) | (with_reducible refine And.intro ?_ ?_) | omega | rfl | exact Or.inl rfl | exact Or.inr rfl | exact of_decide_eq_true rfl | exact Path.imp_of (of_decide_eq_true rfl) | (focus ((try simp only [Int.reduceToNat, Int.reduceTDiv, Int.reduceTMod, minL, maxL, pickB, zHB, InK, Path.imp, List.length_replicate, List.length_set, List.length_append, List.length_cons, List.length_nil] at *); omega)) | (refine app_le rfl ?_; omega))); done)); (conv => whnf))
 | ((with_reducible refine And.intro (Side.out ?_) ?_); rotate_left; (conv => whnf))
 | ((first | refine retF1 ?_ | refine retF2 ?_) <;> (conv => whnf) <;> repeat' (first
 | exact trivial
 | (with_reducible rfl)
 | ((with_reducible refine And.intro ?_ ?_) <;> conv => whnf)
 | omega
 | rfl
 | (refine congrArg (SV.arr _) ?_)
 | (refine congrArg (Value.int _) ?_)
 | (refine congrArg Value.bool ?_)))); all_goals (try unfold Side)
        all_goals try (repeat' (first | (with_reducible rfl) | (with_reducible refine And.intro ?_ ?_) | omega | rfl | exact Or.inl rfl | exact Or.inr rfl | exact of_decide_eq_true rfl | exact Path.imp_of (of_decide_eq_true rfl) | (focus ((try simp only [Int.reduceToNat, Int.reduceTDiv, Int.reduceTMod, minL, maxL, pickB, zHB, InK, Path.imp, List.length_replicate, List.length_set, List.length_append, List.length_cons, List.length_nil] at *); omega)) | (refine app_le rfl ?_; omega)))
        refine ⟨i + 1, ⟨by omega, by omega⟩, ?_⟩
        rw [hn]
        refine subF.ok ?_ <;> (conv => whnf) <;> repeat' (first
 | exact trivial
 | (with_reducible rfl)
 | ((with_reducible refine And.intro ?_ ?_) <;> conv => whnf)
 | omega
 | rfl
 | (refine congrArg (SV.arr _) ?_)
 | (refine congrArg (Value.int _) ?_)
 | (refine congrArg Value.bool ?_))
        all_goals exact (h3)
      · have hv := nmap_out hm
        have hn := namesK_out (w := w) (i := i) hm
        have h2 : (nmap (namesK w i) (w.getD i 0)).isSome = false := by rw [hv]; rfl
        have hp := nmap_put hm
        have h4 : (mput (nmap (namesK w i)) (w.getD i 0) ((namesK w i).length : Int)) = nmap (namesK w (i + 1)) := by rw [hn, ← hp]; rfl
        have h5 : nmI (w.getD i 0) (namesK w i) = (namesK w i).length := nmI_end hm
        have h3 : namedK w i ++ [(mput (nmap (namesK w i)) (w.getD i 0) ((namesK w i).length : Int) (w.getD i 0)).getD 0] = namedK w (i + 1) := by rw [hadd, h5]; simp [mput]
        have h6 : (if (nmap (namesK w i) (w.getD i 0)).isSome = true then (namesK w i).length else (namesK w i).length + 1) = (namesK w (i + 1)).length := by rw [h2, hn]; simp
        repeat' (first
 | refine W.seq ?_
 | refine W.block ?_
 | (refine W.region tys_ok [] ?_; conv => whnf)
 | (refine W.drawAll tys_ok [] mixed rfl ?_; conv => whnf)
 | (refine W.ret ?_; conv => whnf)
 | (refine W.skip ?_; conv => whnf)
 | (refine W.exit ?_; conv => whnf)
 | (refine W.cond rfl (fun hb => ?_) (fun hb => ?_) <;> (try simp only [Int.reduceToNat, Int.reduceTDiv, Int.reduceTMod, minL, maxL, pickB, zHB] at hb) <;> (try (first | (cases hb; done) | exact absurd hb (by decide) | (exfalso; omega) | (exact absurd (hb.symm.trans h2) (by decide)))))
 | ((with_reducible refine And.intro ?_ ?_); (focus ((repeat' (first | (with_reducible rfl) | (with_reducible refine And.intro ?_ ?_) | omega | rfl | exact Or.inl rfl | exact Or.inr rfl | exact of_decide_eq_true rfl | exact Path.imp_of (of_decide_eq_true rfl) | (focus ((try simp only [Int.reduceToNat, Int.reduceTDiv, Int.reduceTMod, minL, maxL, pickB, zHB, InK, Path.imp, List.length_replicate, List.length_set, List.length_append, List.length_cons, List.length_nil] at *); omega)) | (refine app_le rfl ?_; omega))); done)); (conv => whnf))
 | ((with_reducible refine And.intro (Side.out ?_) ?_); rotate_left; (conv => whnf))
 | ((first | refine retF1 ?_ | refine retF2 ?_) <;> (conv => whnf) <;> repeat' (first
 | exact trivial
 | (with_reducible rfl)
 | ((with_reducible refine And.intro ?_ ?_) <;> conv => whnf)
 | omega
 | rfl
 | (refine congrArg (SV.arr _) ?_)
 | (refine congrArg (Value.int _) ?_)
 | (refine congrArg Value.bool ?_)))); all_goals (try unfold Side)
        all_goals try (repeat' (first | (with_reducible rfl) | (with_reducible refine And.intro ?_ ?_) | omega | rfl | exact Or.inl rfl | exact Or.inr rfl | exact of_decide_eq_true rfl | exact Path.imp_of (of_decide_eq_true rfl) | (focus ((try simp only [Int.reduceToNat, Int.reduceTDiv, Int.reduceTMod, minL, maxL, pickB, zHB, InK, Path.imp, List.length_replicate, List.length_set, List.length_append, List.length_cons, List.length_nil] at *); omega)) | (refine app_le rfl ?_; omega)))
        refine ⟨i + 1, ⟨by omega, by omega⟩, ?_⟩
        refine subF.ok ?_ <;> (conv => whnf) <;> repeat' (first
 | exact trivial
 | (with_reducible rfl)
 | ((with_reducible refine And.intro ?_ ?_) <;> conv => whnf)
 | omega
 | rfl
 | (refine congrArg (SV.arr _) ?_)
 | (refine congrArg (Value.int _) ?_)
 | (refine congrArg Value.bool ?_))
        all_goals first | exact (h3) | exact (mi_eq h4 h6)
    · have hie : w.length = i := by omega
      subst hie
      repeat' (first
 | refine W.seq ?_
 | refine W.block ?_
 | (refine W.region tys_ok [] ?_; conv => whnf)
 | (refine W.drawAll tys_ok [] mixed rfl ?_; conv => whnf)
 | (refine W.ret ?_; conv => whnf)
 | (refine W.skip ?_; conv => whnf)
 | (refine W.exit ?_; conv => whnf)
 | (refine W.cond rfl (fun hb => ?_) (fun hb => ?_) <;> (try simp only [Int.reduceToNat, Int.reduceTDiv, Int.reduceTMod, minL, maxL, pickB, zHB] at hb) <;> (try (first | (cases hb; done) | exact absurd hb (by decide) | (exfalso; omega))))
 | ((with_reducible refine And.intro ?_ ?_); (focus ((repeat' (first | (with_reducible rfl) | (with_reducible refine And.intro ?_ ?_) | omega | rfl | exact Or.inl rfl | exact Or.inr rfl | exact of_decide_eq_true rfl | exact Path.imp_of (of_decide_eq_true rfl) | (focus ((try simp only [Int.reduceToNat, Int.reduceTDiv, Int.reduceTMod, minL, maxL, pickB, zHB, InK, Path.imp, List.length_replicate, List.length_set, List.length_append, List.length_cons, List.length_nil] at *); omega)) | (refine app_le rfl ?_; omega))); done)); (conv => whnf))
 | ((with_reducible refine And.intro (Side.out ?_) ?_); rotate_left; (conv => whnf))
 | ((first | refine retF1 ?_ | refine retF2 ?_) <;> (conv => whnf) <;> repeat' (first
 | exact trivial
 | (with_reducible rfl)
 | ((with_reducible refine And.intro ?_ ?_) <;> conv => whnf)
 | omega
 | rfl
 | (refine congrArg (SV.arr _) ?_)
 | (refine congrArg (Value.int _) ?_)
 | (refine congrArg Value.bool ?_)))); all_goals (try unfold Side)
      all_goals try (repeat' (first | (with_reducible rfl) | (with_reducible refine And.intro ?_ ?_) | omega | rfl | exact Or.inl rfl | exact Or.inr rfl | exact of_decide_eq_true rfl | exact Path.imp_of (of_decide_eq_true rfl) | (focus ((try simp only [Int.reduceToNat, Int.reduceTDiv, Int.reduceTMod, minL, maxL, pickB, zHB, InK, Path.imp, List.length_replicate, List.length_set, List.length_append, List.length_cons, List.length_nil] at *); omega)) | (refine app_le rfl ?_; omega)))
theorem isnan_at (x : Int) : FnAt Try.prog false 76 [.lit (.int .i64 x)] (.lit (.bool false)) [] := by
  have h : (!decide (x = x)) = false := by simp
  refine FnAt.of_body tys_ok Try.func76 (by rfl) rfl Try.ntmps76 (by rw [Try.results76]) (by simp) ?_
  
  repeat' (first
 | refine W.seq ?_
 | refine W.block ?_
 | (refine W.region tys_ok [] ?_; conv => whnf)
 | (refine W.drawAll tys_ok [] mixed rfl ?_; conv => whnf)
 | (refine W.ret ?_; conv => whnf)
 | (refine W.skip ?_; conv => whnf)
 | (refine W.exit ?_; conv => whnf)
 | (refine W.cond rfl (fun hb => ?_) (fun hb => ?_) <;> (try simp only [Int.reduceToNat, Int.reduceTDiv, Int.reduceTMod, minL, maxL, pickB, zHB] at hb) <;> (try (first | (cases hb; done) | exact absurd hb (by decide) | (exfalso; omega))))
 | ((with_reducible refine And.intro ?_ ?_); (focus ((repeat' (first | (with_reducible rfl) | (with_reducible refine And.intro ?_ ?_) | omega | rfl | exact Or.inl rfl | exact Or.inr rfl | exact of_decide_eq_true rfl | exact Path.imp_of (of_decide_eq_true rfl) | (focus ((try simp only [Int.reduceToNat, Int.reduceTDiv, Int.reduceTMod, minL, maxL, pickB, zHB, InK, Path.imp, List.length_replicate, List.length_set, List.length_append, List.length_cons, List.length_nil] at *); omega)) | (refine app_le rfl ?_; omega))); done)); (conv => whnf))
 | ((with_reducible refine And.intro (Side.out ?_) ?_); rotate_left; (conv => whnf))
 | ((first | refine retF1 ?_ | refine retF2 ?_) <;> (conv => whnf) <;> repeat' (first
 | exact trivial
 | (with_reducible rfl)
 | ((with_reducible refine And.intro ?_ ?_) <;> conv => whnf)
 | omega
 | rfl
 | (refine congrArg (SV.arr _) ?_)
 | (refine congrArg (Value.int _) ?_)
 | (refine congrArg Value.bool ?_)))); all_goals (try unfold Side)
  all_goals try (repeat' (first | (with_reducible rfl) | (with_reducible refine And.intro ?_ ?_) | omega | rfl | exact Or.inl rfl | exact Or.inr rfl | exact of_decide_eq_true rfl | exact Path.imp_of (of_decide_eq_true rfl) | (focus ((try simp only [Int.reduceToNat, Int.reduceTDiv, Int.reduceTMod, minL, maxL, pickB, zHB, InK, Path.imp, List.length_replicate, List.length_set, List.length_append, List.length_cons, List.length_nil] at *); omega)) | (refine app_le rfl ?_; omega)))
  all_goals exact h
def cmpI (x y : Int) : Int := if x < y then -1 else if y < x then 1 else 0
theorem cmpi_at (x y : Int) : FnAt Try.prog false 70 [.lit (.int .i64 x), .lit (.int .i64 y)] (.lit (.int .i64 (cmpI x y))) [] := by
  have h1 : x < y → cmpI x y = -1 := fun h => by rw [cmpI, if_pos h]
  have h2 : y < x → cmpI x y = 1 := fun h => by rw [cmpI, if_neg (by omega), if_pos h]
  have h3 : ¬ x < y → ¬ y < x → cmpI x y = 0 := fun h h' => by rw [cmpI, if_neg h, if_neg h']
  refine FnAt.of_body tys_ok Try.func70 (by rfl) rfl Try.ntmps70 (by rw [Try.results70]) (by simp) ?_
  
  repeat' (first
 | refine W.seq ?_
 | refine W.block ?_
 | (refine W.region tys_ok [] ?_; conv => whnf)
 | (refine W.drawAll tys_ok [] mixed rfl ?_; conv => whnf)
 | (refine W.ret ?_; conv => whnf)
 | (refine W.skip ?_; conv => whnf)
 | (refine W.exit ?_; conv => whnf)
 | (refine call_at (al := false) (isnan_at _) rfl rfl rfl rfl ?_; conv => whnf)
 | (refine W.cond rfl (fun hb => ?_) (fun hb => ?_) <;> (try simp only [Int.reduceToNat, Int.reduceTDiv, Int.reduceTMod, minL, maxL, pickB, zHB] at hb) <;> (try (first | (cases hb; done) | exact absurd hb (by decide) | (exfalso; omega))))
 | ((with_reducible refine And.intro ?_ ?_); (focus ((repeat' (first | (with_reducible rfl) | (with_reducible refine And.intro ?_ ?_) | omega | rfl | exact Or.inl rfl | exact Or.inr rfl | exact of_decide_eq_true rfl | exact Path.imp_of (of_decide_eq_true rfl) | (focus ((try simp only [Int.reduceToNat, Int.reduceTDiv, Int.reduceTMod, minL, maxL, pickB, zHB, InK, Path.imp, List.length_replicate, List.length_set, List.length_append, List.length_cons, List.length_nil] at *); omega)) | (refine app_le rfl ?_; omega))); done)); (conv => whnf))
 | ((with_reducible refine And.intro (Side.out ?_) ?_); rotate_left; (conv => whnf))
 | ((first | refine retF1 ?_ | refine retF2 ?_) <;> (conv => whnf) <;> repeat' (first
 | exact trivial
 | (with_reducible rfl)
 | ((with_reducible refine And.intro ?_ ?_) <;> conv => whnf)
 | omega
 | rfl
 | (refine congrArg (SV.arr _) ?_)
 | (refine congrArg (Value.int _) ?_)
 | (refine congrArg Value.bool ?_)))); all_goals (try unfold Side)
  all_goals try (repeat' (first | (with_reducible rfl) | (with_reducible refine And.intro ?_ ?_) | omega | rfl | exact Or.inl rfl | exact Or.inr rfl | exact of_decide_eq_true rfl | exact Path.imp_of (of_decide_eq_true rfl) | (focus ((try simp only [Int.reduceToNat, Int.reduceTDiv, Int.reduceTMod, minL, maxL, pickB, zHB, InK, Path.imp, List.length_replicate, List.length_set, List.length_append, List.length_cons, List.length_nil] at *); omega)) | (refine app_le rfl ?_; omega)))
  all_goals first | exact (h1 (by assumption)).symm | exact (h2 (by assumption)).symm | exact (h3 (by assumption) (by assumption)).symm
theorem drop_get {w : List Int} {i : Nat} (h : i < w.length) : w.drop i = w.getD i 0 :: w.drop (i + 1) := by
  rw [List.drop_eq_getElem_cons h]; simp [List.getD, h]
set_option maxHeartbeats 4000000 in
theorem compare_at {a b : List Int} (ha : a.length ≤ 1000) (hb : b.length ≤ 1000) : FnAt Try.prog false 61 [.arr (.int .i64) a, .arr (.int .i64) b] (.lit (.int .i64 (cmpL a b))) [] := by
  have hal : @List.length (Ty.int .i64).T a ≤ 1000 := ha
  have hbl : @List.length (Ty.int .i64).T b ≤ 1000 := hb
  obtain ⟨R, hR⟩ : ∃ R, R = cmpL a b := ⟨_, rfl⟩
  rw [← hR]
  refine FnAt.of_body tys_ok Try.func61 (by rfl) rfl Try.ntmps61 (by rw [Try.results61]) (by simp) ?_
  
  repeat' (first
 | refine W.seq ?_
 | refine W.block ?_
 | (refine W.region tys_ok [] ?_; conv => whnf)
 | (refine W.drawAll tys_ok [] mixed rfl ?_; conv => whnf)
 | (refine W.ret ?_; conv => whnf)
 | (refine W.skip ?_; conv => whnf)
 | (refine W.exit ?_; conv => whnf)
 | (refine W.cond rfl (fun hb => ?_) (fun hb => ?_) <;> (try simp only [Int.reduceToNat, Int.reduceTDiv, Int.reduceTMod, minL, maxL, pickB, zHB] at hb) <;> (try (first | (cases hb; done) | exact absurd hb (by decide) | (exfalso; omega))))
 | ((with_reducible refine And.intro ?_ ?_); (focus ((repeat' (first | (with_reducible rfl) | (with_reducible refine And.intro ?_ ?_) | omega | rfl | exact Or.inl rfl | exact Or.inr rfl | exact of_decide_eq_true rfl | exact Path.imp_of (of_decide_eq_true rfl) | (focus ((try simp only [Int.reduceToNat, Int.reduceTDiv, Int.reduceTMod, minL, maxL, pickB, zHB, InK, Path.imp, List.length_replicate, List.length_set, List.length_append, List.length_cons, List.length_nil] at *); omega)) | (refine app_le rfl ?_; omega))); done)); (conv => whnf))
 | ((with_reducible refine And.intro (Side.out ?_) ?_); rotate_left; (conv => whnf))
 | ((first | refine retF1 ?_ | refine retF2 ?_) <;> (conv => whnf) <;> repeat' (first
 | exact trivial
 | (with_reducible rfl)
 | ((with_reducible refine And.intro ?_ ?_) <;> conv => whnf)
 | omega
 | rfl
 | (refine congrArg (SV.arr _) ?_)
 | (refine congrArg (Value.int _) ?_)
 | (refine congrArg Value.bool ?_)))); all_goals (try unfold Side)
  all_goals try (repeat' (first | (with_reducible rfl) | (with_reducible refine And.intro ?_ ?_) | omega | rfl | exact Or.inl rfl | exact Or.inr rfl | exact of_decide_eq_true rfl | exact Path.imp_of (of_decide_eq_true rfl) | (focus ((try simp only [Int.reduceToNat, Int.reduceTDiv, Int.reduceTMod, minL, maxL, pickB, zHB, InK, Path.imp, List.length_replicate, List.length_set, List.length_append, List.length_cons, List.length_nil] at *); omega)) | (refine app_le rfl ?_; omega)))
  refine W.loop (fun i : Nat => ⟨[(0, .st false (.arr (.int .i64) (a : List Int))), (1, .st false (.arr (.int .i64) (b : List Int))), (9, .st false (.arr (.int .i64) (a : List Int))), (10, .lit (.int .i64 ((@List.length (Ty.int .i64).T a : Int)))), (11, .lit (.int .i64 (i)))], []⟩) (fun i => i ≤ a.length ∧ i ≤ b.length ∧ cmpL (a.drop i) (b.drop i) = R) (fun i => a.length - i) (0) ?_ ?_
  · refine ⟨⟨Nat.zero_le _, Nat.zero_le _, by rw [hR]; rfl⟩, ?_⟩
    refine subF.ok ?_ <;> (conv => whnf) <;> repeat' (first
 | exact trivial
 | (with_reducible rfl)
 | ((with_reducible refine And.intro ?_ ?_) <;> conv => whnf)
 | omega
 | rfl
 | (refine congrArg (SV.arr _) ?_)
 | (refine congrArg (Value.int _) ?_)
 | (refine congrArg Value.bool ?_))
  · rintro i ⟨hi, hi2, hc⟩
    have hi' : i ≤ @List.length (Ty.int .i64).T a := hi
    have hi2' : i ≤ @List.length (Ty.int .i64).T b := hi2
    by_cases hil : i < a.length
    · have hil' : i < @List.length (Ty.int .i64).T a := hil
      rw [drop_get hil] at hc
      by_cases hib : i < b.length
      · have hib' : i < @List.length (Ty.int .i64).T b := hib
        rw [drop_get hib] at hc
        obtain ⟨x, hx⟩ : ∃ x, x = a.getD i 0 := ⟨_, rfl⟩
        obtain ⟨y, hy⟩ : ∃ y, y = b.getD i 0 := ⟨_, rfl⟩
        have hx' : @List.getD (Ty.int .i64).T a (i : Int).toNat (Ty.int .i64).dflt = x := hx.symm
        have hy' : @List.getD (Ty.int .i64).T b (i : Int).toNat (Ty.int .i64).dflt = y := hy.symm
        have cc := cmpi_at x y
        rw [← hx'] at cc
        rw [← hy'] at cc
        rw [← hx, ← hy] at hc
        rw [hx', hy'] at cc
        by_cases e1 : x < y
        · have e2 : cmpI x y = -1 := by rw [cmpI, if_pos e1]
          rw [cmpL_lt' e1] at hc
          rw [e2, hx, hy] at cc
          repeat' (first
 | refine W.seq ?_
 | refine W.block ?_
 | (refine W.region tys_ok [] ?_; conv => whnf)
 | (refine W.drawAll tys_ok [] mixed rfl ?_; conv => whnf)
 | (refine W.ret ?_; conv => whnf)
 | (refine W.skip ?_; conv => whnf)
 | (refine W.exit ?_; conv => whnf)
 | (refine call_at (al := false) (cc) rfl rfl rfl rfl ?_; conv => whnf)
 | (refine W.cond rfl (fun hb => ?_) (fun hb => ?_) <;> (try simp only [Int.reduceToNat, Int.reduceTDiv, Int.reduceTMod, minL, maxL, pickB, zHB] at hb) <;> (try (first | (cases hb; done) | exact absurd hb (by decide) | (exfalso; omega))))
 | ((with_reducible refine And.intro ?_ ?_); (focus ((repeat' (first | (with_reducible rfl) | (with_reducible refine And.intro ?_ ?_) | omega | rfl | exact Or.inl rfl | exact Or.inr rfl | exact of_decide_eq_true rfl | exact Path.imp_of (of_decide_eq_true rfl) | (focus ((try simp only [Int.reduceToNat, Int.reduceTDiv, Int.reduceTMod, minL, maxL, pickB, zHB, InK, Path.imp, List.length_replicate, List.length_set, List.length_append, List.length_cons, List.length_nil] at *); omega)) | (refine app_le rfl ?_; omega))); done)); (conv => whnf))
 | ((with_reducible refine And.intro (Side.out ?_) ?_); rotate_left; (conv => whnf))
 | ((first | refine retF1 ?_ | refine retF2 ?_) <;> (conv => whnf) <;> repeat' (first
 | exact trivial
 | (with_reducible rfl)
 | ((with_reducible refine And.intro ?_ ?_) <;> conv => whnf)
 | omega
 | rfl
 | (refine congrArg (SV.arr _) ?_)
 | (refine congrArg (Value.int _) ?_)
 | (refine congrArg Value.bool ?_)))); all_goals (try unfold Side)
          all_goals try (repeat' (first | (with_reducible rfl) | (with_reducible refine And.intro ?_ ?_) | omega | rfl | exact Or.inl rfl | exact Or.inr rfl | exact of_decide_eq_true rfl | exact Path.imp_of (of_decide_eq_true rfl) | (focus ((try simp only [Int.reduceToNat, Int.reduceTDiv, Int.reduceTMod, minL, maxL, pickB, zHB, InK, Path.imp, List.length_replicate, List.length_set, List.length_append, List.length_cons, List.length_nil] at *); omega)) | (refine app_le rfl ?_; omega)))
          all_goals exact hc
        · by_cases e3 : y < x
          · have e2 : cmpI x y = 1 := by rw [cmpI, if_neg e1, if_pos e3]
            rw [cmpL_gt e3] at hc
            rw [e2, hx, hy] at cc
            repeat' (first
 | refine W.seq ?_
 | refine W.block ?_
 | (refine W.region tys_ok [] ?_; conv => whnf)
 | (refine W.drawAll tys_ok [] mixed rfl ?_; conv => whnf)
 | (refine W.ret ?_; conv => whnf)
 | (refine W.skip ?_; conv => whnf)
 | (refine W.exit ?_; conv => whnf)
 | (refine call_at (al := false) (cc) rfl rfl rfl rfl ?_; conv => whnf)
 | (refine W.cond rfl (fun hb => ?_) (fun hb => ?_) <;> (try simp only [Int.reduceToNat, Int.reduceTDiv, Int.reduceTMod, minL, maxL, pickB, zHB] at hb) <;> (try (first | (cases hb; done) | exact absurd hb (by decide) | (exfalso; omega))))
 | ((with_reducible refine And.intro ?_ ?_); (focus ((repeat' (first | (with_reducible rfl) | (with_reducible refine And.intro ?_ ?_) | omega | rfl | exact Or.inl rfl | exact Or.inr rfl | exact of_decide_eq_true rfl | exact Path.imp_of (of_decide_eq_true rfl) | (focus ((try simp only [Int.reduceToNat, Int.reduceTDiv, Int.reduceTMod, minL, maxL, pickB, zHB, InK, Path.imp, List.length_replicate, List.length_set, List.length_append, List.length_cons, List.length_nil] at *); omega)) | (refine app_le rfl ?_; omega))); done)); (conv => whnf))
 | ((with_reducible refine And.intro (Side.out ?_) ?_); rotate_left; (conv => whnf))
 | ((first | refine retF1 ?_ | refine retF2 ?_) <;> (conv => whnf) <;> repeat' (first
 | exact trivial
 | (with_reducible rfl)
 | ((with_reducible refine And.intro ?_ ?_) <;> conv => whnf)
 | omega
 | rfl
 | (refine congrArg (SV.arr _) ?_)
 | (refine congrArg (Value.int _) ?_)
 | (refine congrArg Value.bool ?_)))); all_goals (try unfold Side)
            all_goals try (repeat' (first | (with_reducible rfl) | (with_reducible refine And.intro ?_ ?_) | omega | rfl | exact Or.inl rfl | exact Or.inr rfl | exact of_decide_eq_true rfl | exact Path.imp_of (of_decide_eq_true rfl) | (focus ((try simp only [Int.reduceToNat, Int.reduceTDiv, Int.reduceTMod, minL, maxL, pickB, zHB, InK, Path.imp, List.length_replicate, List.length_set, List.length_append, List.length_cons, List.length_nil] at *); omega)) | (refine app_le rfl ?_; omega)))
            all_goals exact hc
          · have e4 : x = y := by omega
            have e2 : cmpI x y = 0 := by rw [cmpI, if_neg e1, if_neg e3]
            rw [e4, cmpL_eq] at hc
            rw [e2, hx, hy] at cc
            repeat' (first
 | refine W.seq ?_
 | refine W.block ?_
 | (refine W.region tys_ok [] ?_; conv => whnf)
 | (refine W.drawAll tys_ok [] mixed rfl ?_; conv => whnf)
 | (refine W.ret ?_; conv => whnf)
 | (refine W.skip ?_; conv => whnf)
 | (refine W.exit ?_; conv => whnf)
 | (refine call_at (al := false) (cc) rfl rfl rfl rfl ?_; conv => whnf)
 | (refine W.cond rfl (fun hb => ?_) (fun hb => ?_) <;> (try simp only [Int.reduceToNat, Int.reduceTDiv, Int.reduceTMod, minL, maxL, pickB, zHB] at hb) <;> (try (first | (cases hb; done) | exact absurd hb (by decide) | (exfalso; omega))))
 | ((with_reducible refine And.intro ?_ ?_); (focus ((repeat' (first | (with_reducible rfl) | (with_reducible refine And.intro ?_ ?_) | omega | rfl | exact Or.inl rfl | exact Or.inr rfl | exact of_decide_eq_true rfl | exact Path.imp_of (of_decide_eq_true rfl) | (focus ((try simp only [Int.reduceToNat, Int.reduceTDiv, Int.reduceTMod, minL, maxL, pickB, zHB, InK, Path.imp, List.length_replicate, List.length_set, List.length_append, List.length_cons, List.length_nil] at *); omega)) | (refine app_le rfl ?_; omega))); done)); (conv => whnf))
 | ((with_reducible refine And.intro (Side.out ?_) ?_); rotate_left; (conv => whnf))
 | ((first | refine retF1 ?_ | refine retF2 ?_) <;> (conv => whnf) <;> repeat' (first
 | exact trivial
 | (with_reducible rfl)
 | ((with_reducible refine And.intro ?_ ?_) <;> conv => whnf)
 | omega
 | rfl
 | (refine congrArg (SV.arr _) ?_)
 | (refine congrArg (Value.int _) ?_)
 | (refine congrArg Value.bool ?_)))); all_goals (try unfold Side)
            all_goals try (repeat' (first | (with_reducible rfl) | (with_reducible refine And.intro ?_ ?_) | omega | rfl | exact Or.inl rfl | exact Or.inr rfl | exact of_decide_eq_true rfl | exact Path.imp_of (of_decide_eq_true rfl) | (focus ((try simp only [Int.reduceToNat, Int.reduceTDiv, Int.reduceTMod, minL, maxL, pickB, zHB, InK, Path.imp, List.length_replicate, List.length_set, List.length_append, List.length_cons, List.length_nil] at *); omega)) | (refine app_le rfl ?_; omega)))
            all_goals (refine ⟨i + 1, ⟨⟨by omega, by omega, hc⟩, by omega⟩, ?_⟩)
            all_goals refine subF.ok ?_ <;> (conv => whnf) <;> repeat' (first
 | exact trivial
 | (with_reducible rfl)
 | ((with_reducible refine And.intro ?_ ?_) <;> conv => whnf)
 | omega
 | rfl
 | (refine congrArg (SV.arr _) ?_)
 | (refine congrArg (Value.int _) ?_)
 | (refine congrArg Value.bool ?_))
      · have hib' : ¬ i < @List.length (Ty.int .i64).T b := hib
        rw [List.drop_of_length_le (l := b) (by omega), cmpL_long] at hc
        repeat' (first
 | refine W.seq ?_
 | refine W.block ?_
 | (refine W.region tys_ok [] ?_; conv => whnf)
 | (refine W.drawAll tys_ok [] mixed rfl ?_; conv => whnf)
 | (refine W.ret ?_; conv => whnf)
 | (refine W.skip ?_; conv => whnf)
 | (refine W.exit ?_; conv => whnf)
 | (refine W.cond rfl (fun hb => ?_) (fun hb => ?_) <;> (try simp only [Int.reduceToNat, Int.reduceTDiv, Int.reduceTMod, minL, maxL, pickB, zHB] at hb) <;> (try (first | (cases hb; done) | exact absurd hb (by decide) | (exfalso; omega))))
 | ((with_reducible refine And.intro ?_ ?_); (focus ((repeat' (first | (with_reducible rfl) | (with_reducible refine And.intro ?_ ?_) | omega | rfl | exact Or.inl rfl | exact Or.inr rfl | exact of_decide_eq_true rfl | exact Path.imp_of (of_decide_eq_true rfl) | (focus ((try simp only [Int.reduceToNat, Int.reduceTDiv, Int.reduceTMod, minL, maxL, pickB, zHB, InK, Path.imp, List.length_replicate, List.length_set, List.length_append, List.length_cons, List.length_nil] at *); omega)) | (refine app_le rfl ?_; omega))); done)); (conv => whnf))
 | ((with_reducible refine And.intro (Side.out ?_) ?_); rotate_left; (conv => whnf))
 | ((first | refine retF1 ?_ | refine retF2 ?_) <;> (conv => whnf) <;> repeat' (first
 | exact trivial
 | (with_reducible rfl)
 | ((with_reducible refine And.intro ?_ ?_) <;> conv => whnf)
 | omega
 | rfl
 | (refine congrArg (SV.arr _) ?_)
 | (refine congrArg (Value.int _) ?_)
 | (refine congrArg Value.bool ?_)))); all_goals (try unfold Side)
        all_goals try (repeat' (first | (with_reducible rfl) | (with_reducible refine And.intro ?_ ?_) | omega | rfl | exact Or.inl rfl | exact Or.inr rfl | exact of_decide_eq_true rfl | exact Path.imp_of (of_decide_eq_true rfl) | (focus ((try simp only [Int.reduceToNat, Int.reduceTDiv, Int.reduceTMod, minL, maxL, pickB, zHB, InK, Path.imp, List.length_replicate, List.length_set, List.length_append, List.length_cons, List.length_nil] at *); omega)) | (refine app_le rfl ?_; omega)))
        all_goals exact hc
    · have hie : a.length = i := by omega
      have hie' : @List.length (Ty.int .i64).T a = i := hie
      rw [List.drop_of_length_le (l := a) (by omega)] at hc
      by_cases hib : i < b.length
      · have hib' : i < @List.length (Ty.int .i64).T b := hib
        rw [drop_get hib, cmpL_short] at hc
        repeat' (first
 | refine W.seq ?_
 | refine W.block ?_
 | (refine W.region tys_ok [] ?_; conv => whnf)
 | (refine W.drawAll tys_ok [] mixed rfl ?_; conv => whnf)
 | (refine W.ret ?_; conv => whnf)
 | (refine W.skip ?_; conv => whnf)
 | (refine W.exit ?_; conv => whnf)
 | (refine W.cond rfl (fun hb => ?_) (fun hb => ?_) <;> (try simp only [Int.reduceToNat, Int.reduceTDiv, Int.reduceTMod, minL, maxL, pickB, zHB] at hb) <;> (try (first | (cases hb; done) | exact absurd hb (by decide) | (exfalso; omega))))
 | ((with_reducible refine And.intro ?_ ?_); (focus ((repeat' (first | (with_reducible rfl) | (with_reducible refine And.intro ?_ ?_) | omega | rfl | exact Or.inl rfl | exact Or.inr rfl | exact of_decide_eq_true rfl | exact Path.imp_of (of_decide_eq_true rfl) | (focus ((try simp only [Int.reduceToNat, Int.reduceTDiv, Int.reduceTMod, minL, maxL, pickB, zHB, InK, Path.imp, List.length_replicate, List.length_set, List.length_append, List.length_cons, List.length_nil] at *); omega)) | (refine app_le rfl ?_; omega))); done)); (conv => whnf))
 | ((with_reducible refine And.intro (Side.out ?_) ?_); rotate_left; (conv => whnf))
 | ((first | refine retF1 ?_ | refine retF2 ?_) <;> (conv => whnf) <;> repeat' (first
 | exact trivial
 | (with_reducible rfl)
 | ((with_reducible refine And.intro ?_ ?_) <;> conv => whnf)
 | omega
 | rfl
 | (refine congrArg (SV.arr _) ?_)
 | (refine congrArg (Value.int _) ?_)
 | (refine congrArg Value.bool ?_)))); all_goals (try unfold Side)
        all_goals try (repeat' (first | (with_reducible rfl) | (with_reducible refine And.intro ?_ ?_) | omega | rfl | exact Or.inl rfl | exact Or.inr rfl | exact of_decide_eq_true rfl | exact Path.imp_of (of_decide_eq_true rfl) | (focus ((try simp only [Int.reduceToNat, Int.reduceTDiv, Int.reduceTMod, minL, maxL, pickB, zHB, InK, Path.imp, List.length_replicate, List.length_set, List.length_append, List.length_cons, List.length_nil] at *); omega)) | (refine app_le rfl ?_; omega)))
        all_goals exact hc
      · have hib' : ¬ i < @List.length (Ty.int .i64).T b := hib
        rw [List.drop_of_length_le (l := b) (by omega), cmpL_nil] at hc
        repeat' (first
 | refine W.seq ?_
 | refine W.block ?_
 | (refine W.region tys_ok [] ?_; conv => whnf)
 | (refine W.drawAll tys_ok [] mixed rfl ?_; conv => whnf)
 | (refine W.ret ?_; conv => whnf)
 | (refine W.skip ?_; conv => whnf)
 | (refine W.exit ?_; conv => whnf)
 | (refine W.cond rfl (fun hb => ?_) (fun hb => ?_) <;> (try simp only [Int.reduceToNat, Int.reduceTDiv, Int.reduceTMod, minL, maxL, pickB, zHB] at hb) <;> (try (first | (cases hb; done) | exact absurd hb (by decide) | (exfalso; omega))))
 | ((with_reducible refine And.intro ?_ ?_); (focus ((repeat' (first | (with_reducible rfl) | (with_reducible refine And.intro ?_ ?_) | omega | rfl | exact Or.inl rfl | exact Or.inr rfl | exact of_decide_eq_true rfl | exact Path.imp_of (of_decide_eq_true rfl) | (focus ((try simp only [Int.reduceToNat, Int.reduceTDiv, Int.reduceTMod, minL, maxL, pickB, zHB, InK, Path.imp, List.length_replicate, List.length_set, List.length_append, List.length_cons, List.length_nil] at *); omega)) | (refine app_le rfl ?_; omega))); done)); (conv => whnf))
 | ((with_reducible refine And.intro (Side.out ?_) ?_); rotate_left; (conv => whnf))
 | ((first | refine retF1 ?_ | refine retF2 ?_) <;> (conv => whnf) <;> repeat' (first
 | exact trivial
 | (with_reducible rfl)
 | ((with_reducible refine And.intro ?_ ?_) <;> conv => whnf)
 | omega
 | rfl
 | (refine congrArg (SV.arr _) ?_)
 | (refine congrArg (Value.int _) ?_)
 | (refine congrArg Value.bool ?_)))); all_goals (try unfold Side)
        all_goals try (repeat' (first | (with_reducible rfl) | (with_reducible refine And.intro ?_ ?_) | omega | rfl | exact Or.inl rfl | exact Or.inr rfl | exact of_decide_eq_true rfl | exact Path.imp_of (of_decide_eq_true rfl) | (focus ((try simp only [Int.reduceToNat, Int.reduceTDiv, Int.reduceTMod, minL, maxL, pickB, zHB, InK, Path.imp, List.length_replicate, List.length_set, List.length_append, List.length_cons, List.length_nil] at *); omega)) | (refine app_le rfl ?_; omega)))
        all_goals exact hc
end Go.Proofs.Ytdfajcfkdfjoeaa
namespace Go.Proofs.Ytdfajcfkdfjoeaa
open Go Go.Vc Go.Scr Go.RowKit Go.Lib
set_option linter.unusedVariables false
set_option linter.unusedSimpArgs false
set_option maxHeartbeats 4000000 in
set_option maxRecDepth 100000 in
theorem grow_at {n : Nat} (h0 : 0 < n) (hn : n ≤ 1000) : FnAt Try.prog false 69 [.lit (.slice none 0 0), .lit (.int .i64 n)] (.own 0) [(0, .row 3 (.int .i64) true [])] := by
  refine ⟨⟨Try.f69, Try.func69, by kernel_rfl, by kernel_rfl⟩, fun w O vals hO ha => ?_⟩
  obtain ⟨hlen, hv⟩ := ha
  match vals, hlen, hv with
  | [v0, v1], _, hv =>
  have e0 := hv 0 v0 _ rfl rfl
  have e1 := hv 1 v1 _ rfl rfl
  cases e0
  cases e1
  have h1 : ¬ ((n : Int) < 0) := by omega
  have h3 : wrap64 ((n : Int) - 0) = (n : Int) := by unfold wrap64; omega
  have h4 : (n : Int) > 0 := by omega
  obtain ⟨i0, hi0, hz0, hs0, hb0⟩ : ∃ i0, Try.prog.info? 3 = some i0 ∧ i0.zero = some (.int .i64 0) ∧ i0.size = 1 ∧ i0.bytes = 8 := by
    have h := te3_ok.1
    cases hi : Try.prog.info? 3 with
    | none => rw [hi] at h; cases h
    | some i => rw [hi] at h; simp at h; exact ⟨i, rfl, h.1, h.2.1, h.2.2⟩
  have hold : (Builtin.firstCells i0.size 0 (.slice none 0 0)).run Try.prog w.drew = .ok #[] w.drew := run_firstCells_none w.drew i0.size 0 0 0
  have hbig : 8 * n ≤ 281474976710656 := by omega
  have hrz : ∀ ty, (Builtin.append_ #[22, 3] ty #[.slice none 0 0, .int .i64 (n : Int)]).run Try.prog w =
      .ok (.slice (some ⟨w.heap.size, 0, none⟩) n (grownCap w n 0 3)) (w.drew.alloc (.cells (#[] ++ Builtin.zeroCells #[.int .i64 0] n ++ Builtin.zeroCells #[.int .i64 0] (grownCap w n 0 3 - n)) 3)) := fun ty => by
    have h := Lib.run_append_grow_zeros (P := Try.prog) w 22 3 ty 3 i0 (.int .i64 0) .i64 .i64 Try.underlying22 Try.underlying3 hi0 hz0 none 0 0 [] hold n h0 (by omega) (by omega) (by omega) (by rw [hb0]; omega)
      (by rw [hb0, Nat.zero_add]; exact growslice_fits (by omega) (by omega))
    rw [Nat.zero_add] at h
    exact h
  have hGn : n ≤ grownCap w n 0 3 := grownCap_ge w _ _ _
  obtain ⟨G, hG⟩ : ∃ G, G = grownCap w n 0 3 := ⟨_, rfl⟩
  rw [← hG] at hrz hGn
  have hG63 : G ≤ maxLen := by
    have := grownCap_le_maxLen w n 0 3 (by unfold maxLen; omega)
    rw [← hG] at this; exact this
  have hfin : Calls Try.prog 69 #[.slice none 0 0, .int .i64 n] w fun e w' => e = .returned (.slice (some ⟨w.heap.size, 0, none⟩) 0 G) ∧ w' = w.drew.alloc (.cells (#[] ++ Builtin.zeroCells #[.int .i64 0] n ++ Builtin.zeroCells #[.int .i64 0] (G - n)) 3) := by
    have hG63' : G ≤ 9223372036854775807 := by unfold maxLen at hG63; omega
    clear hold hG hv hO
    go_enter Try.func69, Try.ntmps69
    go_wp2_with (at_builtin; refine Lib.wpList_append_run _ rfl _ _ _ _ rfl _ _ rfl rfl _ _ (hrz _) ?_)
    all_goals (go_ret; exact ⟨rfl, rfl⟩)
  refine hfin.mono fun e w' ⟨he, hw⟩ => ?_
  subst he; subst hw
  refine ⟨_, rfl, (Keep.drew w).trans (Keep.alloc _ _), fun _ => .slice (some ⟨w.heap.size, 0, none⟩) 0 G, rfl, ?_⟩
  refine ⟨fun k o hk => ?_, fun k k' o o' b h1 h2 _ _ => ?_⟩
  · simp only [get?] at hk
    split at hk
    · cases hk
      refine ⟨[], ⟨rfl, .inr ⟨w.heap.size, G, #[] ++ Builtin.zeroCells #[.int .i64 0] n ++ Builtin.zeroCells #[.int .i64 0] (G - n), rfl, Nat.le_refl _, ?_, Nat.zero_le _, hG63, ?_, by simp⟩⟩, (fun x hx => by cases hx), fun _ => undef, (fun i hi => absurd hi (Nat.not_lt_zero i)), fun i x hx => by cases i <;> cases hx⟩
      · exact heap_alloc_new w.drew _
      · show _ = G * 1
        simp [Builtin.zeroCells]; omega
    · cases hk
  · simp only [get?] at h1 h2
    split at h1
    · rename_i q1
      split at h2
      · rename_i q2; rw [← Nat.eq_of_beq_eq_true q1, ← Nat.eq_of_beq_eq_true q2]
      · cases h2
    · cases h1
theorem take_list {F : List (List Int)} {j : Nat} (h : j < F.length) : F.take (j + 1) = F.take j ++ [F.getD j []] := by
  rw [List.take_add_one]; simp [List.getD, h]
theorem flat_step {F : List (List Int)} {j : Nat} (h : j < F.length) : (F.take (j + 1)).flatten = (F.take j).flatten ++ F.getD j [] := by
  rw [take_list h]; simp
set_option maxHeartbeats 4000000 in
theorem concat_at {L : List (List Int)} (hL : L.length ≤ 10) (hE : ∀ i, (L.getD i []).length ≤ 100) (hp : 0 < L.flatten.length) : FnAt Try.prog false 60 [.arr (.sl (.int .i64)) L] (.own 0) [(0, .row 3 (.int .i64) true L.flatten)] := by
  have hLl : @List.length (List (Ty.int .i64).T) L ≤ 10 := hL
  have hEl : ∀ i, @List.length (Ty.int .i64).T (L.getD i []) ≤ 100 := hE
  have hfl : ∀ i, i ≤ L.length → (L.take i).flatten.length ≤ 100 * i := by
    intro i
    induction i with
    | zero => intro _; simp
    | succ i ih =>
      intro hi
      rw [flat_step (by omega), List.length_append]
      have := ih (by omega); have := hE i; omega
  have hft := hfl L.length (Nat.le_refl _)
  rw [List.take_length] at hft
  have hgr := grow_at (n := L.flatten.length) hp (by omega)
  have hst : ∀ i, i < L.length → (((L.take i).flatten.length : Int) + @List.length (Ty.int .i64).T (L.getD i [])) = ((L.take (i + 1)).flatten.length : Int) := fun i hi => by
    have e : @List.length (Ty.int .i64).T (L.getD i []) = (L.getD i []).length := rfl
    rw [flat_step hi, List.length_append, e]; omega
  refine FnAt.of_body tys_ok Try.func60 (by rfl) rfl Try.ntmps60 (by rw [Try.results60]) (by simp) ?_
  
  repeat' (first
 | refine W.seq ?_
 | refine W.block ?_
 | (refine W.region tys_ok [] ?_; conv => whnf)
 | (refine W.drawAll tys_ok [] mixed rfl ?_; conv => whnf)
 | (refine W.ret ?_; conv => whnf)
 | (refine W.skip ?_; conv => whnf)
 | (refine W.exit ?_; conv => whnf)
 | (refine W.cond rfl (fun hb => ?_) (fun hb => ?_) <;> (try simp only [Int.reduceToNat, Int.reduceTDiv, Int.reduceTMod, minL, maxL, pickB, zHB] at hb) <;> (try (first | (cases hb; done) | exact absurd hb (by decide) | (exfalso; omega))))
 | ((with_reducible refine And.intro ?_ ?_); (focus ((repeat' (first | (with_reducible rfl) | (with_reducible refine And.intro ?_ ?_) | omega | rfl | exact Or.inl rfl | exact Or.inr rfl | exact of_decide_eq_true rfl | exact Path.imp_of (of_decide_eq_true rfl) | (focus ((try simp only [Int.reduceToNat, Int.reduceTDiv, Int.reduceTMod, minL, maxL, pickB, zHB, InK, Path.imp, List.length_replicate, List.length_set, List.length_append, List.length_cons, List.length_nil] at *); omega)) | (refine app_le rfl ?_; omega))); done)); (conv => whnf))
 | ((with_reducible refine And.intro (Side.out ?_) ?_); rotate_left; (conv => whnf))
 | ((first | refine retF1 ?_ | refine retF2 ?_) <;> (conv => whnf) <;> repeat' (first
 | exact trivial
 | (with_reducible rfl)
 | ((with_reducible refine And.intro ?_ ?_) <;> conv => whnf)
 | omega
 | rfl
 | (refine congrArg (SV.arr _) ?_)
 | (refine congrArg (Value.int _) ?_)
 | (refine congrArg Value.bool ?_)))); all_goals (try unfold Side)
  all_goals try (repeat' (first | (with_reducible rfl) | (with_reducible refine And.intro ?_ ?_) | omega | rfl | exact Or.inl rfl | exact Or.inr rfl | exact of_decide_eq_true rfl | exact Path.imp_of (of_decide_eq_true rfl) | (focus ((try simp only [Int.reduceToNat, Int.reduceTDiv, Int.reduceTMod, minL, maxL, pickB, zHB, InK, Path.imp, List.length_replicate, List.length_set, List.length_append, List.length_cons, List.length_nil] at *); omega)) | (refine app_le rfl ?_; omega)))
  refine W.loop (fun i : Nat => ⟨[(0, .st false (.arr (.sl (.int .i64)) L)), (3, .lit (.int .i64 (((L.take i).flatten.length : Int)))), (9, .st false (.arr (.sl (.int .i64)) L)), (10, .lit (.int .i64 ((@List.length (Ty.sl (.int .i64)).T L : Int)))), (11, .lit (.int .i64 (i)))], []⟩) (fun i => i ≤ L.length) (fun i => L.length - i) (0) ?_ ?_
  · refine ⟨Nat.zero_le _, ?_⟩
    refine subF.ok ?_ <;> (conv => whnf) <;> repeat' (first
 | exact trivial
 | (with_reducible rfl)
 | ((with_reducible refine And.intro ?_ ?_) <;> conv => whnf)
 | omega
 | rfl
 | (refine congrArg (SV.arr _) ?_)
 | (refine congrArg (Value.int _) ?_)
 | (refine congrArg Value.bool ?_))
  · intro i hi
    have h1 := hfl i hi
    have hi' : i ≤ @List.length (Ty.sl (.int .i64)).T L := hi
    by_cases hil : i < L.length
    · have hil' : i < @List.length (Ty.sl (.int .i64)).T L := hil
      have h2 := hst i hil
      have h3 := hEl i
      repeat' (first
 | refine W.seq ?_
 | refine W.block ?_
 | (refine W.region tys_ok [] ?_; conv => whnf)
 | (refine W.drawAll tys_ok [] mixed rfl ?_; conv => whnf)
 | (refine W.ret ?_; conv => whnf)
 | (refine W.skip ?_; conv => whnf)
 | (refine W.exit ?_; conv => whnf)
 | (refine W.cond rfl (fun hb => ?_) (fun hb => ?_) <;> (try simp only [Int.reduceToNat, Int.reduceTDiv, Int.reduceTMod, minL, maxL, pickB, zHB] at hb) <;> (try (first | (cases hb; done) | exact absurd hb (by decide) | (exfalso; omega))))
 | ((with_reducible refine And.intro ?_ ?_); (focus ((repeat' (first | (with_reducible rfl) | (with_reducible refine And.intro ?_ ?_) | omega | rfl | exact Or.inl rfl | exact Or.inr rfl | exact of_decide_eq_true rfl | exact Path.imp_of (of_decide_eq_true rfl) | (focus ((try simp only [Int.reduceToNat, Int.reduceTDiv, Int.reduceTMod, minL, maxL, pickB, zHB, InK, Path.imp, List.length_replicate, List.length_set, List.length_append, List.length_cons, List.length_nil] at *); omega)) | (refine app_le rfl ?_; omega))); done)); (conv => whnf))
 | ((with_reducible refine And.intro (Side.out ?_) ?_); rotate_left; (conv => whnf))
 | ((first | refine retF1 ?_ | refine retF2 ?_) <;> (conv => whnf) <;> repeat' (first
 | exact trivial
 | (with_reducible rfl)
 | ((with_reducible refine And.intro ?_ ?_) <;> conv => whnf)
 | omega
 | rfl
 | (refine congrArg (SV.arr _) ?_)
 | (refine congrArg (Value.int _) ?_)
 | (refine congrArg Value.bool ?_)))); all_goals (try unfold Side)
      all_goals try (repeat' (first | (with_reducible rfl) | (with_reducible refine And.intro ?_ ?_) | omega | rfl | exact Or.inl rfl | exact Or.inr rfl | exact of_decide_eq_true rfl | exact Path.imp_of (of_decide_eq_true rfl) | (focus ((try simp only [Int.reduceToNat, Int.reduceTDiv, Int.reduceTMod, minL, maxL, pickB, zHB, InK, Path.imp, List.length_replicate, List.length_set, List.length_append, List.length_cons, List.length_nil] at *); omega)) | (refine app_le rfl ?_; omega)))
      refine ⟨i + 1, ⟨by omega, by omega⟩, ?_⟩
      refine subF.ok ?_ <;> (conv => whnf) <;> repeat' (first
 | exact trivial
 | (with_reducible rfl)
 | ((with_reducible refine And.intro ?_ ?_) <;> conv => whnf)
 | omega
 | rfl
 | (refine congrArg (SV.arr _) ?_)
 | (refine congrArg (Value.int _) ?_)
 | (refine congrArg Value.bool ?_))
      all_goals exact h2
    · have hie : L.length = i := by omega
      subst hie
      rw [List.take_length] at h1 ⊢
      repeat' (first
 | refine W.seq ?_
 | refine W.block ?_
 | (refine W.region tys_ok [] ?_; conv => whnf)
 | (refine W.drawAll tys_ok [] mixed rfl ?_; conv => whnf)
 | (refine W.ret ?_; conv => whnf)
 | (refine W.skip ?_; conv => whnf)
 | (refine W.exit ?_; conv => whnf)
 | (refine call_at (al := false) (hgr) rfl rfl rfl rfl ?_; conv => whnf)
 | (refine W.cond rfl (fun hb => ?_) (fun hb => ?_) <;> (try simp only [Int.reduceToNat, Int.reduceTDiv, Int.reduceTMod, minL, maxL, pickB, zHB] at hb) <;> (try (first | (cases hb; done) | exact absurd hb (by decide) | (exfalso; omega))))
 | ((with_reducible refine And.intro ?_ ?_); (focus ((repeat' (first | (with_reducible rfl) | (with_reducible refine And.intro ?_ ?_) | omega | rfl | exact Or.inl rfl | exact Or.inr rfl | exact of_decide_eq_true rfl | exact Path.imp_of (of_decide_eq_true rfl) | (focus ((try simp only [Int.reduceToNat, Int.reduceTDiv, Int.reduceTMod, minL, maxL, pickB, zHB, InK, Path.imp, List.length_replicate, List.length_set, List.length_append, List.length_cons, List.length_nil] at *); omega)) | (refine app_le rfl ?_; omega))); done)); (conv => whnf))
 | ((with_reducible refine And.intro (Side.out ?_) ?_); rotate_left; (conv => whnf))
 | ((first | refine retF1 ?_ | refine retF2 ?_) <;> (conv => whnf) <;> repeat' (first
 | exact trivial
 | (with_reducible rfl)
 | ((with_reducible refine And.intro ?_ ?_) <;> conv => whnf)
 | omega
 | rfl
 | (refine congrArg (SV.arr _) ?_)
 | (refine congrArg (Value.int _) ?_)
 | (refine congrArg Value.bool ?_)))); all_goals (try unfold Side)
      all_goals try (repeat' (first | (with_reducible rfl) | (with_reducible refine And.intro ?_ ?_) | omega | rfl | exact Or.inl rfl | exact Or.inr rfl | exact of_decide_eq_true rfl | exact Path.imp_of (of_decide_eq_true rfl) | (focus ((try simp only [Int.reduceToNat, Int.reduceTDiv, Int.reduceTMod, minL, maxL, pickB, zHB, InK, Path.imp, List.length_replicate, List.length_set, List.length_append, List.length_cons, List.length_nil] at *); omega)) | (refine app_le rfl ?_; omega)))
      refine W.loop (fun i : Nat => ⟨[(6, .own 900006), (25, .st false (.arr (.sl (.int .i64)) L)), (26, .lit (.int .i64 ((@List.length (Ty.sl (.int .i64)).T L : Int)))), (27, .lit (.int .i64 (i)))], [(900006, .row 3 (.int .i64) true ((L.take i).flatten : List Int))]⟩) (fun i => i ≤ L.length) (fun i => L.length - i) (0) ?_ ?_
      · refine ⟨Nat.zero_le _, ?_⟩
        refine subF.ok ?_ <;> (conv => whnf) <;> repeat' (first
 | exact trivial
 | (with_reducible rfl)
 | ((with_reducible refine And.intro ?_ ?_) <;> conv => whnf)
 | omega
 | rfl
 | (refine congrArg (SV.arr _) ?_)
 | (refine congrArg (Value.int _) ?_)
 | (refine congrArg Value.bool ?_))
      · intro i hi
        have h1 := hfl i hi
        have hi' : i ≤ @List.length (Ty.sl (.int .i64)).T L := hi
        by_cases hil : i < L.length
        · have hil' : i < @List.length (Ty.sl (.int .i64)).T L := hil
          have h2 := flat_step hil
          have h3 := hEl i
          have h4 : (L.take i).flatten.length + @List.length (Ty.int .i64).T (L.getD i []) ≤ 4294967296 := by omega
          repeat' (first
 | refine W.seq ?_
 | refine W.block ?_
 | (refine W.region tys_ok [] ?_; conv => whnf)
 | (refine W.drawAll tys_ok [] mixed rfl ?_; conv => whnf)
 | (refine W.ret ?_; conv => whnf)
 | (refine W.skip ?_; conv => whnf)
 | (refine W.exit ?_; conv => whnf)
 | (refine W.cond rfl (fun hb => ?_) (fun hb => ?_) <;> (try simp only [Int.reduceToNat, Int.reduceTDiv, Int.reduceTMod, minL, maxL, pickB, zHB] at hb) <;> (try (first | (cases hb; done) | exact absurd hb (by decide) | (exfalso; omega))))
 | ((with_reducible refine And.intro ?_ ?_); (focus ((repeat' (first | (with_reducible rfl) | (with_reducible refine And.intro ?_ ?_) | omega | rfl | exact Or.inl rfl | exact Or.inr rfl | exact of_decide_eq_true rfl | exact Path.imp_of (of_decide_eq_true rfl) | (focus ((try simp only [Int.reduceToNat, Int.reduceTDiv, Int.reduceTMod, minL, maxL, pickB, zHB, InK, Path.imp, List.length_replicate, List.length_set, List.length_append, List.length_cons, List.length_nil] at *); omega)) | (refine app_le rfl ?_; omega))); done)); (conv => whnf))
 | ((with_reducible refine And.intro (Side.out ?_) ?_); rotate_left; (conv => whnf))
 | ((first | refine retF1 ?_ | refine retF2 ?_) <;> (conv => whnf) <;> repeat' (first
 | exact trivial
 | (with_reducible rfl)
 | ((with_reducible refine And.intro ?_ ?_) <;> conv => whnf)
 | omega
 | rfl
 | (refine congrArg (SV.arr _) ?_)
 | (refine congrArg (Value.int _) ?_)
 | (refine congrArg Value.bool ?_)))); all_goals (try unfold Side)
          all_goals try (repeat' (first | (with_reducible rfl) | (with_reducible refine And.intro ?_ ?_) | omega | rfl | exact Or.inl rfl | exact Or.inr rfl | exact of_decide_eq_true rfl | exact Path.imp_of (of_decide_eq_true rfl) | (focus ((try simp only [Int.reduceToNat, Int.reduceTDiv, Int.reduceTMod, minL, maxL, pickB, zHB, InK, Path.imp, List.length_replicate, List.length_set, List.length_append, List.length_cons, List.length_nil] at *); omega)) | (refine app_le rfl ?_; omega)))
          all_goals try exact h4
          refine ⟨i + 1, ⟨by omega, by omega⟩, ?_⟩
          refine subF.ok ?_ <;> (conv => whnf) <;> repeat' (first
 | exact trivial
 | (with_reducible rfl)
 | ((with_reducible refine And.intro ?_ ?_) <;> conv => whnf)
 | omega
 | rfl
 | (refine congrArg (SV.arr _) ?_)
 | (refine congrArg (Value.int _) ?_)
 | (refine congrArg Value.bool ?_))
          all_goals exact h2.symm
        · have hie : L.length = i := by omega
          subst hie
          repeat' (first
 | refine W.seq ?_
 | refine W.block ?_
 | (refine W.region tys_ok [] ?_; conv => whnf)
 | (refine W.drawAll tys_ok [] mixed rfl ?_; conv => whnf)
 | (refine W.ret ?_; conv => whnf)
 | (refine W.skip ?_; conv => whnf)
 | (refine W.exit ?_; conv => whnf)
 | (refine W.cond rfl (fun hb => ?_) (fun hb => ?_) <;> (try simp only [Int.reduceToNat, Int.reduceTDiv, Int.reduceTMod, minL, maxL, pickB, zHB] at hb) <;> (try (first | (cases hb; done) | exact absurd hb (by decide) | (exfalso; omega))))
 | ((with_reducible refine And.intro ?_ ?_); (focus ((repeat' (first | (with_reducible rfl) | (with_reducible refine And.intro ?_ ?_) | omega | rfl | exact Or.inl rfl | exact Or.inr rfl | exact of_decide_eq_true rfl | exact Path.imp_of (of_decide_eq_true rfl) | (focus ((try simp only [Int.reduceToNat, Int.reduceTDiv, Int.reduceTMod, minL, maxL, pickB, zHB, InK, Path.imp, List.length_replicate, List.length_set, List.length_append, List.length_cons, List.length_nil] at *); omega)) | (refine app_le rfl ?_; omega))); done)); (conv => whnf))
 | ((with_reducible refine And.intro (Side.out ?_) ?_); rotate_left; (conv => whnf))
 | ((first | refine retF1 ?_ | refine retF2 ?_) <;> (conv => whnf) <;> repeat' (first
 | exact trivial
 | (with_reducible rfl)
 | ((with_reducible refine And.intro ?_ ?_) <;> conv => whnf)
 | omega
 | rfl
 | (refine congrArg (SV.arr _) ?_)
 | (refine congrArg (Value.int _) ?_)
 | (refine congrArg Value.bool ?_)))); all_goals (try unfold Side)
          all_goals try (repeat' (first | (with_reducible rfl) | (with_reducible refine And.intro ?_ ?_) | omega | rfl | exact Or.inl rfl | exact Or.inr rfl | exact of_decide_eq_true rfl | exact Path.imp_of (of_decide_eq_true rfl) | (focus ((try simp only [Int.reduceToNat, Int.reduceTDiv, Int.reduceTMod, minL, maxL, pickB, zHB, InK, Path.imp, List.length_replicate, List.length_set, List.length_append, List.length_cons, List.length_nil] at *); omega)) | (refine app_le rfl ?_; omega)))
          all_goals (have e : (List.take L.length L).flatten = L.flatten := by rw [List.take_length]
                     exact e)
end Go.Proofs.Ytdfajcfkdfjoeaa
namespace Go.Proofs.Ytdfajcfkdfjoeaa
open Go Go.Vc Go.Scr
set_option linter.unusedVariables false
set_option linter.unusedSimpArgs false
theorem FnAt.unnarr1 {P : Program} {al : Bool} {f : FuncId} {t : Ty} {xs : List t.T} {A : SV} {R : AV} {N : List (Nat × Ob)} (h : FnAt P al f [A, .arr t xs] R N) : FnAt P al f [A, .narr t xs] R N := by
  refine ⟨h.1, fun w O vals hO ha => h.2 w O vals hO ⟨by simpa using ha.1, fun i v A hv hA => ?_⟩⟩
  match i, hA with
  | 0, hA => exact ha.2 0 v _ hv hA
  | 1, hA =>
    simp at hA
    subst hA
    have := ha.2 1 v _ hv rfl
    cases this with
    | narr _ _ _ h _ => exact h
  | i + 2, hA => simp at hA
theorem begun_parts {v : List Int} {i : Nat} (h : i ≤ v.length) : List.flatten [List.drop i (List.take v.length v), List.drop 0 (List.take i v)] = Go.Scr.begun v i := by
  simp [Go.Scr.begun]
theorem Canon_no {w : List Int} (h : ¬ checkT w = 0) (hl : w.length ≤ 1000) : FnAt Try.prog false 38 [.arr (.int .i64) w] (.tup [.own 0, .lit (.int .i64 (checkT w))]) [(0, .row 3 (.int .i64) true [])] := by
  refine FnAt.of_body tys_ok Try.func38 (by rfl) rfl Try.ntmps38 (by rw [Try.results38]) (by simp) ?_
  
  repeat' (first
 | refine W.seq ?_
 | refine W.block ?_
 | (refine W.region tys_ok [] ?_; conv => whnf)
 | (refine W.drawAll tys_ok [] mixed rfl ?_; conv => whnf)
 | (refine W.ret ?_; conv => whnf)
 | (refine W.skip ?_; conv => whnf)
 | (refine W.exit ?_; conv => whnf)
 | (refine call_at (al := true) (read_bad h hl) rfl rfl rfl rfl ?_; conv => whnf)
 | (refine W.cond rfl (fun hb => ?_) (fun hb => ?_) <;> (try simp only [Int.reduceToNat, Int.reduceTDiv, Int.reduceTMod, minL, maxL, pickB, zHB] at hb) <;> (try (first | (cases hb; done) | exact absurd hb (by decide) | (exfalso; omega))))
 | ((with_reducible refine And.intro ?_ ?_); (focus ((repeat' (first | (with_reducible rfl) | (with_reducible refine And.intro ?_ ?_) | omega | rfl | exact Or.inl rfl | exact Or.inr rfl | exact of_decide_eq_true rfl | exact Path.imp_of (of_decide_eq_true rfl) | (focus ((try simp only [Int.reduceToNat, Int.reduceTDiv, Int.reduceTMod, minL, maxL, pickB, zHB, InK, Path.imp, List.length_replicate, List.length_set, List.length_append, List.length_cons, List.length_nil] at *); omega)) | (refine app_le rfl ?_; omega))); done)); (conv => whnf))
 | ((with_reducible refine And.intro (Side.out ?_) ?_); rotate_left; (conv => whnf))
 | ((first | refine retF1 ?_ | refine retF2 ?_) <;> (conv => whnf) <;> repeat' (first
 | exact trivial
 | (with_reducible rfl)
 | ((with_reducible refine And.intro ?_ ?_) <;> conv => whnf)
 | omega
 | rfl
 | (refine congrArg (SV.arr _) ?_)
 | (refine congrArg (Value.int _) ?_)
 | (refine congrArg Value.bool ?_)))); all_goals (try unfold Side)
  all_goals try (repeat' (first | (with_reducible rfl) | (with_reducible refine And.intro ?_ ?_) | omega | rfl | exact Or.inl rfl | exact Or.inr rfl | exact of_decide_eq_true rfl | exact Path.imp_of (of_decide_eq_true rfl) | (focus ((try simp only [Int.reduceToNat, Int.reduceTDiv, Int.reduceTMod, minL, maxL, pickB, zHB, InK, Path.imp, List.length_replicate, List.length_set, List.length_append, List.length_cons, List.length_nil] at *); omega)) | (refine app_le rfl ?_; omega)))
set_option maxHeartbeats 8000000 in
theorem Canon_ok {w : List Int} {n : Nat} (h : Word w n) (hn : n ≤ 10) : FnAt Try.prog false 38 [.arr (.int .i64) w] (.tup [.st true (.arr (.int .i64) (canonT w)), .lit (.int .i64 0)]) [] := by
  have hwl : @List.length (Ty.int .i64).T w = 2 * n := h.len
  have hp := h.pos
  have hw1 : 1 ≤ w.length := by have := h.len; omega
  have hwne : w ≠ [] := fun e => by rw [e] at hw1; simp at hw1
  have hCT := canon_two hw1
  obtain ⟨C, hC⟩ : ∃ C, C = canonT w := ⟨_, rfl⟩
  rw [← hC] at hCT ⊢
  obtain ⟨B, hB⟩ : ∃ B : Nat → Nat → List Int, B = fun j i => bestN (triedK w j i) := ⟨_, rfl⟩
  have hB0 : B 0 0 = [] := by rw [hB]; rfl
  have hBn : B 0 (2 * n) = B 1 0 := by have := triedK_next (w := w); rw [h.len] at this; rw [hB]; exact congrArg bestN this
  have hBT : B 1 (2 * n) = C := by have := hCT; rw [h.len] at this; rw [hB]; exact this
  have hBe : ∀ j i, B j i = [] ↔ triedK w j i = [] := fun j i => by rw [hB]; exact (triedK_nil hw1).symm
  have hBl : ∀ j i, (B j i).length ≤ 100 := fun j i => by
    by_cases e : triedK w j i = []
    · rw [(hBe j i).2 e]; simp
    · have := triedK_mem (bestN_mem e); rw [hB]; show (bestN (triedK w j i)).length ≤ 100; have := h.len; omega
  have hyes : ∀ j i, (B j i = [] ∨ lessL (namedT (Go.Scr.begun (sideT w j) i)) (B j i) = true) → B j (i + 1) = namedT (Go.Scr.begun (sideT w j) i) := fun j i hh => by
    rw [hBe] at hh
    rw [hB] at hh ⊢
    show bestN (triedK w j (i + 1)) = _
    rw [triedK_succ]
    exact bestN_yes hh
  have hno : ∀ j i, ¬ B j i = [] → ¬ lessL (namedT (Go.Scr.begun (sideT w j) i)) (B j i) = true → B j (i + 1) = B j i := fun j i hh hh2 => by
    rw [hBe] at hh
    rw [hB] at hh2 ⊢
    show bestN (triedK w j (i + 1)) = bestN (triedK w j i)
    rw [triedK_succ]
    exact bestN_no hh hh2
  obtain ⟨Bo, hBo⟩ : ∃ Bo : Nat → List Int, Bo = fun j => if j = 2 then B 1 (2 * n) else B j 0 := ⟨_, rfl⟩
  have hBo0 : Bo 0 = [] := by rw [hBo]; exact hB0
  have hBoj : ∀ j, j < 2 → Bo j = B j 0 := fun j hj => by rw [hBo]; exact if_neg (by omega)
  have hBos : ∀ j, j < 2 → B j (2 * n) = Bo (j + 1) := fun j hj => by
    rw [hBo]
    match j, hj with
    | 0, _ => exact hBn
    | 1, _ => rfl
  have hBo2 : Bo 2 = C := by rw [hBo]; exact hBT
  clear hB hC hCT hBe hBo
  obtain ⟨L, hL⟩ : ∃ L : List (List Int), L = [w, w.reverse] := ⟨_, rfl⟩
  have hLl : @List.length (List (Ty.int .i64).T) L = 2 := by rw [hL]; rfl
  have hLl2 : @List.length (Ty.sl (.int .i64)).T L = 2 := hLl
  have hLg : ∀ j, j < 2 → L.getD j [] = sideT w j := fun j hj => by
    rw [hL]
    match j, hj with
    | 0, _ => rfl
    | 1, _ => rfl
  have hlen := h.len
  have hc1 := clone_at hwne (by omega)
  have hr1 := reverse_at (w := w) (by omega)
  refine FnAt.of_body tys_ok Try.func38 (by rfl) rfl Try.ntmps38 (by rw [Try.results38]) (by simp) ?_
  
  repeat' (first
 | refine W.seq ?_
 | refine W.block ?_
 | (refine W.regionM (id := 5) tys_ok [26] [1] ?_; conv => whnf)
 | (refine W.resub (x := Code.region 7 _ _) (Γ' := ⟨[(0, .st false (.arr (.int .i64) (w : List Int))), (6, .st true (.arr (.int .i64) (w.reverse : List Int))), (7, .lit (.slice none 0 0))], []⟩) ?_ (W.region tys_ok [26] ?_); rotate_left; (conv => whnf))
 | (refine W.region tys_ok [26] ?_; conv => whnf)
 | (refine W.drawAll tys_ok [26] mixed rfl ?_; conv => whnf)
 | (refine W.ret ?_; conv => whnf)
 | (refine W.skip ?_; conv => whnf)
 | (refine W.exit ?_; conv => whnf)
 | (refine call_at (al := true) (read_ok h hn) rfl rfl rfl rfl ?_; conv => whnf)
 | (refine call_at (al := false) (hc1) rfl rfl rfl rfl ?_; conv => whnf)
 | (refine callM_at (hr1) ?_; conv => whnf)
 | (refine W.cond rfl (fun hb => ?_) (fun hb => ?_) <;> (try simp only [Int.reduceToNat, Int.reduceTDiv, Int.reduceTMod, minL, maxL, pickB, zHB] at hb) <;> (try (first | (cases hb; done) | exact absurd hb (by decide) | (exfalso; omega))))
 | ((with_reducible refine And.intro ?_ ?_); (focus ((repeat' (first | (with_reducible rfl) | (with_reducible refine And.intro ?_ ?_) | omega | rfl | exact Or.inl rfl | exact Or.inr rfl | exact of_decide_eq_true rfl | exact Path.imp_of (of_decide_eq_true rfl) | (focus ((try simp only [Int.reduceToNat, Int.reduceTDiv, Int.reduceTMod, minL, maxL, pickB, zHB, InK, Path.imp, List.length_replicate, List.length_set, List.length_append, List.length_cons, List.length_nil] at *); omega)) | (refine app_le rfl ?_; omega))); done)); (conv => whnf))
 | ((with_reducible refine And.intro (Side.out ?_) ?_); rotate_left; (conv => whnf))
 | ((first | refine retF1 ?_ | refine retF2 ?_) <;> (conv => whnf) <;> repeat' (first
 | exact trivial
 | (with_reducible rfl)
 | ((with_reducible refine And.intro ?_ ?_) <;> conv => whnf)
 | omega
 | rfl
 | (refine congrArg (SV.arr _) ?_)
 | (refine congrArg (Value.int _) ?_)
 | (refine congrArg Value.bool ?_)))); all_goals (try unfold Side)
  all_goals try (repeat' (first | (with_reducible rfl) | (with_reducible refine And.intro ?_ ?_) | omega | rfl | exact Or.inl rfl | exact Or.inr rfl | exact of_decide_eq_true rfl | exact Path.imp_of (of_decide_eq_true rfl) | (focus ((try simp only [Int.reduceToNat, Int.reduceTDiv, Int.reduceTMod, minL, maxL, pickB, zHB, InK, Path.imp, List.length_replicate, List.length_set, List.length_append, List.length_cons, List.length_nil] at *); omega)) | (refine app_le rfl ?_; omega)))
  all_goals try refine subF.ok ?_ <;> (conv => whnf) <;> repeat' (first
 | exact trivial
 | (with_reducible rfl)
 | ((with_reducible refine And.intro ?_ ?_) <;> conv => whnf)
 | omega
 | rfl
 | (refine congrArg (SV.arr _) ?_)
 | (refine congrArg (Value.int _) ?_)
 | (refine congrArg Value.bool ?_))
  refine W.loop (fun j : Nat => ⟨[(7, .st true (.narr (.int .i64) (Bo j : List Int))), (26, .st false (.arr (.sl (.int .i64)) L)), (27, .lit (.int .i64 (2))), (28, .lit (.int .i64 (j)))], []⟩) (fun j => j ≤ 2) (fun j => 2 - j) (0) ?_ ?_
  · refine ⟨Nat.zero_le _, ?_⟩
    refine subF.ok ?_ <;> (conv => whnf) <;> repeat' (first
 | exact trivial
 | (with_reducible rfl)
 | ((with_reducible refine And.intro ?_ ?_) <;> conv => whnf)
 | omega
 | rfl
 | (refine congrArg (SV.arr _) ?_)
 | (refine congrArg (Value.int _) ?_)
 | (refine congrArg Value.bool ?_))
    all_goals first | exact hBo0 | exact hL.symm
  · intro j hj
    by_cases hjl : j < 2
    · obtain ⟨v, hv⟩ : ∃ v, v = sideT w j := ⟨_, rfl⟩
      have hvl : @List.length (Ty.int .i64).T v = 2 * n := by show v.length = _; rw [hv, sideT_len, h.len]
      have hv2 := hLg j hjl
      rw [← hv] at hv2
      repeat' (first
 | refine W.seq ?_
 | refine W.block ?_
 | (refine W.region tys_ok [] ?_; conv => whnf)
 | (refine W.drawAll tys_ok [] mixed rfl ?_; conv => whnf)
 | (refine W.ret ?_; conv => whnf)
 | (refine W.skip ?_; conv => whnf)
 | (refine W.exit ?_; conv => whnf)
 | (refine W.cond rfl (fun hb => ?_) (fun hb => ?_) <;> (try simp only [Int.reduceToNat, Int.reduceTDiv, Int.reduceTMod, minL, maxL, pickB, zHB] at hb) <;> (try (first | (cases hb; done) | exact absurd hb (by decide) | (exfalso; omega))))
 | ((with_reducible refine And.intro ?_ ?_); (focus ((repeat' (first | (with_reducible rfl) | (with_reducible refine And.intro ?_ ?_) | omega | rfl | exact Or.inl rfl | exact Or.inr rfl | exact of_decide_eq_true rfl | exact Path.imp_of (of_decide_eq_true rfl) | (focus ((try simp only [Int.reduceToNat, Int.reduceTDiv, Int.reduceTMod, minL, maxL, pickB, zHB, InK, Path.imp, List.length_replicate, List.length_set, List.length_append, List.length_cons, List.length_nil] at *); omega)) | (refine app_le rfl ?_; omega))); done)); (conv => whnf))
 | ((with_reducible refine And.intro (Side.out ?_) ?_); rotate_left; (conv => whnf))
 | ((first | refine retF1 ?_ | refine retF2 ?_) <;> (conv => whnf) <;> repeat' (first
 | exact trivial
 | (with_reducible rfl)
 | ((with_reducible refine And.intro ?_ ?_) <;> conv => whnf)
 | omega
 | rfl
 | (refine congrArg (SV.arr _) ?_)
 | (refine congrArg (Value.int _) ?_)
 | (refine congrArg Value.bool ?_)))); all_goals (try unfold Side)
      all_goals try (repeat' (first | (with_reducible rfl) | (with_reducible refine And.intro ?_ ?_) | omega | rfl | exact Or.inl rfl | exact Or.inr rfl | exact of_decide_eq_true rfl | exact Path.imp_of (of_decide_eq_true rfl) | (focus ((try simp only [Int.reduceToNat, Int.reduceTDiv, Int.reduceTMod, minL, maxL, pickB, zHB, InK, Path.imp, List.length_replicate, List.length_set, List.length_append, List.length_cons, List.length_nil] at *); omega)) | (refine app_le rfl ?_; omega)))
      refine W.loop (fun i : Nat => ⟨[(7, .st true (.narr (.int .i64) (B j i : List Int))), (26, .st false (.arr (.sl (.int .i64)) L)), (27, .lit (.int .i64 (2))), (28, .lit (.int .i64 (j))), (9, .st false (.arr (.int .i64) (v : List Int))), (32, .st false (.arr (.int .i64) (v : List Int))), (33, .lit (.int .i64 ((2 * n : Nat)))), (34, .lit (.int .i64 (i)))], []⟩) (fun i => i ≤ 2 * n) (fun i => 2 * n - i) (0) ?_ ?_
      · refine ⟨Nat.zero_le _, ?_⟩
        refine subF.ok ?_ <;> (conv => whnf) <;> repeat' (first
 | exact trivial
 | (with_reducible rfl)
 | ((with_reducible refine And.intro ?_ ?_) <;> conv => whnf)
 | omega
 | rfl
 | (refine congrArg (SV.arr _) ?_)
 | (refine congrArg (Value.int _) ?_)
 | (refine congrArg Value.bool ?_))
        all_goals first | exact hv2 | exact congrArg (SV.narr _) (hBoj j hjl) | (rw [← hvl]; exact congrArg (fun l : List Int => (l.length : Int)) hv2)
      · intro i hi
        by_cases hil : i < 2 * n
        · obtain ⟨b, hb⟩ : ∃ b, b = Go.Scr.begun v i := ⟨_, rfl⟩
          have hbl : b.length = 2 * n := by rw [hb, begun_len]; exact hvl
          have hvn : v.length = 2 * n := hvl
          obtain ⟨x, hx⟩ : ∃ x, x = namedT b := ⟨_, rfl⟩
          have hxl : x.length = 2 * n := by rw [hx, namedT_len]; exact hbl
          have hxne : x ≠ [] := fun e => by rw [e] at hxl; simp at hxl; omega
          have hcc := concat_at (L := [List.drop (i : Int).toNat (List.take ((@List.length (Ty.int .i64).T v : Int)).toNat v), List.drop (Int.toNat 0) (List.take (i : Int).toNat v)]) (by simp) (fun k => by
            match k with
            | 0 => simp [hvn]; omega
            | 1 => simp [hvn]; omega
            | k + 2 => simp) (by rw [show List.flatten [List.drop (i : Int).toNat (List.take ((@List.length (Ty.int .i64).T v : Int)).toNat v), List.drop (Int.toNat 0) (List.take (i : Int).toNat v)] = b from (begun_parts (by omega)).trans hb.symm]; omega)
          rw [show List.flatten [List.drop (i : Int).toNat (List.take ((@List.length (Ty.int .i64).T v : Int)).toNat v), List.drop (Int.toNat 0) (List.take (i : Int).toNat v)] = b from (begun_parts (by omega)).trans hb.symm] at hcc
          have hnm := named_at (w := b) (by omega)
          rw [← hx] at hnm
          have hBij := hBl j i
          have hcmp := FnAt.unnarr1 (compare_at (a := x) (b := B j i) (by omega) (by omega))
          have hy := hyes j i
          have hno' := hno j i
          rw [← hv, ← hb, ← hx] at hy hno'
          have hlt := cmpL_lt (a := x) (b := B j i)
          repeat' (first
 | refine W.seq ?_
 | refine W.block ?_
 | (refine W.region tys_ok [39, 42, 43, 44, 45] ?_; conv => whnf)
 | (refine W.drawAll tys_ok [39, 42, 43, 44, 45] mixed rfl ?_; conv => whnf)
 | (refine W.ret ?_; conv => whnf)
 | (refine W.skip ?_; conv => whnf)
 | (refine W.exit ?_; conv => whnf)
 | (refine call_at (al := false) (hcc) rfl rfl rfl rfl ?_; conv => whnf)
 | (refine call_at (al := false) (hnm) rfl rfl rfl rfl ?_; conv => whnf)
 | (refine call_at (al := false) (hcmp) rfl rfl rfl rfl ?_; conv => whnf)
 | (refine W.cond rfl (fun hb => ?_) (fun hb => ?_) <;> (try simp only [Int.reduceToNat, Int.reduceTDiv, Int.reduceTMod, minL, maxL, pickB, zHB] at hb) <;> (try (first | (cases hb; done) | exact absurd hb (by decide) | (exfalso; omega))))
 | ((with_reducible refine And.intro ?_ ?_); (focus ((repeat' (first | (with_reducible rfl) | (with_reducible refine And.intro ?_ ?_) | omega | rfl | exact Or.inl rfl | exact Or.inr rfl | exact of_decide_eq_true rfl | exact Path.imp_of (of_decide_eq_true rfl) | (focus ((try simp only [Int.reduceToNat, Int.reduceTDiv, Int.reduceTMod, minL, maxL, pickB, zHB, InK, Path.imp, List.length_replicate, List.length_set, List.length_append, List.length_cons, List.length_nil] at *); omega)) | (refine app_le rfl ?_; omega))); done)); (conv => whnf))
 | ((with_reducible refine And.intro (Side.out ?_) ?_); rotate_left; (conv => whnf))
 | ((first | refine retF1 ?_ | refine retF2 ?_) <;> (conv => whnf) <;> repeat' (first
 | exact trivial
 | (with_reducible rfl)
 | ((with_reducible refine And.intro ?_ ?_) <;> conv => whnf)
 | omega
 | rfl
 | (refine congrArg (SV.arr _) ?_)
 | (refine congrArg (Value.int _) ?_)
 | (refine congrArg Value.bool ?_)))); all_goals (try unfold Side)
          all_goals try (repeat' (first | (with_reducible rfl) | (with_reducible refine And.intro ?_ ?_) | omega | rfl | exact Or.inl rfl | exact Or.inr rfl | exact of_decide_eq_true rfl | exact Path.imp_of (of_decide_eq_true rfl) | (focus ((try simp only [Int.reduceToNat, Int.reduceTDiv, Int.reduceTMod, minL, maxL, pickB, zHB, InK, Path.imp, List.length_replicate, List.length_set, List.length_append, List.length_cons, List.length_nil] at *); omega)) | (refine app_le rfl ?_; omega)))
          · refine ⟨i + 1, ⟨by omega, by omega⟩, ?_⟩
            rw [hy (hb.imp (fun h => List.isEmpty_iff.1 h) (fun h => by rw [← hlt]; exact decide_eq_true h))]
            refine subF.ok ?_ <;> (conv => whnf) <;> repeat' (first
 | exact trivial
 | (with_reducible rfl)
 | ((with_reducible refine And.intro ?_ ?_) <;> conv => whnf)
 | omega
 | rfl
 | (refine congrArg (SV.arr _) ?_)
 | (refine congrArg (Value.int _) ?_)
 | (refine congrArg Value.bool ?_))
            all_goals exact hxne
          · refine ⟨i + 1, ⟨by omega, by omega⟩, ?_⟩
            rw [hno' (fun h => by rw [h] at hb; exact absurd hb.1 (by decide)) (fun h => by rw [← hlt] at h; exact hb.2 (of_decide_eq_true h))]
            refine subF.ok ?_ <;> (conv => whnf) <;> repeat' (first
 | exact trivial
 | (with_reducible rfl)
 | ((with_reducible refine And.intro ?_ ?_) <;> conv => whnf)
 | omega
 | rfl
 | (refine congrArg (SV.arr _) ?_)
 | (refine congrArg (Value.int _) ?_)
 | (refine congrArg Value.bool ?_))
        · have hie : 2 * n = i := by omega
          subst hie
          repeat' (first
 | refine W.seq ?_
 | refine W.block ?_
 | (refine W.region tys_ok [] ?_; conv => whnf)
 | (refine W.drawAll tys_ok [] mixed rfl ?_; conv => whnf)
 | (refine W.ret ?_; conv => whnf)
 | (refine W.skip ?_; conv => whnf)
 | (refine W.exit ?_; conv => whnf)
 | (refine W.cond rfl (fun hb => ?_) (fun hb => ?_) <;> (try simp only [Int.reduceToNat, Int.reduceTDiv, Int.reduceTMod, minL, maxL, pickB, zHB] at hb) <;> (try (first | (cases hb; done) | exact absurd hb (by decide) | (exfalso; omega))))
 | ((with_reducible refine And.intro ?_ ?_); (focus ((repeat' (first | (with_reducible rfl) | (with_reducible refine And.intro ?_ ?_) | omega | rfl | exact Or.inl rfl | exact Or.inr rfl | exact of_decide_eq_true rfl | exact Path.imp_of (of_decide_eq_true rfl) | (focus ((try simp only [Int.reduceToNat, Int.reduceTDiv, Int.reduceTMod, minL, maxL, pickB, zHB, InK, Path.imp, List.length_replicate, List.length_set, List.length_append, List.length_cons, List.length_nil] at *); omega)) | (refine app_le rfl ?_; omega))); done)); (conv => whnf))
 | ((with_reducible refine And.intro (Side.out ?_) ?_); rotate_left; (conv => whnf))
 | ((first | refine retF1 ?_ | refine retF2 ?_) <;> (conv => whnf) <;> repeat' (first
 | exact trivial
 | (with_reducible rfl)
 | ((with_reducible refine And.intro ?_ ?_) <;> conv => whnf)
 | omega
 | rfl
 | (refine congrArg (SV.arr _) ?_)
 | (refine congrArg (Value.int _) ?_)
 | (refine congrArg Value.bool ?_)))); all_goals (try unfold Side)
          all_goals try (repeat' (first | (with_reducible rfl) | (with_reducible refine And.intro ?_ ?_) | omega | rfl | exact Or.inl rfl | exact Or.inr rfl | exact of_decide_eq_true rfl | exact Path.imp_of (of_decide_eq_true rfl) | (focus ((try simp only [Int.reduceToNat, Int.reduceTDiv, Int.reduceTMod, minL, maxL, pickB, zHB, InK, Path.imp, List.length_replicate, List.length_set, List.length_append, List.length_cons, List.length_nil] at *); omega)) | (refine app_le rfl ?_; omega)))
          refine ⟨j + 1, ⟨by omega, by omega⟩, ?_⟩
          refine subF.ok ?_ <;> (conv => whnf) <;> repeat' (first
 | exact trivial
 | (with_reducible rfl)
 | ((with_reducible refine And.intro ?_ ?_) <;> conv => whnf)
 | omega
 | rfl
 | (refine congrArg (SV.arr _) ?_)
 | (refine congrArg (Value.int _) ?_)
 | (refine congrArg Value.bool ?_))
          all_goals exact congrArg (SV.narr _) (hBos j hjl)
    · have hje : 2 = j := by omega
      subst hje
      repeat' (first
 | refine W.seq ?_
 | refine W.block ?_
 | (refine W.region tys_ok [] ?_; conv => whnf)
 | (refine W.drawAll tys_ok [] mixed rfl ?_; conv => whnf)
 | (refine W.ret ?_; conv => whnf)
 | (refine W.skip ?_; conv => whnf)
 | (refine W.exit ?_; conv => whnf)
 | (refine W.cond rfl (fun hb => ?_) (fun hb => ?_) <;> (try simp only [Int.reduceToNat, Int.reduceTDiv, Int.reduceTMod, minL, maxL, pickB, zHB] at hb) <;> (try (first | (cases hb; done) | exact absurd hb (by decide) | (exfalso; omega))))
 | ((with_reducible refine And.intro ?_ ?_); (focus ((repeat' (first | (with_reducible rfl) | (with_reducible refine And.intro ?_ ?_) | omega | rfl | exact Or.inl rfl | exact Or.inr rfl | exact of_decide_eq_true rfl | exact Path.imp_of (of_decide_eq_true rfl) | (focus ((try simp only [Int.reduceToNat, Int.reduceTDiv, Int.reduceTMod, minL, maxL, pickB, zHB, InK, Path.imp, List.length_replicate, List.length_set, List.length_append, List.length_cons, List.length_nil] at *); omega)) | (refine app_le rfl ?_; omega))); done)); (conv => whnf))
 | ((with_reducible refine And.intro (Side.out ?_) ?_); rotate_left; (conv => whnf))
 | ((first | refine retF1 ?_ | refine retF2 ?_) <;> (conv => whnf) <;> repeat' (first
 | exact trivial
 | (with_reducible rfl)
 | ((with_reducible refine And.intro ?_ ?_) <;> conv => whnf)
 | omega
 | rfl
 | (refine congrArg (SV.arr _) ?_)
 | (refine congrArg (Value.int _) ?_)
 | (refine congrArg Value.bool ?_)))); all_goals (try unfold Side)
      all_goals try (repeat' (first | (with_reducible rfl) | (with_reducible refine And.intro ?_ ?_) | omega | rfl | exact Or.inl rfl | exact Or.inr rfl | exact of_decide_eq_true rfl | exact Path.imp_of (of_decide_eq_true rfl) | (focus ((try simp only [Int.reduceToNat, Int.reduceTDiv, Int.reduceTMod, minL, maxL, pickB, zHB, InK, Path.imp, List.length_replicate, List.length_set, List.length_append, List.length_cons, List.length_nil] at *); omega)) | (refine app_le rfl ?_; omega)))
      all_goals exact hBo2
end Go.Proofs.Ytdfajcfkdfjoeaa
namespace Go.Proofs.Ytdfajcfkdfjoeaa
open Go Go.Vc Go.Scr
set_option linter.unusedVariables false
set_option linter.unusedSimpArgs false
theorem begun_ref {w : List Int} {i : Nat} (hl : w.length ≤ 1000) (hi : i ≤ w.length) : FnAt Try.prog false 42 [.arr (.int .i64) w, .lit (.int .i64 i)] (.own 0) [(0, .row 3 (.int .i64) true (Go.Scr.begun w i))] := by
  have hwl : @List.length (Ty.int .i64).T w ≤ 1000 := hl
  have hi' : i ≤ @List.length (Ty.int .i64).T w := hi
  have g1 : ([] : List Int) ++ (w.take w.length).drop i ++ (w.take i).drop 0 = Go.Scr.begun w i := by simp [Go.Scr.begun]
  have g2 : (([] : List Int) ++ (w.take w.length).drop i).length + ((w.take i).drop 0).length ≤ 4294967296 := by simp; omega
  have g3 : ([] : List Int).length + ((w.take w.length).drop i).length ≤ 4294967296 := by simp; omega
  refine FnAt.of_body tys_ok Try.func42 (by rfl) rfl Try.ntmps42 (by rw [Try.results42]) (by simp) ?_
  
  repeat' (first
 | refine W.seq ?_
 | refine W.block ?_
 | (refine W.drawPh (id := 1) tys_ok [] mixed [0, 0, 0, 6, 9, 0, 0, 96, 144, 511] [([1, 2, 5, 6], 4, 255), ([], 1, 511), ([9], 0, 1023)] (by decide +kernel) ?_; conv => whnf)
 | (refine W.region tys_ok [] ?_; conv => whnf)
 | (refine W.drawAll tys_ok [] mixed rfl ?_; conv => whnf)
 | (refine W.ret ?_; conv => whnf)
 | (refine W.skip ?_; conv => whnf)
 | (refine W.exit ?_; conv => whnf)
 | (refine Both.mk ?_ ?_ <;> (conv => whnf))
 | (refine W.cond rfl (fun hb => ?_) (fun hb => ?_) <;> (try simp only [Int.reduceToNat, Int.reduceTDiv, Int.reduceTMod, minL, maxL, pickB, zHB] at hb) <;> (try (first | (cases hb; done) | exact absurd hb (by decide) | (exfalso; omega))))
 | ((with_reducible refine And.intro ?_ ?_); (focus ((repeat' (first | (with_reducible rfl) | (with_reducible refine And.intro ?_ ?_) | omega | rfl | exact Or.inl rfl | exact Or.inr rfl | exact of_decide_eq_true rfl | exact Path.imp_of (of_decide_eq_true rfl) | (focus ((try simp only [Int.reduceToNat, Int.reduceTDiv, Int.reduceTMod, minL, maxL, pickB, zHB, InK, Path.imp, List.length_replicate, List.length_set, List.length_append, List.length_cons, List.length_nil] at *); omega)) | (refine app_le rfl ?_; omega))); done)); (conv => whnf))
 | ((with_reducible refine And.intro (Side.out ?_) ?_); rotate_left; (conv => whnf))
 | ((first | refine retF1 ?_ | refine retF2 ?_ | refine subF.leaf ?_ | refine subF.side ?_) <;> (conv => whnf) <;> repeat' (first
 | exact trivial
 | (with_reducible rfl)
 | ((with_reducible refine And.intro ?_ ?_) <;> conv => whnf)
 | omega
 | rfl
 | (refine congrArg (SV.arr _) ?_)
 | (refine congrArg (Value.int _) ?_)
 | (refine congrArg Value.bool ?_)))); all_goals (try unfold Side)
  all_goals try (repeat' (first | (with_reducible rfl) | (with_reducible refine And.intro ?_ ?_) | omega | rfl | exact Or.inl rfl | exact Or.inr rfl | exact of_decide_eq_true rfl | exact Path.imp_of (of_decide_eq_true rfl) | (focus ((try simp only [Int.reduceToNat, Int.reduceTDiv, Int.reduceTMod, minL, maxL, pickB, zHB, InK, Path.imp, List.length_replicate, List.length_set, List.length_append, List.length_cons, List.length_nil] at *); omega)) | (refine app_le rfl ?_; omega)))
  all_goals first | exact g1 | exact g2 | exact g3
theorem back_ref {w : List Int} (hl : w.length ≤ 1000) : FnAt Try.prog false 43 [.arr (.int .i64) w] (.own 0) [(0, .row 3 (.int .i64) true w.reverse)] := by
  have hwl : @List.length (Ty.int .i64).T w ≤ 1000 := hl
  refine FnAt.of_body tys_ok Try.func43 (by rfl) rfl Try.ntmps43 (by rw [Try.results43]) (by simp) ?_
  
  repeat' (first
 | refine W.seq ?_
 | refine W.block ?_
 | (refine W.region tys_ok [] ?_; conv => whnf)
 | (refine W.drawAll tys_ok [] mixed rfl ?_; conv => whnf)
 | (refine W.ret ?_; conv => whnf)
 | (refine W.skip ?_; conv => whnf)
 | (refine W.exit ?_; conv => whnf)
 | (refine W.cond rfl (fun hb => ?_) (fun hb => ?_) <;> (try simp only [Int.reduceToNat, Int.reduceTDiv, Int.reduceTMod, minL, maxL, pickB, zHB] at hb) <;> (try (first | (cases hb; done) | exact absurd hb (by decide) | (exfalso; omega))))
 | ((with_reducible refine And.intro ?_ ?_); (focus ((repeat' (first | (with_reducible rfl) | (with_reducible refine And.intro ?_ ?_) | omega | rfl | exact Or.inl rfl | exact Or.inr rfl | exact of_decide_eq_true rfl | exact Path.imp_of (of_decide_eq_true rfl) | (focus ((try simp only [Int.reduceToNat, Int.reduceTDiv, Int.reduceTMod, minL, maxL, pickB, zHB, InK, Path.imp, List.length_replicate, List.length_set, List.length_append, List.length_cons, List.length_nil] at *); omega)) | (refine app_le rfl ?_; omega))); done)); (conv => whnf))
 | ((with_reducible refine And.intro (Side.out ?_) ?_); rotate_left; (conv => whnf))
 | ((first | refine retF1 ?_ | refine retF2 ?_) <;> (conv => whnf) <;> repeat' (first
 | exact trivial
 | (with_reducible rfl)
 | ((with_reducible refine And.intro ?_ ?_) <;> conv => whnf)
 | omega
 | rfl
 | (refine congrArg (SV.arr _) ?_)
 | (refine congrArg (Value.int _) ?_)
 | (refine congrArg Value.bool ?_)))); all_goals (try unfold Side)
  all_goals try (repeat' (first | (with_reducible rfl) | (with_reducible refine And.intro ?_ ?_) | omega | rfl | exact Or.inl rfl | exact Or.inr rfl | exact of_decide_eq_true rfl | exact Path.imp_of (of_decide_eq_true rfl) | (focus ((try simp only [Int.reduceToNat, Int.reduceTDiv, Int.reduceTMod, minL, maxL, pickB, zHB, InK, Path.imp, List.length_replicate, List.length_set, List.length_append, List.length_cons, List.length_nil] at *); omega)) | (refine app_le rfl ?_; omega)))
  refine W.loop (fun i : Nat => ⟨[(0, .st false (.arr (.int .i64) (w : List Int))), (3, .own 900003), (4, .lit (.int .i64 ((i : Int) - 1)))], [(900003, .row 3 (.int .i64) true ((w.drop i).reverse : List Int))]⟩) (fun i => i ≤ w.length) (fun i => i) (w.length) ?_ ?_
  · refine ⟨Nat.le_refl _, ?_⟩
    refine subF.ok ?_ <;> (conv => whnf) <;> repeat' (first
 | exact trivial
 | (with_reducible rfl)
 | ((with_reducible refine And.intro ?_ ?_) <;> conv => whnf)
 | omega
 | rfl
 | (refine congrArg (SV.arr _) ?_)
 | (refine congrArg (Value.int _) ?_)
 | (refine congrArg Value.bool ?_))
    all_goals (have e : (w.drop w.length).reverse = ([] : List Int) := by simp
               exact e.symm)
  · intro i hi
    have hdl : @List.length (Ty.int .i64).T (w.drop i).reverse ≤ 1000 := by show (w.drop i).reverse.length ≤ 1000; simp; omega
    by_cases hil : 0 < i
    · obtain ⟨k, rfl⟩ : ∃ k, i = k + 1 := ⟨i - 1, by omega⟩
      have hk : k < @List.length (Ty.int .i64).T w := hi
      have hs := back_step (xs := w) (i := k) hi
      have he : ((k + 1 : Nat) : Int) - 1 = k := by omega
      have h4 : @List.length (Ty.int .i64).T (w.drop (k + 1)).reverse + 1 ≤ 4294967296 := by omega
      rw [he]
      repeat' (first
 | refine W.seq ?_
 | refine W.block ?_
 | (refine W.region tys_ok [] ?_; conv => whnf)
 | (refine W.drawAll tys_ok [] mixed rfl ?_; conv => whnf)
 | (refine W.ret ?_; conv => whnf)
 | (refine W.skip ?_; conv => whnf)
 | (refine W.exit ?_; conv => whnf)
 | (refine W.cond rfl (fun hb => ?_) (fun hb => ?_) <;> (try simp only [Int.reduceToNat, Int.reduceTDiv, Int.reduceTMod, minL, maxL, pickB, zHB] at hb) <;> (try (first | (cases hb; done) | exact absurd hb (by decide) | (exfalso; omega))))
 | ((with_reducible refine And.intro ?_ ?_); (focus ((repeat' (first | (with_reducible rfl) | (with_reducible refine And.intro ?_ ?_) | omega | rfl | exact Or.inl rfl | exact Or.inr rfl | exact of_decide_eq_true rfl | exact Path.imp_of (of_decide_eq_true rfl) | (focus ((try simp only [Int.reduceToNat, Int.reduceTDiv, Int.reduceTMod, minL, maxL, pickB, zHB, InK, Path.imp, List.length_replicate, List.length_set, List.length_append, List.length_cons, List.length_nil] at *); omega)) | (refine app_le rfl ?_; omega))); done)); (conv => whnf))
 | ((with_reducible refine And.intro (Side.out ?_) ?_); rotate_left; (conv => whnf))
 | ((first | refine retF1 ?_ | refine retF2 ?_) <;> (conv => whnf) <;> repeat' (first
 | exact trivial
 | (with_reducible rfl)
 | ((with_reducible refine And.intro ?_ ?_) <;> conv => whnf)
 | omega
 | rfl
 | (refine congrArg (SV.arr _) ?_)
 | (refine congrArg (Value.int _) ?_)
 | (refine congrArg Value.bool ?_)))); all_goals (try unfold Side)
      all_goals try (repeat' (first | (with_reducible rfl) | (with_reducible refine And.intro ?_ ?_) | omega | rfl | exact Or.inl rfl | exact Or.inr rfl | exact of_decide_eq_true rfl | exact Path.imp_of (of_decide_eq_true rfl) | (focus ((try simp only [Int.reduceToNat, Int.reduceTDiv, Int.reduceTMod, minL, maxL, pickB, zHB, InK, Path.imp, List.length_replicate, List.length_set, List.length_append, List.length_cons, List.length_nil] at *); omega)) | (refine app_le rfl ?_; omega)))
      all_goals try exact h4
      all_goals (refine ⟨k, ⟨by omega, by omega⟩, ?_⟩)
      all_goals refine subF.ok ?_ <;> (conv => whnf) <;> repeat' (first
 | exact trivial
 | (with_reducible rfl)
 | ((with_reducible refine And.intro ?_ ?_) <;> conv => whnf)
 | omega
 | rfl
 | (refine congrArg (SV.arr _) ?_)
 | (refine congrArg (Value.int _) ?_)
 | (refine congrArg Value.bool ?_))
      all_goals exact hs.symm
    · have hie : i = 0 := by omega
      subst hie
      repeat' (first
 | refine W.seq ?_
 | refine W.block ?_
 | (refine W.region tys_ok [] ?_; conv => whnf)
 | (refine W.drawAll tys_ok [] mixed rfl ?_; conv => whnf)
 | (refine W.ret ?_; conv => whnf)
 | (refine W.skip ?_; conv => whnf)
 | (refine W.exit ?_; conv => whnf)
 | (refine W.cond rfl (fun hb => ?_) (fun hb => ?_) <;> (try simp only [Int.reduceToNat, Int.reduceTDiv, Int.reduceTMod, minL, maxL, pickB, zHB] at hb) <;> (try (first | (cases hb; done) | exact absurd hb (by decide) | (exfalso; omega))))
 | ((with_reducible refine And.intro ?_ ?_); (focus ((repeat' (first | (with_reducible rfl) | (with_reducible refine And.intro ?_ ?_) | omega | rfl | exact Or.inl rfl | exact Or.inr rfl | exact of_decide_eq_true rfl | exact Path.imp_of (of_decide_eq_true rfl) | (focus ((try simp only [Int.reduceToNat, Int.reduceTDiv, Int.reduceTMod, minL, maxL, pickB, zHB, InK, Path.imp, List.length_replicate, List.length_set, List.length_append, List.length_cons, List.length_nil] at *); omega)) | (refine app_le rfl ?_; omega))); done)); (conv => whnf))
 | ((with_reducible refine And.intro (Side.out ?_) ?_); rotate_left; (conv => whnf))
 | ((first | refine retF1 ?_ | refine retF2 ?_) <;> (conv => whnf) <;> repeat' (first
 | exact trivial
 | (with_reducible rfl)
 | ((with_reducible refine And.intro ?_ ?_) <;> conv => whnf)
 | omega
 | rfl
 | (refine congrArg (SV.arr _) ?_)
 | (refine congrArg (Value.int _) ?_)
 | (refine congrArg Value.bool ?_)))); all_goals (try unfold Side)
      all_goals try (repeat' (first | (with_reducible rfl) | (with_reducible refine And.intro ?_ ?_) | omega | rfl | exact Or.inl rfl | exact Or.inr rfl | exact of_decide_eq_true rfl | exact Path.imp_of (of_decide_eq_true rfl) | (focus ((try simp only [Int.reduceToNat, Int.reduceTDiv, Int.reduceTMod, minL, maxL, pickB, zHB, InK, Path.imp, List.length_replicate, List.length_set, List.length_append, List.length_cons, List.length_nil] at *); omega)) | (refine app_le rfl ?_; omega)))
set_option maxHeartbeats 4000000 in
theorem named_ref {w : List Int} (hl : w.length ≤ 1000) : FnAt Try.prog false 62 [.arr (.int .i64) w] (.own 0) [(0, .row 3 (.int .i64) true (namedT w))] := by
  have hwl : @List.length (Ty.int .i64).T w ≤ 1000 := hl
  refine FnAt.of_body tys_ok Try.func62 (by rfl) rfl Try.ntmps62 (by rw [Try.results62]) (by simp) ?_
  
  repeat' (first
 | refine W.seq ?_
 | refine W.block ?_
 | (refine W.drawPh (id := 1) tys_ok [] mixed [0, 0, 1, 7] [([], 3, 7), ([3], 0, 15)] (by decide +kernel) ?_; conv => whnf)
 | (refine W.region tys_ok [] ?_; conv => whnf)
 | (refine W.drawAll tys_ok [] mixed rfl ?_; conv => whnf)
 | (refine W.ret ?_; conv => whnf)
 | (refine W.skip ?_; conv => whnf)
 | (refine W.exit ?_; conv => whnf)
 | (refine Both.mk ?_ ?_ <;> (conv => whnf))
 | (refine W.cond rfl (fun hb => ?_) (fun hb => ?_) <;> (try simp only [Int.reduceToNat, Int.reduceTDiv, Int.reduceTMod, minL, maxL, pickB, zHB] at hb) <;> (try (first | (cases hb; done) | exact absurd hb (by decide) | (exfalso; omega))))
 | ((with_reducible refine And.intro ?_ ?_); (focus ((repeat' (first | (with_reducible rfl) | (with_reducible refine And.intro ?_ ?_) | omega | rfl | exact Or.inl rfl | exact Or.inr rfl | exact of_decide_eq_true rfl | exact Path.imp_of (of_decide_eq_true rfl) | (focus ((try simp only [Int.reduceToNat, Int.reduceTDiv, Int.reduceTMod, minL, maxL, pickB, zHB, InK, Path.imp, List.length_replicate, List.length_set, List.length_append, List.length_cons, List.length_nil] at *); omega)) | (refine app_le rfl ?_; omega))); done)); (conv => whnf))
 | ((with_reducible refine And.intro (Side.out ?_) ?_); rotate_left; (conv => whnf))
 | ((first | refine retF1 ?_ | refine retF2 ?_ | refine subF.leaf ?_ | refine subF.side ?_) <;> (conv => whnf) <;> repeat' (first
 | exact trivial
 | (with_reducible rfl)
 | ((with_reducible refine And.intro ?_ ?_) <;> conv => whnf)
 | omega
 | rfl
 | (refine congrArg (SV.arr _) ?_)
 | (refine congrArg (Value.int _) ?_)
 | (refine congrArg Value.bool ?_)))); all_goals (try unfold Side)
  all_goals try (repeat' (first | (with_reducible rfl) | (with_reducible refine And.intro ?_ ?_) | omega | rfl | exact Or.inl rfl | exact Or.inr rfl | exact of_decide_eq_true rfl | exact Path.imp_of (of_decide_eq_true rfl) | (focus ((try simp only [Int.reduceToNat, Int.reduceTDiv, Int.reduceTMod, minL, maxL, pickB, zHB, InK, Path.imp, List.length_replicate, List.length_set, List.length_append, List.length_cons, List.length_nil] at *); omega)) | (refine app_le rfl ?_; omega)))
  refine W.loop (fun i : Nat => ⟨[(0, .st false (.arr (.int .i64) (w : List Int))), (3, .own 900003), (4, .own 900004), (5, .lit (.int .i64 (i)))], [(900003, .row 3 (.int .i64) true ((namesK w i : List Int) : List Int)), (900004, .row 3 (.int .i64) true ((namedK w i : List Int) : List Int))]⟩) (fun i => i ≤ w.length) (fun i => w.length - i) (0) ?_ ?_
  · refine ⟨Nat.zero_le _, ?_⟩
    refine subF.ok ?_ <;> (conv => whnf) <;> repeat' (first
 | exact trivial
 | (with_reducible rfl)
 | ((with_reducible refine And.intro ?_ ?_) <;> conv => whnf)
 | omega
 | rfl
 | (refine congrArg (SV.arr _) ?_)
 | (refine congrArg (Value.int _) ?_)
 | (refine congrArg Value.bool ?_))
  · intro i hi
    have hk : @List.length (Ty.int .i64).T (namedK w i) = i := namedK_len
    have hi' : i ≤ @List.length (Ty.int .i64).T w := hi
    have hnl : @List.length (Ty.int .i64).T (namesK w i) ≤ i := namesK_len
    have hadd := namedK_in (w := w) (i := i)
    have hle := nmI_le (x := w.getD i 0) (l := namesK w i)
    have hfst := fun k => nmI_first (x := w.getD i 0) (l := namesK w i) (k := k)
    by_cases hil : i < w.length
    · have hil' : i < @List.length (Ty.int .i64).T w := hil
      repeat' (first
 | refine W.seq ?_
 | refine W.block ?_
 | (refine W.region tys_ok [] ?_; conv => whnf)
 | (refine W.drawAll tys_ok [] mixed rfl ?_; conv => whnf)
 | (refine W.ret ?_; conv => whnf)
 | (refine W.skip ?_; conv => whnf)
 | (refine W.exit ?_; conv => whnf)
 | (refine W.cond rfl (fun hb => ?_) (fun hb => ?_) <;> (try simp only [Int.reduceToNat, Int.reduceTDiv, Int.reduceTMod, minL, maxL, pickB, zHB] at hb) <;> (try (first | (cases hb; done) | exact absurd hb (by decide) | (exfalso; omega))))
 | ((with_reducible refine And.intro ?_ ?_); (focus ((repeat' (first | (with_reducible rfl) | (with_reducible refine And.intro ?_ ?_) | omega | rfl | exact Or.inl rfl | exact Or.inr rfl | exact of_decide_eq_true rfl | exact Path.imp_of (of_decide_eq_true rfl) | (focus ((try simp only [Int.reduceToNat, Int.reduceTDiv, Int.reduceTMod, minL, maxL, pickB, zHB, InK, Path.imp, List.length_replicate, List.length_set, List.length_append, List.length_cons, List.length_nil] at *); omega)) | (refine app_le rfl ?_; omega))); done)); (conv => whnf))
 | ((with_reducible refine And.intro (Side.out ?_) ?_); rotate_left; (conv => whnf))
 | ((first | refine retF1 ?_ | refine retF2 ?_) <;> (conv => whnf) <;> repeat' (first
 | exact trivial
 | (with_reducible rfl)
 | ((with_reducible refine And.intro ?_ ?_) <;> conv => whnf)
 | omega
 | rfl
 | (refine congrArg (SV.arr _) ?_)
 | (refine congrArg (Value.int _) ?_)
 | (refine congrArg Value.bool ?_)))); all_goals (try unfold Side)
      all_goals try (repeat' (first | (with_reducible rfl) | (with_reducible refine And.intro ?_ ?_) | omega | rfl | exact Or.inl rfl | exact Or.inr rfl | exact of_decide_eq_true rfl | exact Path.imp_of (of_decide_eq_true rfl) | (focus ((try simp only [Int.reduceToNat, Int.reduceTDiv, Int.reduceTMod, minL, maxL, pickB, zHB, InK, Path.imp, List.length_replicate, List.length_set, List.length_append, List.length_cons, List.length_nil] at *); omega)) | (refine app_le rfl ?_; omega)))
      refine W.loop (fun k : Nat => ⟨[(0, .st false (.arr (.int .i64) (w : List Int))), (3, .own 900003), (4, .own 900004), (5, .lit (.int .i64 (i))), (6, .lit (.int .i64 (k)))], [(900003, .row 3 (.int .i64) true ((namesK w i : List Int) : List Int)), (900004, .row 3 (.int .i64) true ((namedK w i : List Int) : List Int))]⟩) (fun k => k ≤ nmI (w.getD i 0) (namesK w i)) (fun k => (namesK w i).length - k) (0) ?_ ?_
      · refine ⟨Nat.zero_le _, ?_⟩
        refine subF.ok ?_ <;> (conv => whnf) <;> repeat' (first
 | exact trivial
 | (with_reducible rfl)
 | ((with_reducible refine And.intro ?_ ?_) <;> conv => whnf)
 | omega
 | rfl
 | (refine congrArg (SV.arr _) ?_)
 | (refine congrArg (Value.int _) ?_)
 | (refine congrArg Value.bool ?_))
      · intro k hk
        have hkl : k ≤ @List.length (Ty.int .i64).T (namesK w i) := Nat.le_trans hk hle
        by_cases hkn : k < nmI (w.getD i 0) (namesK w i)
        · have h1 := hfst k hkn
          have hkl' : k < @List.length (Ty.int .i64).T (namesK w i) := Nat.lt_of_lt_of_le hkn hle
          repeat' (first
 | refine W.seq ?_
 | refine W.block ?_
 | (refine W.drawPh (id := 6) tys_ok [] mixed [0, 0, 2, 5, 8, 16, 16, 112, 144, 16, 16, 1552, 2064, 4368, 8208] [([0, 1], 1, 7), ([3, 4, 5, 6, 7, 9, 10, 11, 12], 1, 8191), ([13, 14], 0, 32767)] (by decide +kernel) ?_; conv => whnf)
 | (refine W.region tys_ok [] ?_; conv => whnf)
 | (refine W.drawAll tys_ok [] mixed rfl ?_; conv => whnf)
 | (refine W.ret ?_; conv => whnf)
 | (refine W.skip ?_; conv => whnf)
 | (refine W.exit ?_; conv => whnf)
 | (refine Both.mk ?_ ?_ <;> (conv => whnf))
 | (refine W.cond rfl (fun hb => ?_) (fun hb => ?_) <;> (try simp only [Int.reduceToNat, Int.reduceTDiv, Int.reduceTMod, minL, maxL, pickB, zHB] at hb) <;> (try (first | (cases hb; done) | exact absurd hb (by decide) | (exfalso; omega) | (exact h1 (by omega)) | (rcases hb with hb | hb; omega; exact h1 hb))))
 | ((with_reducible refine And.intro ?_ ?_); (focus ((repeat' (first | (with_reducible rfl) | (with_reducible refine And.intro ?_ ?_) | omega | rfl | exact Or.inl rfl | exact Or.inr rfl | exact of_decide_eq_true rfl | exact Path.imp_of (of_decide_eq_true rfl) | (focus ((try simp only [Int.reduceToNat, Int.reduceTDiv, Int.reduceTMod, minL, maxL, pickB, zHB, InK, Path.imp, List.length_replicate, List.length_set, List.length_append, List.length_cons, List.length_nil] at *); omega)) | (refine app_le rfl ?_; omega))); done)); (conv => whnf))
 | ((with_reducible refine And.intro (Side.out ?_) ?_); rotate_left; (conv => whnf))
 | ((first | refine retF1 ?_ | refine retF2 ?_ | refine subF.leaf ?_ | refine subF.side ?_) <;> (conv => whnf) <;> repeat' (first
 | exact trivial
 | (with_reducible rfl)
 | ((with_reducible refine And.intro ?_ ?_) <;> conv => whnf)
 | omega
 | rfl
 | (refine congrArg (SV.arr _) ?_)
 | (refine congrArg (Value.int _) ?_)
 | (refine congrArg Value.bool ?_)))); all_goals (try unfold Side)
          all_goals try (repeat' (first | (with_reducible rfl) | (with_reducible refine And.intro ?_ ?_) | omega | rfl | exact Or.inl rfl | exact Or.inr rfl | exact of_decide_eq_true rfl | exact Path.imp_of (of_decide_eq_true rfl) | (focus ((try simp only [Int.reduceToNat, Int.reduceTDiv, Int.reduceTMod, minL, maxL, pickB, zHB, InK, Path.imp, List.length_replicate, List.length_set, List.length_append, List.length_cons, List.length_nil] at *); omega)) | (refine app_le rfl ?_; omega)))
          refine ⟨k + 1, ⟨by omega, by omega⟩, ?_⟩
          refine subF.ok ?_ <;> (conv => whnf) <;> repeat' (first
 | exact trivial
 | (with_reducible rfl)
 | ((with_reducible refine And.intro ?_ ?_) <;> conv => whnf)
 | omega
 | rfl
 | (refine congrArg (SV.arr _) ?_)
 | (refine congrArg (Value.int _) ?_)
 | (refine congrArg Value.bool ?_))
        · have hke : nmI (w.getD i 0) (namesK w i) = k := by omega
          subst hke
          by_cases hm : w.getD i 0 ∈ namesK w i
          · have h1 := nmI_get hm
            have h2 : nmI (w.getD i 0) (namesK w i) < @List.length (Ty.int .i64).T (namesK w i) := nmI_lt.1 hm
            have hn := namesK_in (w := w) (i := i) hm
            repeat' (first
 | refine W.seq ?_
 | refine W.block ?_
 | (refine W.drawPh (id := 6) tys_ok [] mixed [0, 0, 2, 5, 8, 16, 16, 112, 144, 16, 16, 1552, 2064, 4368, 8208] [([0, 1], 1, 7), ([3, 4, 5, 6, 7, 9, 10, 11, 12], 1, 8191), ([13, 14], 0, 32767)] (by decide +kernel) ?_; conv => whnf)
 | (refine W.region tys_ok [] ?_; conv => whnf)
 | (refine W.drawAll tys_ok [] mixed rfl ?_; conv => whnf)
 | (refine W.ret ?_; conv => whnf)
 | (refine W.skip ?_; conv => whnf)
 | (refine W.exit ?_; conv => whnf)
 | (refine Both.mk ?_ ?_ <;> (conv => whnf))
 | (refine W.cond rfl (fun hb => ?_) (fun hb => ?_) <;> (try simp only [Int.reduceToNat, Int.reduceTDiv, Int.reduceTMod, minL, maxL, pickB, zHB] at hb) <;> (try (first | (cases hb; done) | exact absurd hb (by decide) | (exfalso; omega) | (exact hb.2 h1))))
 | ((with_reducible refine And.intro ?_ ?_); (focus ((repeat' (first | (with_reducible rfl) | (with_reducible refine And.intro ?_ ?_) | omega | rfl | exact Or.inl rfl | exact Or.inr rfl | exact of_decide_eq_true rfl | exact Path.imp_of (of_decide_eq_true rfl) | (focus ((try simp only [Int.reduceToNat, Int.reduceTDiv, Int.reduceTMod, minL, maxL, pickB, zHB, InK, Path.imp, List.length_replicate, List.length_set, List.length_append, List.length_cons, List.length_nil] at *); omega)) | (refine app_le rfl ?_; omega))); done)); (conv => whnf))
 | ((with_reducible refine And.intro (Side.out ?_) ?_); rotate_left; (conv => whnf))
 | ((first | refine retF1 ?_ | refine retF2 ?_ | refine subF.leaf ?_ | refine subF.side ?_) <;> (conv => whnf) <;> repeat' (first
 | exact trivial
 | (with_reducible rfl)
 | ((with_reducible refine And.intro ?_ ?_) <;> conv => whnf)
 | omega
 | rfl
 | (refine congrArg (SV.arr _) ?_)
 | (refine congrArg (Value.int _) ?_)
 | (refine congrArg Value.bool ?_)))); all_goals (try unfold Side)
            all_goals try (repeat' (first | (with_reducible rfl) | (with_reducible refine And.intro ?_ ?_) | omega | rfl | exact Or.inl rfl | exact Or.inr rfl | exact of_decide_eq_true rfl | exact Path.imp_of (of_decide_eq_true rfl) | (focus ((try simp only [Int.reduceToNat, Int.reduceTDiv, Int.reduceTMod, minL, maxL, pickB, zHB, InK, Path.imp, List.length_replicate, List.length_set, List.length_append, List.length_cons, List.length_nil] at *); omega)) | (refine app_le rfl ?_; omega)))
            refine ⟨i + 1, ⟨by omega, by omega⟩, ?_⟩
            rw [hn]
            refine subF.ok ?_ <;> (conv => whnf) <;> repeat' (first
 | exact trivial
 | (with_reducible rfl)
 | ((with_reducible refine And.intro ?_ ?_) <;> conv => whnf)
 | omega
 | rfl
 | (refine congrArg (SV.arr _) ?_)
 | (refine congrArg (Value.int _) ?_)
 | (refine congrArg Value.bool ?_))
            all_goals exact hadd.symm
          · have h2 : nmI (w.getD i 0) (namesK w i) = @List.length (Ty.int .i64).T (namesK w i) := nmI_end hm
            have hn := (namesK_out (w := w) (i := i) hm).symm
            repeat' (first
 | refine W.seq ?_
 | refine W.block ?_
 | (refine W.drawPh (id := 6) tys_ok [] mixed [0, 0, 2, 5, 8, 16, 16, 112, 144, 16, 16, 1552, 2064, 4368, 8208] [([0, 1], 1, 7), ([3, 4, 5, 6, 7, 9, 10, 11, 12], 1, 8191), ([13, 14], 0, 32767)] (by decide +kernel) ?_; conv => whnf)
 | (refine W.region tys_ok [] ?_; conv => whnf)
 | (refine W.drawAll tys_ok [] mixed rfl ?_; conv => whnf)
 | (refine W.ret ?_; conv => whnf)
 | (refine W.skip ?_; conv => whnf)
 | (refine W.exit ?_; conv => whnf)
 | (refine Both.mk ?_ ?_ <;> (conv => whnf))
 | (refine W.cond rfl (fun hb => ?_) (fun hb => ?_) <;> (try simp only [Int.reduceToNat, Int.reduceTDiv, Int.reduceTMod, minL, maxL, pickB, zHB] at hb) <;> (try (first | (cases hb; done) | exact absurd hb (by decide) | (exfalso; omega))))
 | ((with_reducible refine And.intro ?_ ?_); (focus ((repeat' (first | (with_reducible rfl) | (with_reducible refine And.intro ?_ ?_) | omega | rfl | exact Or.inl rfl | exact Or.inr rfl | exact of_decide_eq_true rfl | exact Path.imp_of (of_decide_eq_true rfl) | (focus ((try simp only [Int.reduceToNat, Int.reduceTDiv, Int.reduceTMod, minL, maxL, pickB, zHB, InK, Path.imp, List.length_replicate, List.length_set, List.length_append, List.length_cons, List.length_nil] at *); omega)) | (refine app_le rfl ?_; omega))); done)); (conv => whnf))
 | ((with_reducible refine And.intro (Side.out ?_) ?_); rotate_left; (conv => whnf))
 | ((first | refine retF1 ?_ | refine retF2 ?_ | refine subF.leaf ?_ | refine subF.side ?_) <;> (conv => whnf) <;> repeat' (first
 | exact trivial
 | (with_reducible rfl)
 | ((with_reducible refine And.intro ?_ ?_) <;> conv => whnf)
 | omega
 | rfl
 | (refine congrArg (SV.arr _) ?_)
 | (refine congrArg (Value.int _) ?_)
 | (refine congrArg Value.bool ?_)))); all_goals (try unfold Side)
            all_goals try (repeat' (first | (with_reducible rfl) | (with_reducible refine And.intro ?_ ?_) | omega | rfl | exact Or.inl rfl | exact Or.inr rfl | exact of_decide_eq_true rfl | exact Path.imp_of (of_decide_eq_true rfl) | (focus ((try simp only [Int.reduceToNat, Int.reduceTDiv, Int.reduceTMod, minL, maxL, pickB, zHB, InK, Path.imp, List.length_replicate, List.length_set, List.length_append, List.length_cons, List.length_nil] at *); omega)) | (refine app_le rfl ?_; omega)))
            refine ⟨i + 1, ⟨by omega, by omega⟩, ?_⟩
            refine subF.ok ?_ <;> (conv => whnf) <;> repeat' (first
 | exact trivial
 | (with_reducible rfl)
 | ((with_reducible refine And.intro ?_ ?_) <;> conv => whnf)
 | omega
 | rfl
 | (refine congrArg (SV.arr _) ?_)
 | (refine congrArg (Value.int _) ?_)
 | (refine congrArg Value.bool ?_))
            all_goals first | exact hadd.symm | exact hn
    · have hie : w.length = i := by omega
      subst hie
      repeat' (first
 | refine W.seq ?_
 | refine W.block ?_
 | (refine W.region tys_ok [] ?_; conv => whnf)
 | (refine W.drawAll tys_ok [] mixed rfl ?_; conv => whnf)
 | (refine W.ret ?_; conv => whnf)
 | (refine W.skip ?_; conv => whnf)
 | (refine W.exit ?_; conv => whnf)
 | (refine W.cond rfl (fun hb => ?_) (fun hb => ?_) <;> (try simp only [Int.reduceToNat, Int.reduceTDiv, Int.reduceTMod, minL, maxL, pickB, zHB] at hb) <;> (try (first | (cases hb; done) | exact absurd hb (by decide) | (exfalso; omega))))
 | ((with_reducible refine And.intro ?_ ?_); (focus ((repeat' (first | (with_reducible rfl) | (with_reducible refine And.intro ?_ ?_) | omega | rfl | exact Or.inl rfl | exact Or.inr rfl | exact of_decide_eq_true rfl | exact Path.imp_of (of_decide_eq_true rfl) | (focus ((try simp only [Int.reduceToNat, Int.reduceTDiv, Int.reduceTMod, minL, maxL, pickB, zHB, InK, Path.imp, List.length_replicate, List.length_set, List.length_append, List.length_cons, List.length_nil] at *); omega)) | (refine app_le rfl ?_; omega))); done)); (conv => whnf))
 | ((with_reducible refine And.intro (Side.out ?_) ?_); rotate_left; (conv => whnf))
 | ((first | refine retF1 ?_ | refine retF2 ?_) <;> (conv => whnf) <;> repeat' (first
 | exact trivial
 | (with_reducible rfl)
 | ((with_reducible refine And.intro ?_ ?_) <;> conv => whnf)
 | omega
 | rfl
 | (refine congrArg (SV.arr _) ?_)
 | (refine congrArg (Value.int _) ?_)
 | (refine congrArg Value.bool ?_)))); all_goals (try unfold Side)
      all_goals try (repeat' (first | (with_reducible rfl) | (with_reducible refine And.intro ?_ ?_) | omega | rfl | exact Or.inl rfl | exact Or.inr rfl | exact of_decide_eq_true rfl | exact Path.imp_of (of_decide_eq_true rfl) | (focus ((try simp only [Int.reduceToNat, Int.reduceTDiv, Int.reduceTMod, minL, maxL, pickB, zHB, InK, Path.imp, List.length_replicate, List.length_set, List.length_append, List.length_cons, List.length_nil] at *); omega)) | (refine app_le rfl ?_; omega)))
set_option maxHeartbeats 4000000 in
theorem less_ref {a b : List Int} (ha : a.length ≤ 1000) (hb : b.length ≤ 1000) : FnAt Try.prog false 63 [.arr (.int .i64) a, .arr (.int .i64) b] (.lit (.bool (lessL a b))) [] := by
  have hal : @List.length (Ty.int .i64).T a ≤ 1000 := ha
  have hbl : @List.length (Ty.int .i64).T b ≤ 1000 := hb
  obtain ⟨R, hR⟩ : ∃ R, R = lessL a b := ⟨_, rfl⟩
  rw [← hR]
  refine FnAt.of_body tys_ok Try.func63 (by rfl) rfl Try.ntmps63 (by rw [Try.results63]) (by simp) ?_
  
  repeat' (first
 | refine W.seq ?_
 | refine W.block ?_
 | (refine W.region tys_ok [] ?_; conv => whnf)
 | (refine W.drawAll tys_ok [] mixed rfl ?_; conv => whnf)
 | (refine W.ret ?_; conv => whnf)
 | (refine W.skip ?_; conv => whnf)
 | (refine W.exit ?_; conv => whnf)
 | (refine W.cond rfl (fun hb => ?_) (fun hb => ?_) <;> (try simp only [Int.reduceToNat, Int.reduceTDiv, Int.reduceTMod, minL, maxL, pickB, zHB] at hb) <;> (try (first | (cases hb; done) | exact absurd hb (by decide) | (exfalso; omega))))
 | ((with_reducible refine And.intro ?_ ?_); (focus ((repeat' (first | (with_reducible rfl) | (with_reducible refine And.intro ?_ ?_) | omega | rfl | exact Or.inl rfl | exact Or.inr rfl | exact of_decide_eq_true rfl | exact Path.imp_of (of_decide_eq_true rfl) | (focus ((try simp only [Int.reduceToNat, Int.reduceTDiv, Int.reduceTMod, minL, maxL, pickB, zHB, InK, Path.imp, List.length_replicate, List.length_set, List.length_append, List.length_cons, List.length_nil] at *); omega)) | (refine app_le rfl ?_; omega))); done)); (conv => whnf))
 | ((with_reducible refine And.intro (Side.out ?_) ?_); rotate_left; (conv => whnf))
 | ((first | refine retF1 ?_ | refine retF2 ?_) <;> (conv => whnf) <;> repeat' (first
 | exact trivial
 | (with_reducible rfl)
 | ((with_reducible refine And.intro ?_ ?_) <;> conv => whnf)
 | omega
 | rfl
 | (refine congrArg (SV.arr _) ?_)
 | (refine congrArg (Value.int _) ?_)
 | (refine congrArg Value.bool ?_)))); all_goals (try unfold Side)
  all_goals try (repeat' (first | (with_reducible rfl) | (with_reducible refine And.intro ?_ ?_) | omega | rfl | exact Or.inl rfl | exact Or.inr rfl | exact of_decide_eq_true rfl | exact Path.imp_of (of_decide_eq_true rfl) | (focus ((try simp only [Int.reduceToNat, Int.reduceTDiv, Int.reduceTMod, minL, maxL, pickB, zHB, InK, Path.imp, List.length_replicate, List.length_set, List.length_append, List.length_cons, List.length_nil] at *); omega)) | (refine app_le rfl ?_; omega)))
  refine W.loop (fun i : Nat => ⟨[(0, .st false (.arr (.int .i64) (a : List Int))), (1, .st false (.arr (.int .i64) (b : List Int))), (5, .lit (.int .i64 (i)))], []⟩) (fun i => i ≤ a.length ∧ i ≤ b.length ∧ lessL (a.drop i) (b.drop i) = R) (fun i => a.length - i) (0) ?_ ?_
  · refine ⟨⟨Nat.zero_le _, Nat.zero_le _, by rw [hR]; rfl⟩, ?_⟩
    refine subF.ok ?_ <;> (conv => whnf) <;> repeat' (first
 | exact trivial
 | (with_reducible rfl)
 | ((with_reducible refine And.intro ?_ ?_) <;> conv => whnf)
 | omega
 | rfl
 | (refine congrArg (SV.arr _) ?_)
 | (refine congrArg (Value.int _) ?_)
 | (refine congrArg Value.bool ?_))
  · rintro i ⟨hi, hi2, hc⟩
    have hi' : i ≤ @List.length (Ty.int .i64).T a := hi
    have hi2' : i ≤ @List.length (Ty.int .i64).T b := hi2
    by_cases hil : i < a.length
    · have hil' : i < @List.length (Ty.int .i64).T a := hil
      rw [show a.drop i = a.getD i 0 :: a.drop (i + 1) by rw [List.drop_eq_getElem_cons hil]; simp [List.getD, hil]] at hc
      by_cases hib : i < b.length
      · have hib' : i < @List.length (Ty.int .i64).T b := hib
        rw [show b.drop i = b.getD i 0 :: b.drop (i + 1) by rw [List.drop_eq_getElem_cons hib]; simp [List.getD, hib]] at hc
        rw [lessL] at hc
        by_cases e1 : a.getD i 0 = b.getD i 0
        · rw [if_pos e1] at hc
          repeat' (first
 | refine W.seq ?_
 | refine W.block ?_
 | (refine W.drawPh (id := 4) tys_ok [] mixed [0, 0, 3, 4, 0, 0, 48, 64, 136] [([0, 1, 2, 3, 4, 5, 6, 7, 8], 0, 511)] (by decide +kernel) ?_; conv => whnf)
 | (refine W.drawPh (id := 5) tys_ok [] mixed [0, 0, 3, 4, 0, 0, 48, 64, 136, 511] [([0, 1, 2, 3, 4, 5, 6, 7, 8, 9], 0, 1023)] (by decide +kernel) ?_; conv => whnf)
 | (refine W.region tys_ok [] ?_; conv => whnf)
 | (refine W.drawAll tys_ok [] mixed rfl ?_; conv => whnf)
 | (refine W.ret ?_; conv => whnf)
 | (refine W.skip ?_; conv => whnf)
 | (refine W.exit ?_; conv => whnf)
 | (refine Both.mk ?_ ?_ <;> (conv => whnf))
 | (refine W.cond rfl (fun hb => ?_) (fun hb => ?_) <;> (try simp only [Int.reduceToNat, Int.reduceTDiv, Int.reduceTMod, minL, maxL, pickB, zHB] at hb) <;> (try (first | (cases hb; done) | exact absurd hb (by decide) | (exfalso; omega) | (exact hb e1))))
 | ((with_reducible refine And.intro ?_ ?_); (focus ((repeat' (first | (with_reducible rfl) | (with_reducible refine And.intro ?_ ?_) | omega | rfl | exact Or.inl rfl | exact Or.inr rfl | exact of_decide_eq_true rfl | exact Path.imp_of (of_decide_eq_true rfl) | (focus ((try simp only [Int.reduceToNat, Int.reduceTDiv, Int.reduceTMod, minL, maxL, pickB, zHB, InK, Path.imp, List.length_replicate, List.length_set, List.length_append, List.length_cons, List.length_nil] at *); omega)) | (refine app_le rfl ?_; omega))); done)); (conv => whnf))
 | ((with_reducible refine And.intro (Side.out ?_) ?_); rotate_left; (conv => whnf))
 | ((first | refine retF1 ?_ | refine retF2 ?_ | refine subF.leaf ?_ | refine subF.side ?_) <;> (conv => whnf) <;> repeat' (first
 | exact trivial
 | (with_reducible rfl)
 | ((with_reducible refine And.intro ?_ ?_) <;> conv => whnf)
 | omega
 | rfl
 | (refine congrArg (SV.arr _) ?_)
 | (refine congrArg (Value.int _) ?_)
 | (refine congrArg Value.bool ?_)))); all_goals (try unfold Side)
          all_goals try (repeat' (first | (with_reducible rfl) | (with_reducible refine And.intro ?_ ?_) | omega | rfl | exact Or.inl rfl | exact Or.inr rfl | exact of_decide_eq_true rfl | exact Path.imp_of (of_decide_eq_true rfl) | (focus ((try simp only [Int.reduceToNat, Int.reduceTDiv, Int.reduceTMod, minL, maxL, pickB, zHB, InK, Path.imp, List.length_replicate, List.length_set, List.length_append, List.length_cons, List.length_nil] at *); omega)) | (refine app_le rfl ?_; omega)))
          refine ⟨i + 1, ⟨⟨by omega, by omega, hc⟩, by omega⟩, ?_⟩
          refine subF.ok ?_ <;> (conv => whnf) <;> repeat' (first
 | exact trivial
 | (with_reducible rfl)
 | ((with_reducible refine And.intro ?_ ?_) <;> conv => whnf)
 | omega
 | rfl
 | (refine congrArg (SV.arr _) ?_)
 | (refine congrArg (Value.int _) ?_)
 | (refine congrArg Value.bool ?_))
        · rw [if_neg e1] at hc
          repeat' (first
 | refine W.seq ?_
 | refine W.block ?_
 | (refine W.drawPh (id := 4) tys_ok [] mixed [0, 0, 3, 4, 0, 0, 48, 64, 136] [([0, 1, 2, 3, 4, 5, 6, 7, 8], 0, 511)] (by decide +kernel) ?_; conv => whnf)
 | (refine W.drawPh (id := 5) tys_ok [] mixed [0, 0, 3, 4, 0, 0, 48, 64, 136, 511] [([0, 1, 2, 3, 4, 5, 6, 7, 8, 9], 0, 1023)] (by decide +kernel) ?_; conv => whnf)
 | (refine W.region tys_ok [] ?_; conv => whnf)
 | (refine W.drawAll tys_ok [] mixed rfl ?_; conv => whnf)
 | (refine W.ret ?_; conv => whnf)
 | (refine W.skip ?_; conv => whnf)
 | (refine W.exit ?_; conv => whnf)
 | (refine Both.mk ?_ ?_ <;> (conv => whnf))
 | (refine W.cond rfl (fun hb => ?_) (fun hb => ?_) <;> (try simp only [Int.reduceToNat, Int.reduceTDiv, Int.reduceTMod, minL, maxL, pickB, zHB] at hb) <;> (try (first | (cases hb; done) | exact absurd hb (by decide) | (exfalso; omega) | (exact e1 hb))))
 | ((with_reducible refine And.intro ?_ ?_); (focus ((repeat' (first | (with_reducible rfl) | (with_reducible refine And.intro ?_ ?_) | omega | rfl | exact Or.inl rfl | exact Or.inr rfl | exact of_decide_eq_true rfl | exact Path.imp_of (of_decide_eq_true rfl) | (focus ((try simp only [Int.reduceToNat, Int.reduceTDiv, Int.reduceTMod, minL, maxL, pickB, zHB, InK, Path.imp, List.length_replicate, List.length_set, List.length_append, List.length_cons, List.length_nil] at *); omega)) | (refine app_le rfl ?_; omega))); done)); (conv => whnf))
 | ((with_reducible refine And.intro (Side.out ?_) ?_); rotate_left; (conv => whnf))
 | ((first | refine retF1 ?_ | refine retF2 ?_ | refine subF.leaf ?_ | refine subF.side ?_) <;> (conv => whnf) <;> repeat' (first
 | exact trivial
 | (with_reducible rfl)
 | ((with_reducible refine And.intro ?_ ?_) <;> conv => whnf)
 | omega
 | rfl
 | (refine congrArg (SV.arr _) ?_)
 | (refine congrArg (Value.int _) ?_)
 | (refine congrArg Value.bool ?_)))); all_goals (try unfold Side)
          all_goals try (repeat' (first | (with_reducible rfl) | (with_reducible refine And.intro ?_ ?_) | omega | rfl | exact Or.inl rfl | exact Or.inr rfl | exact of_decide_eq_true rfl | exact Path.imp_of (of_decide_eq_true rfl) | (focus ((try simp only [Int.reduceToNat, Int.reduceTDiv, Int.reduceTMod, minL, maxL, pickB, zHB, InK, Path.imp, List.length_replicate, List.length_set, List.length_append, List.length_cons, List.length_nil] at *); omega)) | (refine app_le rfl ?_; omega)))
          all_goals exact hc
      · have hib' : ¬ i < @List.length (Ty.int .i64).T b := hib
        rw [List.drop_of_length_le (l := b) (by omega)] at hc
        have hc' : decide ((@List.length (Ty.int .i64).T a : Int) < @List.length (Ty.int .i64).T b) = R := by rw [← hc]; exact decide_eq_false (by omega)
        repeat' (first
 | refine W.seq ?_
 | refine W.block ?_
 | (refine W.region tys_ok [] ?_; conv => whnf)
 | (refine W.drawAll tys_ok [] mixed rfl ?_; conv => whnf)
 | (refine W.ret ?_; conv => whnf)
 | (refine W.skip ?_; conv => whnf)
 | (refine W.exit ?_; conv => whnf)
 | (refine W.cond rfl (fun hb => ?_) (fun hb => ?_) <;> (try simp only [Int.reduceToNat, Int.reduceTDiv, Int.reduceTMod, minL, maxL, pickB, zHB] at hb) <;> (try (first | (cases hb; done) | exact absurd hb (by decide) | (exfalso; omega))))
 | ((with_reducible refine And.intro ?_ ?_); (focus ((repeat' (first | (with_reducible rfl) | (with_reducible refine And.intro ?_ ?_) | omega | rfl | exact Or.inl rfl | exact Or.inr rfl | exact of_decide_eq_true rfl | exact Path.imp_of (of_decide_eq_true rfl) | (focus ((try simp only [Int.reduceToNat, Int.reduceTDiv, Int.reduceTMod, minL, maxL, pickB, zHB, InK, Path.imp, List.length_replicate, List.length_set, List.length_append, List.length_cons, List.length_nil] at *); omega)) | (refine app_le rfl ?_; omega))); done)); (conv => whnf))
 | ((with_reducible refine And.intro (Side.out ?_) ?_); rotate_left; (conv => whnf))
 | ((first | refine retF1 ?_ | refine retF2 ?_) <;> (conv => whnf) <;> repeat' (first
 | exact trivial
 | (with_reducible rfl)
 | ((with_reducible refine And.intro ?_ ?_) <;> conv => whnf)
 | omega
 | rfl
 | (refine congrArg (SV.arr _) ?_)
 | (refine congrArg (Value.int _) ?_)
 | (refine congrArg Value.bool ?_)))); all_goals (try unfold Side)
        all_goals try (repeat' (first | (with_reducible rfl) | (with_reducible refine And.intro ?_ ?_) | omega | rfl | exact Or.inl rfl | exact Or.inr rfl | exact of_decide_eq_true rfl | exact Path.imp_of (of_decide_eq_true rfl) | (focus ((try simp only [Int.reduceToNat, Int.reduceTDiv, Int.reduceTMod, minL, maxL, pickB, zHB, InK, Path.imp, List.length_replicate, List.length_set, List.length_append, List.length_cons, List.length_nil] at *); omega)) | (refine app_le rfl ?_; omega)))
        all_goals exact hc'
    · have hie : a.length = i := by omega
      have hie' : @List.length (Ty.int .i64).T a = i := hie
      rw [List.drop_of_length_le (l := a) (by omega)] at hc
      by_cases hib : i < b.length
      · have hib' : i < @List.length (Ty.int .i64).T b := hib
        have hc' : decide ((@List.length (Ty.int .i64).T a : Int) < @List.length (Ty.int .i64).T b) = R := by
          rw [show b.drop i = b.getD i 0 :: b.drop (i + 1) by rw [List.drop_eq_getElem_cons hib]; simp [List.getD, hib]] at hc
          rw [← hc]; exact decide_eq_true (by omega)
        repeat' (first
 | refine W.seq ?_
 | refine W.block ?_
 | (refine W.region tys_ok [] ?_; conv => whnf)
 | (refine W.drawAll tys_ok [] mixed rfl ?_; conv => whnf)
 | (refine W.ret ?_; conv => whnf)
 | (refine W.skip ?_; conv => whnf)
 | (refine W.exit ?_; conv => whnf)
 | (refine W.cond rfl (fun hb => ?_) (fun hb => ?_) <;> (try simp only [Int.reduceToNat, Int.reduceTDiv, Int.reduceTMod, minL, maxL, pickB, zHB] at hb) <;> (try (first | (cases hb; done) | exact absurd hb (by decide) | (exfalso; omega))))
 | ((with_reducible refine And.intro ?_ ?_); (focus ((repeat' (first | (with_reducible rfl) | (with_reducible refine And.intro ?_ ?_) | omega | rfl | exact Or.inl rfl | exact Or.inr rfl | exact of_decide_eq_true rfl | exact Path.imp_of (of_decide_eq_true rfl) | (focus ((try simp only [Int.reduceToNat, Int.reduceTDiv, Int.reduceTMod, minL, maxL, pickB, zHB, InK, Path.imp, List.length_replicate, List.length_set, List.length_append, List.length_cons, List.length_nil] at *); omega)) | (refine app_le rfl ?_; omega))); done)); (conv => whnf))
 | ((with_reducible refine And.intro (Side.out ?_) ?_); rotate_left; (conv => whnf))
 | ((first | refine retF1 ?_ | refine retF2 ?_) <;> (conv => whnf) <;> repeat' (first
 | exact trivial
 | (with_reducible rfl)
 | ((with_reducible refine And.intro ?_ ?_) <;> conv => whnf)
 | omega
 | rfl
 | (refine congrArg (SV.arr _) ?_)
 | (refine congrArg (Value.int _) ?_)
 | (refine congrArg Value.bool ?_)))); all_goals (try unfold Side)
        all_goals try (repeat' (first | (with_reducible rfl) | (with_reducible refine And.intro ?_ ?_) | omega | rfl | exact Or.inl rfl | exact Or.inr rfl | exact of_decide_eq_true rfl | exact Path.imp_of (of_decide_eq_true rfl) | (focus ((try simp only [Int.reduceToNat, Int.reduceTDiv, Int.reduceTMod, minL, maxL, pickB, zHB, InK, Path.imp, List.length_replicate, List.length_set, List.length_append, List.length_cons, List.length_nil] at *); omega)) | (refine app_le rfl ?_; omega)))
        all_goals exact hc'
      · have hib' : ¬ i < @List.length (Ty.int .i64).T b := hib
        have hc' : decide ((@List.length (Ty.int .i64).T a : Int) < @List.length (Ty.int .i64).T b) = R := by
          rw [List.drop_of_length_le (l := b) (by omega)] at hc
          rw [← hc]; exact decide_eq_false (by omega)
        repeat' (first
 | refine W.seq ?_
 | refine W.block ?_
 | (refine W.region tys_ok [] ?_; conv => whnf)
 | (refine W.drawAll tys_ok [] mixed rfl ?_; conv => whnf)
 | (refine W.ret ?_; conv => whnf)
 | (refine W.skip ?_; conv => whnf)
 | (refine W.exit ?_; conv => whnf)
 | (refine W.cond rfl (fun hb => ?_) (fun hb => ?_) <;> (try simp only [Int.reduceToNat, Int.reduceTDiv, Int.reduceTMod, minL, maxL, pickB, zHB] at hb) <;> (try (first | (cases hb; done) | exact absurd hb (by decide) | (exfalso; omega))))
 | ((with_reducible refine And.intro ?_ ?_); (focus ((repeat' (first | (with_reducible rfl) | (with_reducible refine And.intro ?_ ?_) | omega | rfl | exact Or.inl rfl | exact Or.inr rfl | exact of_decide_eq_true rfl | exact Path.imp_of (of_decide_eq_true rfl) | (focus ((try simp only [Int.reduceToNat, Int.reduceTDiv, Int.reduceTMod, minL, maxL, pickB, zHB, InK, Path.imp, List.length_replicate, List.length_set, List.length_append, List.length_cons, List.length_nil] at *); omega)) | (refine app_le rfl ?_; omega))); done)); (conv => whnf))
 | ((with_reducible refine And.intro (Side.out ?_) ?_); rotate_left; (conv => whnf))
 | ((first | refine retF1 ?_ | refine retF2 ?_) <;> (conv => whnf) <;> repeat' (first
 | exact trivial
 | (with_reducible rfl)
 | ((with_reducible refine And.intro ?_ ?_) <;> conv => whnf)
 | omega
 | rfl
 | (refine congrArg (SV.arr _) ?_)
 | (refine congrArg (Value.int _) ?_)
 | (refine congrArg Value.bool ?_)))); all_goals (try unfold Side)
        all_goals try (repeat' (first | (with_reducible rfl) | (with_reducible refine And.intro ?_ ?_) | omega | rfl | exact Or.inl rfl | exact Or.inr rfl | exact of_decide_eq_true rfl | exact Path.imp_of (of_decide_eq_true rfl) | (focus ((try simp only [Int.reduceToNat, Int.reduceTDiv, Int.reduceTMod, minL, maxL, pickB, zHB, InK, Path.imp, List.length_replicate, List.length_set, List.length_append, List.length_cons, List.length_nil] at *); omega)) | (refine app_le rfl ?_; omega)))
        all_goals exact hc'
end Go.Proofs.Ytdfajcfkdfjoeaa
namespace Go.Scr
set_option linter.unusedVariables false
set_option linter.unusedSimpArgs false
def putT (l : List Int) (a : Nat) (v : Int) : List Int := l.take a ++ [v] ++ l.drop a
theorem putT_len {l : List Int} {a : Nat} {v : Int} : (putT l a v).length = l.length + 1 := by
  unfold putT; simp; omega
def madeK (x : List (Int × Int × Unit)) : Nat → List Int
  | 0 => [0, 0]
  | i + 1 => let w := putT (madeK x i) ((x.getD i (0, 0, ())).1.toNat % (2 * i + 3)) (i + 1)
    putT w ((x.getD i (0, 0, ())).2.1.toNat % (2 * i + 4)) (i + 1)
theorem madeK_len {x : List (Int × Int × Unit)} : ∀ {i : Nat}, (madeK x i).length = 2 * i + 2
  | 0 => rfl
  | i + 1 => by rw [madeK]; simp only [putT_len, madeK_len]; omega
theorem putT_get {l : List Int} {a : Nat} {v : Int} (ha : a ≤ l.length) {i : Nat} : (putT l a v).getD i 0 = if i < a then l.getD i 0 else if i = a then v else l.getD (i - 1) 0 := by
  unfold putT
  simp only [List.getD_eq_getElem?_getD]
  have hl : (l.take a).length = a := by rw [List.length_take]; omega
  by_cases h : i < a
  · rw [if_pos h, List.append_assoc, List.getElem?_append_left (by omega), List.getElem?_take, if_pos h]
  · rw [if_neg h]
    by_cases h2 : i = a
    · subst h2
      rw [if_pos rfl, List.append_assoc, List.getElem?_append_right (by omega), hl]; simp
    · rw [if_neg h2, List.getElem?_append_right (by simp; omega), List.getElem?_drop]
      congr 2
      simp; omega
def sigAt (z i : Nat) : Int := 1 - 2 * (bitT z i : Int)
def sigT (n z : Nat) : List Int := (List.range n).map fun i => sigAt z i
theorem sigT_len {n z : Nat} : (sigT n z).length = n := by simp [sigT]
theorem sigT_get {n z i : Nat} (h : i < n) : (sigT n z).getD i 0 = sigAt z i := by
  simp [sigT, List.getD_eq_getElem?_getD, List.getElem?_map, List.getElem?_range h]
theorem sigT_succ {n z : Nat} : sigT (n + 1) z = sigT n z ++ [sigAt z n] := by simp [sigT, List.range_succ]
theorem sigT_all {n z : Nat} : (sigT n z).all (fun x => decide (x = 1) || decide (x = -1)) = true := by
  rw [List.all_eq_true]
  intro x hx
  obtain ⟨i, _, rfl⟩ := List.mem_map.1 hx
  have := bitT_le (k := z) (j := i)
  unfold sigAt
  have h : bitT z i = 0 ∨ bitT z i = 1 := by omega
  rcases h with h | h <;> rw [h] <;> decide
theorem sigT_neg {n z v : Nat} (hz : z < 65536) (hn : n ≤ 16) (hv : v < n) : (sigT n (65535 - z)).getD v 0 = - (sigT n z).getD v 0 := by
  rw [sigT_get hv, sigT_get hv]
  have := bit_not (n := 16) (k := z) (j := v) (by omega) (by omega)
  have h2 := bitT_le (k := z) (j := v)
  unfold sigAt
  rw [show 65535 - z = 2 ^ 16 - 1 - z by omega, this]
  omega
end Go.Scr
namespace Go.Proofs.Ytdfajcfkdfjoeaa
open Go Go.Vc Go.Scr
set_option linter.unusedVariables false
set_option linter.unusedSimpArgs false
set_option maxHeartbeats 2000000 in
theorem Inters_ok {w : List Int} {n : Nat} (h : Word w n) (hn : n ≤ 10) : FnAt Try.prog false 30 [.arr (.int .i64) w] (.tup [.own 0, .lit (.int .i64 0)]) [(0, .row 54 PairTy true (pairsK w n n))] := by
  obtain ⟨K, hK⟩ : ∃ K : Nat → List PairTy.T, K = pairsK w n := ⟨_, rfl⟩
  have hK0 : K 0 = [] := by rw [hK]; rfl
  obtain ⟨R, hR⟩ : ∃ R : Nat → Nat → List PairTy.T, R = rowP w := ⟨_, rfl⟩
  have hKs : ∀ a, K (a + 1) = K a ++ R a n := fun a => by rw [hK, hR]; rfl
  have hKl : ∀ a, a ≤ n → (K a).length ≤ 100 := fun a ha => by
    rw [hK]
    have := Nat.mul_le_mul hn (Nat.le_trans ha hn)
    have := Nat.mul_le_mul_left n ha
    have := Nat.mul_le_mul_left n hn
    exact Nat.le_trans (pairsK_len (w := w) (n := n) (a := a)) (by omega)
  have hRl : ∀ a b, (R a b).length ≤ b := fun a b => by rw [hR]; exact rowP_len
  have hRy : ∀ a b : Nat, a < b → interT w a b = true → R a (b + 1) = R a b ++ [pr a b] := fun a b h1 h2 => by rw [hR]; exact rowP_yes h1 h2
  have hRn : ∀ a b : Nat, interT w a b = false → R a (b + 1) = R a b := fun a b h2 => by rw [hR]; exact rowP_no h2
  have hR0 : ∀ a, R a (a + 1) = [] := fun a => by rw [hR]; exact rowP_low (Nat.le_refl _)
  have hKn : pairsK w n n = K n := by rw [hK]
  rw [hKn]
  clear hK hR hKn
  refine FnAt.of_body tys_ok Try.func30 (by rfl) rfl Try.ntmps30 (by rw [Try.results30]) (by simp) ?_
  
  repeat' (first
 | refine W.seq ?_
 | refine W.block ?_
 | (refine W.region tys_ok [] ?_; conv => whnf)
 | (refine W.drawAll tys_ok [] mixed rfl ?_; conv => whnf)
 | (refine W.ret ?_; conv => whnf)
 | (refine W.skip ?_; conv => whnf)
 | (refine W.exit ?_; conv => whnf)
 | (refine call_at (al := true) (read_ok h hn) rfl rfl rfl rfl ?_; conv => whnf)
 | (refine W.cond rfl (fun hb => ?_) (fun hb => ?_) <;> (try simp only [Int.reduceToNat, Int.reduceTDiv, Int.reduceTMod, minL, maxL, pickB, zHB] at hb) <;> (try (first | (cases hb; done) | exact absurd hb (by decide) | (exfalso; omega))))
 | ((with_reducible refine And.intro ?_ ?_); (focus ((repeat' (first | (with_reducible rfl) | (with_reducible refine And.intro ?_ ?_) | omega | rfl | exact Or.inl rfl | exact Or.inr rfl | exact of_decide_eq_true rfl | exact Path.imp_of (of_decide_eq_true rfl) | (focus ((try simp only [Int.reduceToNat, Int.reduceTDiv, Int.reduceTMod, minL, maxL, pickB, zHB, InK, Path.imp, List.length_replicate, List.length_set, List.length_append, List.length_cons, List.length_nil] at *); omega)) | (refine app_le rfl ?_; omega))); done)); (conv => whnf))
 | ((with_reducible refine And.intro (Side.out ?_) ?_); rotate_left; (conv => whnf))
 | ((first | refine retF1 ?_ | refine retF2 ?_) <;> (conv => whnf) <;> repeat' (first
 | exact trivial
 | (with_reducible rfl)
 | ((with_reducible refine And.intro ?_ ?_) <;> conv => whnf)
 | omega
 | rfl
 | (refine congrArg (SV.arr _) ?_)
 | (refine congrArg (Value.int _) ?_)
 | (refine congrArg Value.bool ?_)))); all_goals (try unfold Side)
  all_goals try (repeat' (first | (with_reducible rfl) | (with_reducible refine And.intro ?_ ?_) | omega | rfl | exact Or.inl rfl | exact Or.inr rfl | exact of_decide_eq_true rfl | exact Path.imp_of (of_decide_eq_true rfl) | (focus ((try simp only [Int.reduceToNat, Int.reduceTDiv, Int.reduceTMod, minL, maxL, pickB, zHB, InK, Path.imp, List.length_replicate, List.length_set, List.length_append, List.length_cons, List.length_nil] at *); omega)) | (refine app_le rfl ?_; omega)))
  refine W.loop (fun a : Nat => ⟨[(4, .st false (curveT n w)), (6, .own 900006), (20, .lit (.int .i64 (n))), (21, .lit (.int .i64 (a)))], [(900006, .row 54 PairTy true (K a))]⟩) (fun a => a ≤ n) (fun a => n - a) (0) ?_ ?_
  · refine ⟨Nat.zero_le _, ?_⟩
    refine subF.ok ?_ <;> (conv => whnf) <;> repeat' (first
 | exact trivial
 | (with_reducible rfl)
 | ((with_reducible refine And.intro ?_ ?_) <;> conv => whnf)
 | omega
 | rfl
 | (refine congrArg (SV.arr _) ?_)
 | (refine congrArg (Value.int _) ?_)
 | (refine congrArg Value.bool ?_))
    all_goals first | exact hK0.symm | exact hK0
  · intro a ha
    have hla := hKl a ha
    by_cases hil : a < n
    · repeat' (first
 | refine W.seq ?_
 | refine W.block ?_
 | (refine W.region tys_ok [] ?_; conv => whnf)
 | (refine W.drawAll tys_ok [] mixed rfl ?_; conv => whnf)
 | (refine W.ret ?_; conv => whnf)
 | (refine W.skip ?_; conv => whnf)
 | (refine W.exit ?_; conv => whnf)
 | (refine W.cond rfl (fun hb => ?_) (fun hb => ?_) <;> (try simp only [Int.reduceToNat, Int.reduceTDiv, Int.reduceTMod, minL, maxL, pickB, zHB] at hb) <;> (try (first | (cases hb; done) | exact absurd hb (by decide) | (exfalso; omega))))
 | ((with_reducible refine And.intro ?_ ?_); (focus ((repeat' (first | (with_reducible rfl) | (with_reducible refine And.intro ?_ ?_) | omega | rfl | exact Or.inl rfl | exact Or.inr rfl | exact of_decide_eq_true rfl | exact Path.imp_of (of_decide_eq_true rfl) | (focus ((try simp only [Int.reduceToNat, Int.reduceTDiv, Int.reduceTMod, minL, maxL, pickB, zHB, InK, Path.imp, List.length_replicate, List.length_set, List.length_append, List.length_cons, List.length_nil] at *); omega)) | (refine app_le rfl ?_; omega))); done)); (conv => whnf))
 | ((with_reducible refine And.intro (Side.out ?_) ?_); rotate_left; (conv => whnf))
 | ((first | refine retF1 ?_ | refine retF2 ?_) <;> (conv => whnf) <;> repeat' (first
 | exact trivial
 | (with_reducible rfl)
 | ((with_reducible refine And.intro ?_ ?_) <;> conv => whnf)
 | omega
 | rfl
 | (refine congrArg (SV.arr _) ?_)
 | (refine congrArg (Value.int _) ?_)
 | (refine congrArg Value.bool ?_)))); all_goals (try unfold Side)
      all_goals try (repeat' (first | (with_reducible rfl) | (with_reducible refine And.intro ?_ ?_) | omega | rfl | exact Or.inl rfl | exact Or.inr rfl | exact of_decide_eq_true rfl | exact Path.imp_of (of_decide_eq_true rfl) | (focus ((try simp only [Int.reduceToNat, Int.reduceTDiv, Int.reduceTMod, minL, maxL, pickB, zHB, InK, Path.imp, List.length_replicate, List.length_set, List.length_append, List.length_cons, List.length_nil] at *); omega)) | (refine app_le rfl ?_; omega)))
      refine W.loop (fun b : Nat => ⟨[(4, .st false (curveT n w)), (6, .own 900006), (20, .lit (.int .i64 (n))), (21, .lit (.int .i64 (a))), (7, .lit (.int .i64 (a))), (8, .lit (.int .i64 (b)))], [(900006, .row 54 PairTy true (K a ++ R a b))]⟩) (fun b => a < b ∧ b ≤ n) (fun b => n - b) (a + 1) ?_ ?_
      · refine ⟨⟨by omega, by omega⟩, ?_⟩
        refine subF.ok ?_ <;> (conv => whnf) <;> repeat' (first
 | exact trivial
 | (with_reducible rfl)
 | ((with_reducible refine And.intro ?_ ?_) <;> conv => whnf)
 | omega
 | rfl
 | (refine congrArg (SV.arr _) ?_)
 | (refine congrArg (Value.int _) ?_)
 | (refine congrArg Value.bool ?_))
        all_goals (rw [hR0 a]; exact (List.append_nil _).symm)
      · rintro b ⟨hb0, hb1⟩
        have hlb := hRl a b
        have hlab : (K a ++ R a b).length ≤ 200 := by rw [List.length_append]; omega
        by_cases hbl : b < n
        · have hin := inter_at h (by omega) hil hbl
          cases hv : interT w a b with
          | true =>
            rw [hv] at hin
            have hy := hRy a b hb0 hv
            repeat' (first
 | refine W.seq ?_
 | refine W.block ?_
 | (refine W.region tys_ok [] ?_; conv => whnf)
 | (refine W.drawAll tys_ok [] mixed rfl ?_; conv => whnf)
 | (refine W.ret ?_; conv => whnf)
 | (refine W.skip ?_; conv => whnf)
 | (refine W.exit ?_; conv => whnf)
 | (refine call_at (al := false) (hin) rfl rfl rfl rfl ?_; conv => whnf)
 | (refine W.cond rfl (fun hb => ?_) (fun hb => ?_) <;> (try simp only [Int.reduceToNat, Int.reduceTDiv, Int.reduceTMod, minL, maxL, pickB, zHB] at hb) <;> (try (first | (cases hb; done) | exact absurd hb (by decide) | (exfalso; omega))))
 | ((with_reducible refine And.intro ?_ ?_); (focus ((repeat' (first | (with_reducible rfl) | (with_reducible refine And.intro ?_ ?_) | omega | rfl | exact Or.inl rfl | exact Or.inr rfl | exact of_decide_eq_true rfl | exact Path.imp_of (of_decide_eq_true rfl) | (focus ((try simp only [Int.reduceToNat, Int.reduceTDiv, Int.reduceTMod, minL, maxL, pickB, zHB, InK, Path.imp, List.length_replicate, List.length_set, List.length_append, List.length_cons, List.length_nil] at *); omega)) | (refine app_le rfl ?_; omega))); done)); (conv => whnf))
 | ((with_reducible refine And.intro (Side.out ?_) ?_); rotate_left; (conv => whnf))
 | ((first | refine retF1 ?_ | refine retF2 ?_) <;> (conv => whnf) <;> repeat' (first
 | exact trivial
 | (with_reducible rfl)
 | ((with_reducible refine And.intro ?_ ?_) <;> conv => whnf)
 | omega
 | rfl
 | (refine congrArg (SV.arr _) ?_)
 | (refine congrArg (Value.int _) ?_)
 | (refine congrArg Value.bool ?_)))); all_goals (try unfold Side)
            all_goals try (repeat' (first | (with_reducible rfl) | (with_reducible refine And.intro ?_ ?_) | omega | rfl | exact Or.inl rfl | exact Or.inr rfl | exact of_decide_eq_true rfl | exact Path.imp_of (of_decide_eq_true rfl) | (focus ((try simp only [Int.reduceToNat, Int.reduceTDiv, Int.reduceTMod, minL, maxL, pickB, zHB, InK, Path.imp, List.length_replicate, List.length_set, List.length_append, List.length_cons, List.length_nil] at *); omega)) | (refine app_le rfl ?_; omega)))
            refine ⟨b + 1, ⟨⟨by omega, by omega⟩, by omega⟩, ?_⟩
            rw [hy]
            refine subF.ok ?_ <;> (conv => whnf) <;> repeat' (first
 | exact trivial
 | (with_reducible rfl)
 | ((with_reducible refine And.intro ?_ ?_) <;> conv => whnf)
 | omega
 | rfl
 | (refine congrArg (SV.arr _) ?_)
 | (refine congrArg (Value.int _) ?_)
 | (refine congrArg Value.bool ?_))
            all_goals exact List.append_assoc _ _ _
          | false =>
            rw [hv] at hin
            have hy := hRn a b hv
            repeat' (first
 | refine W.seq ?_
 | refine W.block ?_
 | (refine W.region tys_ok [] ?_; conv => whnf)
 | (refine W.drawAll tys_ok [] mixed rfl ?_; conv => whnf)
 | (refine W.ret ?_; conv => whnf)
 | (refine W.skip ?_; conv => whnf)
 | (refine W.exit ?_; conv => whnf)
 | (refine call_at (al := false) (hin) rfl rfl rfl rfl ?_; conv => whnf)
 | (refine W.cond rfl (fun hb => ?_) (fun hb => ?_) <;> (try simp only [Int.reduceToNat, Int.reduceTDiv, Int.reduceTMod, minL, maxL, pickB, zHB] at hb) <;> (try (first | (cases hb; done) | exact absurd hb (by decide) | (exfalso; omega))))
 | ((with_reducible refine And.intro ?_ ?_); (focus ((repeat' (first | (with_reducible rfl) | (with_reducible refine And.intro ?_ ?_) | omega | rfl | exact Or.inl rfl | exact Or.inr rfl | exact of_decide_eq_true rfl | exact Path.imp_of (of_decide_eq_true rfl) | (focus ((try simp only [Int.reduceToNat, Int.reduceTDiv, Int.reduceTMod, minL, maxL, pickB, zHB, InK, Path.imp, List.length_replicate, List.length_set, List.length_append, List.length_cons, List.length_nil] at *); omega)) | (refine app_le rfl ?_; omega))); done)); (conv => whnf))
 | ((with_reducible refine And.intro (Side.out ?_) ?_); rotate_left; (conv => whnf))
 | ((first | refine retF1 ?_ | refine retF2 ?_) <;> (conv => whnf) <;> repeat' (first
 | exact trivial
 | (with_reducible rfl)
 | ((with_reducible refine And.intro ?_ ?_) <;> conv => whnf)
 | omega
 | rfl
 | (refine congrArg (SV.arr _) ?_)
 | (refine congrArg (Value.int _) ?_)
 | (refine congrArg Value.bool ?_)))); all_goals (try unfold Side)
            all_goals try (repeat' (first | (with_reducible rfl) | (with_reducible refine And.intro ?_ ?_) | omega | rfl | exact Or.inl rfl | exact Or.inr rfl | exact of_decide_eq_true rfl | exact Path.imp_of (of_decide_eq_true rfl) | (focus ((try simp only [Int.reduceToNat, Int.reduceTDiv, Int.reduceTMod, minL, maxL, pickB, zHB, InK, Path.imp, List.length_replicate, List.length_set, List.length_append, List.length_cons, List.length_nil] at *); omega)) | (refine app_le rfl ?_; omega)))
            refine ⟨b + 1, ⟨⟨by omega, by omega⟩, by omega⟩, ?_⟩
            rw [hy]
            refine subF.ok ?_ <;> (conv => whnf) <;> repeat' (first
 | exact trivial
 | (with_reducible rfl)
 | ((with_reducible refine And.intro ?_ ?_) <;> conv => whnf)
 | omega
 | rfl
 | (refine congrArg (SV.arr _) ?_)
 | (refine congrArg (Value.int _) ?_)
 | (refine congrArg Value.bool ?_))
        · have hie : n = b := by omega
          subst hie
          repeat' (first
 | refine W.seq ?_
 | refine W.block ?_
 | (refine W.region tys_ok [] ?_; conv => whnf)
 | (refine W.drawAll tys_ok [] mixed rfl ?_; conv => whnf)
 | (refine W.ret ?_; conv => whnf)
 | (refine W.skip ?_; conv => whnf)
 | (refine W.exit ?_; conv => whnf)
 | (refine W.cond rfl (fun hb => ?_) (fun hb => ?_) <;> (try simp only [Int.reduceToNat, Int.reduceTDiv, Int.reduceTMod, minL, maxL, pickB, zHB] at hb) <;> (try (first | (cases hb; done) | exact absurd hb (by decide) | (exfalso; omega))))
 | ((with_reducible refine And.intro ?_ ?_); (focus ((repeat' (first | (with_reducible rfl) | (with_reducible refine And.intro ?_ ?_) | omega | rfl | exact Or.inl rfl | exact Or.inr rfl | exact of_decide_eq_true rfl | exact Path.imp_of (of_decide_eq_true rfl) | (focus ((try simp only [Int.reduceToNat, Int.reduceTDiv, Int.reduceTMod, minL, maxL, pickB, zHB, InK, Path.imp, List.length_replicate, List.length_set, List.length_append, List.length_cons, List.length_nil] at *); omega)) | (refine app_le rfl ?_; omega))); done)); (conv => whnf))
 | ((with_reducible refine And.intro (Side.out ?_) ?_); rotate_left; (conv => whnf))
 | ((first | refine retF1 ?_ | refine retF2 ?_) <;> (conv => whnf) <;> repeat' (first
 | exact trivial
 | (with_reducible rfl)
 | ((with_reducible refine And.intro ?_ ?_) <;> conv => whnf)
 | omega
 | rfl
 | (refine congrArg (SV.arr _) ?_)
 | (refine congrArg (Value.int _) ?_)
 | (refine congrArg Value.bool ?_)))); all_goals (try unfold Side)
          all_goals try (repeat' (first | (with_reducible rfl) | (with_reducible refine And.intro ?_ ?_) | omega | rfl | exact Or.inl rfl | exact Or.inr rfl | exact of_decide_eq_true rfl | exact Path.imp_of (of_decide_eq_true rfl) | (focus ((try simp only [Int.reduceToNat, Int.reduceTDiv, Int.reduceTMod, minL, maxL, pickB, zHB, InK, Path.imp, List.length_replicate, List.length_set, List.length_append, List.length_cons, List.length_nil] at *); omega)) | (refine app_le rfl ?_; omega)))
          refine ⟨a + 1, ⟨by omega, by omega⟩, ?_⟩
          rw [hKs a]
          refine subF.ok ?_ <;> (conv => whnf) <;> repeat' (first
 | exact trivial
 | (with_reducible rfl)
 | ((with_reducible refine And.intro ?_ ?_) <;> conv => whnf)
 | omega
 | rfl
 | (refine congrArg (SV.arr _) ?_)
 | (refine congrArg (Value.int _) ?_)
 | (refine congrArg Value.bool ?_))
    · have hie : n = a := by omega
      subst hie
      repeat' (first
 | refine W.seq ?_
 | refine W.block ?_
 | (refine W.region tys_ok [] ?_; conv => whnf)
 | (refine W.drawAll tys_ok [] mixed rfl ?_; conv => whnf)
 | (refine W.ret ?_; conv => whnf)
 | (refine W.skip ?_; conv => whnf)
 | (refine W.exit ?_; conv => whnf)
 | (refine W.cond rfl (fun hb => ?_) (fun hb => ?_) <;> (try simp only [Int.reduceToNat, Int.reduceTDiv, Int.reduceTMod, minL, maxL, pickB, zHB] at hb) <;> (try (first | (cases hb; done) | exact absurd hb (by decide) | (exfalso; omega))))
 | ((with_reducible refine And.intro ?_ ?_); (focus ((repeat' (first | (with_reducible rfl) | (with_reducible refine And.intro ?_ ?_) | omega | rfl | exact Or.inl rfl | exact Or.inr rfl | exact of_decide_eq_true rfl | exact Path.imp_of (of_decide_eq_true rfl) | (focus ((try simp only [Int.reduceToNat, Int.reduceTDiv, Int.reduceTMod, minL, maxL, pickB, zHB, InK, Path.imp, List.length_replicate, List.length_set, List.length_append, List.length_cons, List.length_nil] at *); omega)) | (refine app_le rfl ?_; omega))); done)); (conv => whnf))
 | ((with_reducible refine And.intro (Side.out ?_) ?_); rotate_left; (conv => whnf))
 | ((first | refine retF1 ?_ | refine retF2 ?_) <;> (conv => whnf) <;> repeat' (first
 | exact trivial
 | (with_reducible rfl)
 | ((with_reducible refine And.intro ?_ ?_) <;> conv => whnf)
 | omega
 | rfl
 | (refine congrArg (SV.arr _) ?_)
 | (refine congrArg (Value.int _) ?_)
 | (refine congrArg Value.bool ?_)))); all_goals (try unfold Side)
      all_goals try (repeat' (first | (with_reducible rfl) | (with_reducible refine And.intro ?_ ?_) | omega | rfl | exact Or.inl rfl | exact Or.inr rfl | exact of_decide_eq_true rfl | exact Path.imp_of (of_decide_eq_true rfl) | (focus ((try simp only [Int.reduceToNat, Int.reduceTDiv, Int.reduceTMod, minL, maxL, pickB, zHB, InK, Path.imp, List.length_replicate, List.length_set, List.length_append, List.length_cons, List.length_nil] at *); omega)) | (refine app_le rfl ?_; omega)))
theorem Inters_no {w : List Int} (h : ¬ checkT w = 0) (hl : w.length ≤ 1000) : FnAt Try.prog false 30 [.arr (.int .i64) w] (.tup [.own 0, .lit (.int .i64 (checkT w))]) [(0, .row 54 PairTy true [])] := by
  refine FnAt.of_body tys_ok Try.func30 (by rfl) rfl Try.ntmps30 (by rw [Try.results30]) (by simp) ?_
  
  repeat' (first
 | refine W.seq ?_
 | refine W.block ?_
 | (refine W.region tys_ok [] ?_; conv => whnf)
 | (refine W.drawAll tys_ok [] mixed rfl ?_; conv => whnf)
 | (refine W.ret ?_; conv => whnf)
 | (refine W.skip ?_; conv => whnf)
 | (refine W.exit ?_; conv => whnf)
 | (refine call_at (al := true) (read_bad h hl) rfl rfl rfl rfl ?_; conv => whnf)
 | (refine W.cond rfl (fun hb => ?_) (fun hb => ?_) <;> (try simp only [Int.reduceToNat, Int.reduceTDiv, Int.reduceTMod, minL, maxL, pickB, zHB] at hb) <;> (try (first | (cases hb; done) | exact absurd hb (by decide) | (exfalso; omega))))
 | ((with_reducible refine And.intro ?_ ?_); (focus ((repeat' (first | (with_reducible rfl) | (with_reducible refine And.intro ?_ ?_) | omega | rfl | exact Or.inl rfl | exact Or.inr rfl | exact of_decide_eq_true rfl | exact Path.imp_of (of_decide_eq_true rfl) | (focus ((try simp only [Int.reduceToNat, Int.reduceTDiv, Int.reduceTMod, minL, maxL, pickB, zHB, InK, Path.imp, List.length_replicate, List.length_set, List.length_append, List.length_cons, List.length_nil] at *); omega)) | (refine app_le rfl ?_; omega))); done)); (conv => whnf))
 | ((with_reducible refine And.intro (Side.out ?_) ?_); rotate_left; (conv => whnf))
 | ((first | refine retF1 ?_ | refine retF2 ?_) <;> (conv => whnf) <;> repeat' (first
 | exact trivial
 | (with_reducible rfl)
 | ((with_reducible refine And.intro ?_ ?_) <;> conv => whnf)
 | omega
 | rfl
 | (refine congrArg (SV.arr _) ?_)
 | (refine congrArg (Value.int _) ?_)
 | (refine congrArg Value.bool ?_)))); all_goals (try unfold Side)
  all_goals try (repeat' (first | (with_reducible rfl) | (with_reducible refine And.intro ?_ ?_) | omega | rfl | exact Or.inl rfl | exact Or.inr rfl | exact of_decide_eq_true rfl | exact Path.imp_of (of_decide_eq_true rfl) | (focus ((try simp only [Int.reduceToNat, Int.reduceTDiv, Int.reduceTMod, minL, maxL, pickB, zHB, InK, Path.imp, List.length_replicate, List.length_set, List.length_append, List.length_cons, List.length_nil] at *); omega)) | (refine app_le rfl ?_; omega)))
theorem pairs_len {w : List Int} {n : Nat} (hn : n ≤ 10) : (pairsK w n n).length ≤ 100 := by
  have := Nat.mul_le_mul_left n hn
  exact Nat.le_trans (pairsK_len (w := w) (n := n) (a := n)) (by omega)
set_option maxHeartbeats 2000000 in
theorem ScrollPairs_at (x : List Int) : FnAt Try.prog false 7 [.arr (.int .i64) x] (.lit (.bool true)) [] := by
  obtain ⟨y, hy⟩ : ∃ y, y = x.take 21 := ⟨_, rfl⟩
  have hyl : y.length ≤ 1000 := by rw [hy, List.length_take]; omega
  have hck := check_at y hyl
  by_cases hc : checkT y = 0
  · obtain ⟨n, hw, hn⟩ := checkT_ok hc
    have hp := Inters_ok hw hn
    have hq := inters_ref hw hn
    have hlen := pairs_len (w := y) hn
    obtain ⟨K, hK⟩ : ∃ K : List PairTy.T, K = pairsK y n n := ⟨_, rfl⟩
    have hKl : K.length ≤ 100 := by rw [hK]; exact hlen
    have hK' : pairsK y n n = K := hK.symm
    rw [hK'] at hp hq
    clear hK hK' hlen
    refine FnAt.of_body tys_ok Try.func7 (by rfl) rfl Try.ntmps7 (by rw [Try.results7]) (by simp) ?_
  
    repeat' (first
 | refine W.seq ?_
 | refine W.block ?_
 | (refine W.region tys_ok [3, 10, 7, 32] ?_; conv => whnf)
 | (refine W.drawAll tys_ok [3, 10, 7, 32] mixed rfl ?_; conv => whnf)
 | (refine W.ret ?_; conv => whnf)
 | (refine W.skip ?_; conv => whnf)
 | (refine W.exit ?_; conv => whnf)
 | (refine call_at (al := false) (cut_eq hy) rfl rfl rfl rfl ?_; conv => whnf)
 | (refine call_at (al := false) (hp) rfl rfl rfl rfl ?_; conv => whnf)
 | (refine call_at (al := false) (hck) rfl rfl rfl rfl ?_; conv => whnf)
 | (refine call_at (al := false) (hq) rfl rfl rfl rfl ?_; conv => whnf)
 | (refine call_at (al := false) (lives_at) rfl rfl rfl rfl ?_; conv => whnf)
 | (refine W.cond rfl (fun hb => ?_) (fun hb => ?_) <;> (try simp only [Int.reduceToNat, Int.reduceTDiv, Int.reduceTMod, minL, maxL, pickB, zHB] at hb) <;> (try (first | (cases hb; done) | exact absurd hb (by decide) | (exfalso; omega))))
 | ((with_reducible refine And.intro ?_ ?_); (focus ((repeat' (first | (with_reducible rfl) | (with_reducible refine And.intro ?_ ?_) | omega | rfl | exact Or.inl rfl | exact Or.inr rfl | exact of_decide_eq_true rfl | exact Path.imp_of (of_decide_eq_true rfl) | (focus ((try simp only [Int.reduceToNat, Int.reduceTDiv, Int.reduceTMod, minL, maxL, pickB, zHB, InK, Path.imp, List.length_replicate, List.length_set, List.length_append, List.length_cons, List.length_nil] at *); omega)) | (refine app_le rfl ?_; omega))); done)); (conv => whnf))
 | ((with_reducible refine And.intro (Side.out ?_) ?_); rotate_left; (conv => whnf))
 | ((first | refine retF1 ?_ | refine retF2 ?_) <;> (conv => whnf) <;> repeat' (first
 | exact trivial
 | (with_reducible rfl)
 | ((with_reducible refine And.intro ?_ ?_) <;> conv => whnf)
 | omega
 | rfl
 | (refine congrArg (SV.arr _) ?_)
 | (refine congrArg (Value.int _) ?_)
 | (refine congrArg Value.bool ?_)))); all_goals (try unfold Side)
    all_goals try (repeat' (first | (with_reducible rfl) | (with_reducible refine And.intro ?_ ?_) | omega | rfl | exact Or.inl rfl | exact Or.inr rfl | exact of_decide_eq_true rfl | exact Path.imp_of (of_decide_eq_true rfl) | (focus ((try simp only [Int.reduceToNat, Int.reduceTDiv, Int.reduceTMod, minL, maxL, pickB, zHB, InK, Path.imp, List.length_replicate, List.length_set, List.length_append, List.length_cons, List.length_nil] at *); omega)) | (refine app_le rfl ?_; omega)))
    refine W.loop (fun i : Nat => ⟨[(4, .st true (.arr PairTy K)), (7, .st true (.arr PairTy K)), (8, .lit (.int .i64 (i)))], []⟩) (fun i => i ≤ K.length) (fun i => K.length - i) (0) ?_ ?_
    · refine ⟨Nat.zero_le _, ?_⟩
      refine subF.ok ?_ <;> (conv => whnf) <;> repeat' (first
 | exact trivial
 | (with_reducible rfl)
 | ((with_reducible refine And.intro ?_ ?_) <;> conv => whnf)
 | omega
 | rfl
 | (refine congrArg (SV.arr _) ?_)
 | (refine congrArg (Value.int _) ?_)
 | (refine congrArg Value.bool ?_))
    · intro i hi
      by_cases hil : i < K.length
      · repeat' (first
 | refine W.seq ?_
 | refine W.block ?_
 | (refine W.drawPh (id := 12) tys_ok [] mixed [0, 0, 3, 4, 0, 0, 48, 64, 136] [([0, 1, 2, 3, 4, 5, 6, 7, 8], 0, 511)] (by decide +kernel) ?_; conv => whnf)
 | (refine W.region tys_ok [] ?_; conv => whnf)
 | (refine W.drawAll tys_ok [] mixed rfl ?_; conv => whnf)
 | (refine W.ret ?_; conv => whnf)
 | (refine W.skip ?_; conv => whnf)
 | (refine W.exit ?_; conv => whnf)
 | (refine Both.mk ?_ ?_ <;> (conv => whnf))
 | (refine W.cond rfl (fun hb => ?_) (fun hb => ?_) <;> (try simp only [Int.reduceToNat, Int.reduceTDiv, Int.reduceTMod, minL, maxL, pickB, zHB] at hb) <;> (try (first | (cases hb; done) | exact absurd hb (by decide) | (exfalso; omega))))
 | ((with_reducible refine And.intro ?_ ?_); (focus ((repeat' (first | (with_reducible rfl) | (with_reducible refine And.intro ?_ ?_) | omega | rfl | exact Or.inl rfl | exact Or.inr rfl | exact of_decide_eq_true rfl | exact Path.imp_of (of_decide_eq_true rfl) | (focus ((try simp only [Int.reduceToNat, Int.reduceTDiv, Int.reduceTMod, minL, maxL, pickB, zHB, InK, Path.imp, List.length_replicate, List.length_set, List.length_append, List.length_cons, List.length_nil] at *); omega)) | (refine app_le rfl ?_; omega))); done)); (conv => whnf))
 | ((with_reducible refine And.intro (Side.out ?_) ?_); rotate_left; (conv => whnf))
 | ((first | refine retF1 ?_ | refine retF2 ?_ | refine subF.leaf ?_ | refine subF.side ?_) <;> (conv => whnf) <;> repeat' (first
 | exact trivial
 | (with_reducible rfl)
 | ((with_reducible refine And.intro ?_ ?_) <;> conv => whnf)
 | omega
 | rfl
 | (refine congrArg (SV.arr _) ?_)
 | (refine congrArg (Value.int _) ?_)
 | (refine congrArg Value.bool ?_)))); all_goals (try unfold Side)
        all_goals try (repeat' (first | (with_reducible rfl) | (with_reducible refine And.intro ?_ ?_) | omega | rfl | exact Or.inl rfl | exact Or.inr rfl | exact of_decide_eq_true rfl | exact Path.imp_of (of_decide_eq_true rfl) | (focus ((try simp only [Int.reduceToNat, Int.reduceTDiv, Int.reduceTMod, minL, maxL, pickB, zHB, InK, Path.imp, List.length_replicate, List.length_set, List.length_append, List.length_cons, List.length_nil] at *); omega)) | (refine app_le rfl ?_; omega)))
        refine ⟨i + 1, ⟨by omega, by omega⟩, ?_⟩
        refine subF.ok ?_ <;> (conv => whnf) <;> repeat' (first
 | exact trivial
 | (with_reducible rfl)
 | ((with_reducible refine And.intro ?_ ?_) <;> conv => whnf)
 | omega
 | rfl
 | (refine congrArg (SV.arr _) ?_)
 | (refine congrArg (Value.int _) ?_)
 | (refine congrArg Value.bool ?_))
      · have hie : K.length = i := by omega
        subst hie
        repeat' (first
 | refine W.seq ?_
 | refine W.block ?_
 | (refine W.region tys_ok [] ?_; conv => whnf)
 | (refine W.drawAll tys_ok [] mixed rfl ?_; conv => whnf)
 | (refine W.ret ?_; conv => whnf)
 | (refine W.skip ?_; conv => whnf)
 | (refine W.exit ?_; conv => whnf)
 | (refine W.cond rfl (fun hb => ?_) (fun hb => ?_) <;> (try simp only [Int.reduceToNat, Int.reduceTDiv, Int.reduceTMod, minL, maxL, pickB, zHB] at hb) <;> (try (first | (cases hb; done) | exact absurd hb (by decide) | (exfalso; omega))))
 | ((with_reducible refine And.intro ?_ ?_); (focus ((repeat' (first | (with_reducible rfl) | (with_reducible refine And.intro ?_ ?_) | omega | rfl | exact Or.inl rfl | exact Or.inr rfl | exact of_decide_eq_true rfl | exact Path.imp_of (of_decide_eq_true rfl) | (focus ((try simp only [Int.reduceToNat, Int.reduceTDiv, Int.reduceTMod, minL, maxL, pickB, zHB, InK, Path.imp, List.length_replicate, List.length_set, List.length_append, List.length_cons, List.length_nil] at *); omega)) | (refine app_le rfl ?_; omega))); done)); (conv => whnf))
 | ((with_reducible refine And.intro (Side.out ?_) ?_); rotate_left; (conv => whnf))
 | ((first | refine retF1 ?_ | refine retF2 ?_) <;> (conv => whnf) <;> repeat' (first
 | exact trivial
 | (with_reducible rfl)
 | ((with_reducible refine And.intro ?_ ?_) <;> conv => whnf)
 | omega
 | rfl
 | (refine congrArg (SV.arr _) ?_)
 | (refine congrArg (Value.int _) ?_)
 | (refine congrArg Value.bool ?_)))); all_goals (try unfold Side)
        all_goals try (repeat' (first | (with_reducible rfl) | (with_reducible refine And.intro ?_ ?_) | omega | rfl | exact Or.inl rfl | exact Or.inr rfl | exact of_decide_eq_true rfl | exact Path.imp_of (of_decide_eq_true rfl) | (focus ((try simp only [Int.reduceToNat, Int.reduceTDiv, Int.reduceTMod, minL, maxL, pickB, zHB, InK, Path.imp, List.length_replicate, List.length_set, List.length_append, List.length_cons, List.length_nil] at *); omega)) | (refine app_le rfl ?_; omega)))
  · have hp := Inters_no hc hyl
    refine FnAt.of_body tys_ok Try.func7 (by rfl) rfl Try.ntmps7 (by rw [Try.results7]) (by simp) ?_
  
    repeat' (first
 | refine W.seq ?_
 | refine W.block ?_
 | (refine W.region tys_ok [] ?_; conv => whnf)
 | (refine W.drawAll tys_ok [] mixed rfl ?_; conv => whnf)
 | (refine W.ret ?_; conv => whnf)
 | (refine W.skip ?_; conv => whnf)
 | (refine W.exit ?_; conv => whnf)
 | (refine call_at (al := false) (cut_eq hy) rfl rfl rfl rfl ?_; conv => whnf)
 | (refine call_at (al := false) (hp) rfl rfl rfl rfl ?_; conv => whnf)
 | (refine call_at (al := false) (hck) rfl rfl rfl rfl ?_; conv => whnf)
 | (refine call_at (al := false) (lives_at) rfl rfl rfl rfl ?_; conv => whnf)
 | (refine W.cond rfl (fun hb => ?_) (fun hb => ?_) <;> (try simp only [Int.reduceToNat, Int.reduceTDiv, Int.reduceTMod, minL, maxL, pickB, zHB] at hb) <;> (try (first | (cases hb; done) | exact absurd hb (by decide) | (exfalso; omega))))
 | ((with_reducible refine And.intro ?_ ?_); (focus ((repeat' (first | (with_reducible rfl) | (with_reducible refine And.intro ?_ ?_) | omega | rfl | exact Or.inl rfl | exact Or.inr rfl | exact of_decide_eq_true rfl | exact Path.imp_of (of_decide_eq_true rfl) | (focus ((try simp only [Int.reduceToNat, Int.reduceTDiv, Int.reduceTMod, minL, maxL, pickB, zHB, InK, Path.imp, List.length_replicate, List.length_set, List.length_append, List.length_cons, List.length_nil] at *); omega)) | (refine app_le rfl ?_; omega))); done)); (conv => whnf))
 | ((with_reducible refine And.intro (Side.out ?_) ?_); rotate_left; (conv => whnf))
 | ((first | refine retF1 ?_ | refine retF2 ?_) <;> (conv => whnf) <;> repeat' (first
 | exact trivial
 | (with_reducible rfl)
 | ((with_reducible refine And.intro ?_ ?_) <;> conv => whnf)
 | omega
 | rfl
 | (refine congrArg (SV.arr _) ?_)
 | (refine congrArg (Value.int _) ?_)
 | (refine congrArg Value.bool ?_)))); all_goals (try unfold Side)
    all_goals try (repeat' (first | (with_reducible rfl) | (with_reducible refine And.intro ?_ ?_) | omega | rfl | exact Or.inl rfl | exact Or.inr rfl | exact of_decide_eq_true rfl | exact Path.imp_of (of_decide_eq_true rfl) | (focus ((try simp only [Int.reduceToNat, Int.reduceTDiv, Int.reduceTMod, minL, maxL, pickB, zHB, InK, Path.imp, List.length_replicate, List.length_set, List.length_append, List.length_cons, List.length_nil] at *); omega)) | (refine app_le rfl ?_; omega)))
    all_goals simp [pickB]
set_option maxHeartbeats 2000000 in
theorem ScrollFaces_at (x y : List Int) : FnAt Try.prog false 5 [.arr (.int .i64) x, .arr (.int .i64) y] (.lit (.bool true)) [] := by
  obtain ⟨w, hy⟩ : ∃ w, w = x.take 21 := ⟨_, rfl⟩
  obtain ⟨s, hs⟩ : ∃ s, s = y.take 21 := ⟨_, rfl⟩
  have hwl : w.length ≤ 1000 := by rw [hy, List.length_take]; omega
  have hsl : s.length ≤ 1000 := by rw [hs, List.length_take]; omega
  have hck := why_at w s hwl hsl
  by_cases hc : whyT w s = 0
  · obtain ⟨n, hw, hn, hsg⟩ := whyT_ok hc
    have hp := Faces_ok hw hn hsg
    have hq := faces_ref hw hn hsg
    have hg := Genus_ok hw hn hsg
    have hg2 := genus_ref hw hn hsg
    have hlen := facesT_len (nx := nextT w s) (m := 2 * n)
    have hfl := facesT_lens (next_rg hw hsg)
    obtain ⟨F, hF⟩ : ∃ F, F = facesT (nextT w s) (2 * n) := ⟨_, rfl⟩
    rw [← hF] at hp hq hlen hfl
    have hlen' : @List.length (Ty.sl (.int .i64)).T F ≤ 2 * (2 * n) := hlen
    clear hF
    refine FnAt.of_body tys_ok Try.func5 (by rfl) rfl Try.ntmps5 (by rw [Try.results5]) (by simp) ?_
  
    repeat' (first
 | refine W.seq ?_
 | refine W.block ?_
 | (refine W.region tys_ok [5, 6, 15, 17, 7, 12, 57] ?_; conv => whnf)
 | (refine W.drawAll tys_ok [5, 6, 15, 17, 7, 12, 57] mixed rfl ?_; conv => whnf)
 | (refine W.ret ?_; conv => whnf)
 | (refine W.skip ?_; conv => whnf)
 | (refine W.exit ?_; conv => whnf)
 | (refine call_at (al := false) (cut_eq hy) rfl rfl rfl rfl ?_; conv => whnf)
 | (refine call_at (al := false) (cut_eq hs) rfl rfl rfl rfl ?_; conv => whnf)
 | (refine call_at (al := false) (hp) rfl rfl rfl rfl ?_; conv => whnf)
 | (refine call_at (al := false) (hg) rfl rfl rfl rfl ?_; conv => whnf)
 | (refine call_at (al := false) (hck) rfl rfl rfl rfl ?_; conv => whnf)
 | (refine call_at (al := false) (hq) rfl rfl rfl rfl ?_; conv => whnf)
 | (refine call_at (al := false) (hg2) rfl rfl rfl rfl ?_; conv => whnf)
 | (refine call_at (al := false) (lives_at) rfl rfl rfl rfl ?_; conv => whnf)
 | (refine W.cond rfl (fun hb => ?_) (fun hb => ?_) <;> (try simp only [Int.reduceToNat, Int.reduceTDiv, Int.reduceTMod, minL, maxL, pickB, zHB] at hb) <;> (try (first | (cases hb; done) | exact absurd hb (by decide) | (exfalso; omega))))
 | ((with_reducible refine And.intro ?_ ?_); (focus ((repeat' (first | (with_reducible rfl) | (with_reducible refine And.intro ?_ ?_) | omega | rfl | exact Or.inl rfl | exact Or.inr rfl | exact of_decide_eq_true rfl | exact Path.imp_of (of_decide_eq_true rfl) | (focus ((try simp only [Int.reduceToNat, Int.reduceTDiv, Int.reduceTMod, minL, maxL, pickB, zHB, InK, Path.imp, List.length_replicate, List.length_set, List.length_append, List.length_cons, List.length_nil] at *); omega)) | (refine app_le rfl ?_; omega))); done)); (conv => whnf))
 | ((with_reducible refine And.intro (Side.out ?_) ?_); rotate_left; (conv => whnf))
 | ((first | refine retF1 ?_ | refine retF2 ?_) <;> (conv => whnf) <;> repeat' (first
 | exact trivial
 | (with_reducible rfl)
 | ((with_reducible refine And.intro ?_ ?_) <;> conv => whnf)
 | omega
 | rfl
 | (refine congrArg (SV.arr _) ?_)
 | (refine congrArg (Value.int _) ?_)
 | (refine congrArg Value.bool ?_)))); all_goals (try unfold Side)
    all_goals try (repeat' (first | (with_reducible rfl) | (with_reducible refine And.intro ?_ ?_) | omega | rfl | exact Or.inl rfl | exact Or.inr rfl | exact of_decide_eq_true rfl | exact Path.imp_of (of_decide_eq_true rfl) | (focus ((try simp only [Int.reduceToNat, Int.reduceTDiv, Int.reduceTMod, minL, maxL, pickB, zHB, InK, Path.imp, List.length_replicate, List.length_set, List.length_append, List.length_cons, List.length_nil] at *); omega)) | (refine app_le rfl ?_; omega)))
    refine W.loop (fun i : Nat => ⟨[(7, .st true (.arr (.sl (.int .i64)) (F : List (List Int)))), (12, .st true (.arr (.sl (.int .i64)) (F : List (List Int)))), (13, .lit (.int .i64 (i)))], []⟩) (fun i => i ≤ F.length) (fun i => F.length - i) (0) ?_ ?_
    · refine ⟨Nat.zero_le _, ?_⟩
      refine subF.ok ?_ <;> (conv => whnf) <;> repeat' (first
 | exact trivial
 | (with_reducible rfl)
 | ((with_reducible refine And.intro ?_ ?_) <;> conv => whnf)
 | omega
 | rfl
 | (refine congrArg (SV.arr _) ?_)
 | (refine congrArg (Value.int _) ?_)
 | (refine congrArg Value.bool ?_))
    · intro i hi
      by_cases hil : i < F.length
      · have hfi := hfl i hil
        have hsm := same_at (F.getD i []) (F.getD i []) (by omega) (by omega)
        repeat' (first
 | refine W.seq ?_
 | refine W.block ?_
 | (refine W.drawPh (id := 13) tys_ok [] mixed [0, 0, 3, 4, 0, 0, 48, 64, 136, 256] [([0, 1, 2, 3, 4, 5, 6, 7], 1, 511), ([9], 0, 1023)] (by decide +kernel) ?_; conv => whnf)
 | (refine W.region tys_ok [] ?_; conv => whnf)
 | (refine W.drawAll tys_ok [] mixed rfl ?_; conv => whnf)
 | (refine W.ret ?_; conv => whnf)
 | (refine W.skip ?_; conv => whnf)
 | (refine W.exit ?_; conv => whnf)
 | (refine call_at (al := false) (hsm) rfl rfl rfl rfl ?_; conv => whnf)
 | (refine Both.mk ?_ ?_ <;> (conv => whnf))
 | (refine W.cond rfl (fun hb => ?_) (fun hb => ?_) <;> (try simp only [Int.reduceToNat, Int.reduceTDiv, Int.reduceTMod, minL, maxL, pickB, zHB] at hb) <;> (try (first | (cases hb; done) | exact absurd hb (by decide) | (exfalso; omega))))
 | ((with_reducible refine And.intro ?_ ?_); (focus ((repeat' (first | (with_reducible rfl) | (with_reducible refine And.intro ?_ ?_) | omega | rfl | exact Or.inl rfl | exact Or.inr rfl | exact of_decide_eq_true rfl | exact Path.imp_of (of_decide_eq_true rfl) | (focus ((try simp only [Int.reduceToNat, Int.reduceTDiv, Int.reduceTMod, minL, maxL, pickB, zHB, InK, Path.imp, List.length_replicate, List.length_set, List.length_append, List.length_cons, List.length_nil] at *); omega)) | (refine app_le rfl ?_; omega))); done)); (conv => whnf))
 | ((with_reducible refine And.intro (Side.out ?_) ?_); rotate_left; (conv => whnf))
 | ((first | refine retF1 ?_ | refine retF2 ?_ | refine subF.leaf ?_ | refine subF.side ?_) <;> (conv => whnf) <;> repeat' (first
 | exact trivial
 | (with_reducible rfl)
 | ((with_reducible refine And.intro ?_ ?_) <;> conv => whnf)
 | omega
 | rfl
 | (refine congrArg (SV.arr _) ?_)
 | (refine congrArg (Value.int _) ?_)
 | (refine congrArg Value.bool ?_)))); all_goals (try unfold Side)
        all_goals try (repeat' (first | (with_reducible rfl) | (with_reducible refine And.intro ?_ ?_) | omega | rfl | exact Or.inl rfl | exact Or.inr rfl | exact of_decide_eq_true rfl | exact Path.imp_of (of_decide_eq_true rfl) | (focus ((try simp only [Int.reduceToNat, Int.reduceTDiv, Int.reduceTMod, minL, maxL, pickB, zHB, InK, Path.imp, List.length_replicate, List.length_set, List.length_append, List.length_cons, List.length_nil] at *); omega)) | (refine app_le rfl ?_; omega)))
        refine ⟨i + 1, ⟨by omega, by omega⟩, ?_⟩
        refine subF.ok ?_ <;> (conv => whnf) <;> repeat' (first
 | exact trivial
 | (with_reducible rfl)
 | ((with_reducible refine And.intro ?_ ?_) <;> conv => whnf)
 | omega
 | rfl
 | (refine congrArg (SV.arr _) ?_)
 | (refine congrArg (Value.int _) ?_)
 | (refine congrArg Value.bool ?_))
      · have hie : F.length = i := by omega
        subst hie
        repeat' (first
 | refine W.seq ?_
 | refine W.block ?_
 | (refine W.region tys_ok [] ?_; conv => whnf)
 | (refine W.drawAll tys_ok [] mixed rfl ?_; conv => whnf)
 | (refine W.ret ?_; conv => whnf)
 | (refine W.skip ?_; conv => whnf)
 | (refine W.exit ?_; conv => whnf)
 | (refine W.cond rfl (fun hb => ?_) (fun hb => ?_) <;> (try simp only [Int.reduceToNat, Int.reduceTDiv, Int.reduceTMod, minL, maxL, pickB, zHB] at hb) <;> (try (first | (cases hb; done) | exact absurd hb (by decide) | (exfalso; omega))))
 | ((with_reducible refine And.intro ?_ ?_); (focus ((repeat' (first | (with_reducible rfl) | (with_reducible refine And.intro ?_ ?_) | omega | rfl | exact Or.inl rfl | exact Or.inr rfl | exact of_decide_eq_true rfl | exact Path.imp_of (of_decide_eq_true rfl) | (focus ((try simp only [Int.reduceToNat, Int.reduceTDiv, Int.reduceTMod, minL, maxL, pickB, zHB, InK, Path.imp, List.length_replicate, List.length_set, List.length_append, List.length_cons, List.length_nil] at *); omega)) | (refine app_le rfl ?_; omega))); done)); (conv => whnf))
 | ((with_reducible refine And.intro (Side.out ?_) ?_); rotate_left; (conv => whnf))
 | ((first | refine retF1 ?_ | refine retF2 ?_) <;> (conv => whnf) <;> repeat' (first
 | exact trivial
 | (with_reducible rfl)
 | ((with_reducible refine And.intro ?_ ?_) <;> conv => whnf)
 | omega
 | rfl
 | (refine congrArg (SV.arr _) ?_)
 | (refine congrArg (Value.int _) ?_)
 | (refine congrArg Value.bool ?_)))); all_goals (try unfold Side)
        all_goals try (repeat' (first | (with_reducible rfl) | (with_reducible refine And.intro ?_ ?_) | omega | rfl | exact Or.inl rfl | exact Or.inr rfl | exact of_decide_eq_true rfl | exact Path.imp_of (of_decide_eq_true rfl) | (focus ((try simp only [Int.reduceToNat, Int.reduceTDiv, Int.reduceTMod, minL, maxL, pickB, zHB, InK, Path.imp, List.length_replicate, List.length_set, List.length_append, List.length_cons, List.length_nil] at *); omega)) | (refine app_le rfl ?_; omega)))
  · have hp := Faces_no hc hwl hsl
    have hg := Genus_no hc hwl hsl
    refine FnAt.of_body tys_ok Try.func5 (by rfl) rfl Try.ntmps5 (by rw [Try.results5]) (by simp) ?_
  
    repeat' (first
 | refine W.seq ?_
 | refine W.block ?_
 | (refine W.region tys_ok [] ?_; conv => whnf)
 | (refine W.drawAll tys_ok [] mixed rfl ?_; conv => whnf)
 | (refine W.ret ?_; conv => whnf)
 | (refine W.skip ?_; conv => whnf)
 | (refine W.exit ?_; conv => whnf)
 | (refine call_at (al := false) (cut_eq hy) rfl rfl rfl rfl ?_; conv => whnf)
 | (refine call_at (al := false) (cut_eq hs) rfl rfl rfl rfl ?_; conv => whnf)
 | (refine call_at (al := false) (hp) rfl rfl rfl rfl ?_; conv => whnf)
 | (refine call_at (al := false) (hg) rfl rfl rfl rfl ?_; conv => whnf)
 | (refine call_at (al := false) (hck) rfl rfl rfl rfl ?_; conv => whnf)
 | (refine call_at (al := false) (lives_at) rfl rfl rfl rfl ?_; conv => whnf)
 | (refine W.cond rfl (fun hb => ?_) (fun hb => ?_) <;> (try simp only [Int.reduceToNat, Int.reduceTDiv, Int.reduceTMod, minL, maxL, pickB, zHB] at hb) <;> (try (first | (cases hb; done) | exact absurd hb (by decide) | (exfalso; omega))))
 | ((with_reducible refine And.intro ?_ ?_); (focus ((repeat' (first | (with_reducible rfl) | (with_reducible refine And.intro ?_ ?_) | omega | rfl | exact Or.inl rfl | exact Or.inr rfl | exact of_decide_eq_true rfl | exact Path.imp_of (of_decide_eq_true rfl) | (focus ((try simp only [Int.reduceToNat, Int.reduceTDiv, Int.reduceTMod, minL, maxL, pickB, zHB, InK, Path.imp, List.length_replicate, List.length_set, List.length_append, List.length_cons, List.length_nil] at *); omega)) | (refine app_le rfl ?_; omega))); done)); (conv => whnf))
 | ((with_reducible refine And.intro (Side.out ?_) ?_); rotate_left; (conv => whnf))
 | ((first | refine retF1 ?_ | refine retF2 ?_) <;> (conv => whnf) <;> repeat' (first
 | exact trivial
 | (with_reducible rfl)
 | ((with_reducible refine And.intro ?_ ?_) <;> conv => whnf)
 | omega
 | rfl
 | (refine congrArg (SV.arr _) ?_)
 | (refine congrArg (Value.int _) ?_)
 | (refine congrArg Value.bool ?_)))); all_goals (try unfold Side)
    all_goals try (repeat' (first | (with_reducible rfl) | (with_reducible refine And.intro ?_ ?_) | omega | rfl | exact Or.inl rfl | exact Or.inr rfl | exact of_decide_eq_true rfl | exact Path.imp_of (of_decide_eq_true rfl) | (focus ((try simp only [Int.reduceToNat, Int.reduceTDiv, Int.reduceTMod, minL, maxL, pickB, zHB, InK, Path.imp, List.length_replicate, List.length_set, List.length_append, List.length_cons, List.length_nil] at *); omega)) | (refine app_le rfl ?_; omega)))
    all_goals simp [pickB]
end Go.Proofs.Ytdfajcfkdfjoeaa
namespace Go.Proofs.Ytdfajcfkdfjoeaa
open Go Go.Vc Go.Scr
set_option linter.unusedVariables false
set_option linter.unusedSimpArgs false
set_option maxHeartbeats 4000000 in
theorem put_at {w : List Int} {a : Nat} {v : Int} (ha : a ≤ w.length) (hl : w.length ≤ 100) : FnAt Try.prog false 41 [.arr (.int .i64) w, .lit (.int .i64 a), .lit (.int .i64 v)] (.own 0) [(0, .row 3 (.int .i64) true (putT w a v))] := by
  have hwl : @List.length (Ty.int .i64).T w ≤ 100 := hl
  have ha' : a ≤ @List.length (Ty.int .i64).T w := ha
  have g1 : ([] : List Int) ++ (w.take a).drop 0 ++ [v] ++ (w.take w.length).drop a = putT w a v := by
    unfold putT; simp
  have g2 : (([] : List Int) ++ (w.take a).drop 0 ++ [v]).length + ((w.take w.length).drop a).length ≤ 4294967296 := by simp; omega
  have g3 : (([] : List Int) ++ (w.take a).drop 0).length + [v].length ≤ 4294967296 := by simp; omega
  have g4 : ([] : List Int).length + ((w.take a).drop 0).length ≤ 4294967296 := by simp; omega
  refine FnAt.of_body tys_ok Try.func41 (by rfl) rfl Try.ntmps41 (by rw [Try.results41]) (by simp) ?_
  
  repeat' (first
 | refine W.seq ?_
 | refine W.block ?_
 | (refine W.drawPh (id := 1) tys_ok [] mixed [0, 0, 0, 6, 9, 0, 32, 80, 0, 0, 768, 1152, 4095] [([1, 2, 5, 8, 9], 6, 2047), ([], 1, 4095), ([12], 0, 8191)] (by decide +kernel) ?_; conv => whnf)
 | (refine W.region tys_ok [] ?_; conv => whnf)
 | (refine W.drawAll tys_ok [] mixed rfl ?_; conv => whnf)
 | (refine W.ret ?_; conv => whnf)
 | (refine W.skip ?_; conv => whnf)
 | (refine W.exit ?_; conv => whnf)
 | (refine Both.mk ?_ ?_ <;> (conv => whnf))
 | (refine W.cond rfl (fun hb => ?_) (fun hb => ?_) <;> (try simp only [Int.reduceToNat, Int.reduceTDiv, Int.reduceTMod, minL, maxL, pickB, zHB] at hb) <;> (try (first | (cases hb; done) | exact absurd hb (by decide) | (exfalso; omega))))
 | ((with_reducible refine And.intro ?_ ?_); (focus ((repeat' (first | (with_reducible rfl) | (with_reducible refine And.intro ?_ ?_) | omega | rfl | exact Or.inl rfl | exact Or.inr rfl | exact of_decide_eq_true rfl | exact Path.imp_of (of_decide_eq_true rfl) | (focus ((try simp only [Int.reduceToNat, Int.reduceTDiv, Int.reduceTMod, minL, maxL, pickB, zHB, InK, Path.imp, List.length_replicate, List.length_set, List.length_append, List.length_cons, List.length_nil] at *); omega)) | (refine app_le rfl ?_; omega))); done)); (conv => whnf))
 | ((with_reducible refine And.intro (Side.out ?_) ?_); rotate_left; (conv => whnf))
 | ((first | refine retF1 ?_ | refine retF2 ?_ | refine subF.leaf ?_ | refine subF.side ?_) <;> (conv => whnf) <;> repeat' (first
 | exact trivial
 | (with_reducible rfl)
 | ((with_reducible refine And.intro ?_ ?_) <;> conv => whnf)
 | omega
 | rfl
 | (refine congrArg (SV.arr _) ?_)
 | (refine congrArg (Value.int _) ?_)
 | (refine congrArg Value.bool ?_)))); all_goals (try unfold Side)
  all_goals try (repeat' (first | (with_reducible rfl) | (with_reducible refine And.intro ?_ ?_) | omega | rfl | exact Or.inl rfl | exact Or.inr rfl | exact of_decide_eq_true rfl | exact Path.imp_of (of_decide_eq_true rfl) | (focus ((try simp only [Int.reduceToNat, Int.reduceTDiv, Int.reduceTMod, minL, maxL, pickB, zHB, InK, Path.imp, List.length_replicate, List.length_set, List.length_append, List.length_cons, List.length_nil] at *); omega)) | (refine app_le rfl ?_; omega)))
  all_goals first | exact g1 | exact g2 | exact g3 | exact g4
theorem sig_op {z i : Nat} (hz : z < 65536) (hi : i < 11) : ∃ e : Int, (((z : Int) / 2 ^ (i : Int).toNat).toNat &&& Int.toNat 1 : Nat) = e ∧ 0 ≤ e ∧ e ≤ 1 ∧ 1 - 2 * e = sigAt z i ∧
    (0 ≤ (i : Int) ∧ (i : Int).toNat ≤ IntKind.u16.bits) ∧ (0 ≤ (z : Int) / 2 ^ (i : Int).toNat ∧ (0 : Int) ≤ 1 ∧ InK .u16 ((z : Int) / 2 ^ (i : Int).toNat) ∧ InK .u16 1) := by
  have h2 : (z : Int) / 2 ^ i = ((z / 2 ^ i : Nat) : Int) := by norm_cast
  have h3 : z / 2 ^ i ≤ 65535 := Nat.le_trans (Nat.div_le_self _ _) (by omega)
  have h4 := bit_and (k := z) (j := i)
  have h6 := bitT_le (k := z) (j := i)
  have h7 : sigAt z i = 1 - 2 * (bitT z i : Int) := rfl
  obtain ⟨q, hq⟩ : ∃ q, q = z / 2 ^ i := ⟨_, rfl⟩
  rw [← hq] at h2 h3 h4
  rw [Int.toNat_natCast, h2, Int.toNat_natCast, show Int.toNat 1 = 1 from rfl, h4]
  refine ⟨_, rfl, by omega, by omega, h7.symm, ⟨by omega, by show _ ≤ 16; omega⟩, by omega, by omega, ?_, by simp [InK]⟩
  simp only [InK]; omega
set_option maxHeartbeats 4000000 in
theorem signs_at {n z : Nat} (hn : n ≤ 10) (hz : z < 65536) : FnAt Try.prog false 29 [.lit (.int .i64 n), .lit (.int .u16 z)] (.own 0) [(0, .row 3 (.int .i64) true (sigT n z))] := by
  refine FnAt.of_body tys_ok Try.func29 (by rfl) rfl Try.ntmps29 (by rw [Try.results29]) (by simp) ?_
  
  repeat' (first
 | refine W.seq ?_
 | refine W.block ?_
 | (refine W.region tys_ok [] ?_; conv => whnf)
 | (refine W.drawAll tys_ok [] mixed rfl ?_; conv => whnf)
 | (refine W.ret ?_; conv => whnf)
 | (refine W.skip ?_; conv => whnf)
 | (refine W.exit ?_; conv => whnf)
 | (refine W.cond rfl (fun hb => ?_) (fun hb => ?_) <;> (try simp only [Int.reduceToNat, Int.reduceTDiv, Int.reduceTMod, minL, maxL, pickB, zHB] at hb) <;> (try (first | (cases hb; done) | exact absurd hb (by decide) | (exfalso; omega))))
 | ((with_reducible refine And.intro ?_ ?_); (focus ((repeat' (first | (with_reducible rfl) | (with_reducible refine And.intro ?_ ?_) | omega | rfl | exact Or.inl rfl | exact Or.inr rfl | exact of_decide_eq_true rfl | exact Path.imp_of (of_decide_eq_true rfl) | (focus ((try simp only [Int.reduceToNat, Int.reduceTDiv, Int.reduceTMod, minL, maxL, pickB, zHB, InK, Path.imp, List.length_replicate, List.length_set, List.length_append, List.length_cons, List.length_nil] at *); omega)) | (refine app_le rfl ?_; omega))); done)); (conv => whnf))
 | ((with_reducible refine And.intro (Side.out ?_) ?_); rotate_left; (conv => whnf))
 | ((first | refine retF1 ?_ | refine retF2 ?_) <;> (conv => whnf) <;> repeat' (first
 | exact trivial
 | (with_reducible rfl)
 | ((with_reducible refine And.intro ?_ ?_) <;> conv => whnf)
 | omega
 | rfl
 | (refine congrArg (SV.arr _) ?_)
 | (refine congrArg (Value.int _) ?_)
 | (refine congrArg Value.bool ?_)))); all_goals (try unfold Side)
  all_goals try (repeat' (first | (with_reducible rfl) | (with_reducible refine And.intro ?_ ?_) | omega | rfl | exact Or.inl rfl | exact Or.inr rfl | exact of_decide_eq_true rfl | exact Path.imp_of (of_decide_eq_true rfl) | (focus ((try simp only [Int.reduceToNat, Int.reduceTDiv, Int.reduceTMod, minL, maxL, pickB, zHB, InK, Path.imp, List.length_replicate, List.length_set, List.length_append, List.length_cons, List.length_nil] at *); omega)) | (refine app_le rfl ?_; omega)))
  refine W.loop (fun i : Nat => ⟨[(0, .lit (.int .i64 (n))), (1, .lit (.int .u16 z)), (5, .own 900005), (6, .lit (.int .i64 (i)))], [(900005, .row 3 (.int .i64) true ((sigT i z : List Int) : List Int))]⟩) (fun i => i ≤ n) (fun i => n - i) (0) ?_ ?_
  · refine ⟨Nat.zero_le _, ?_⟩
    refine subF.ok ?_ <;> (conv => whnf) <;> repeat' (first
 | exact trivial
 | (with_reducible rfl)
 | ((with_reducible refine And.intro ?_ ?_) <;> conv => whnf)
 | omega
 | rfl
 | (refine congrArg (SV.arr _) ?_)
 | (refine congrArg (Value.int _) ?_)
 | (refine congrArg Value.bool ?_))
  · intro i hi
    have hsl : @List.length (Ty.int .i64).T (sigT i z) = i := sigT_len
    by_cases hin : i < n
    · obtain ⟨e, f0, f1, f2, f3, f4, f5⟩ := sig_op hz (i := i) (by omega)
      repeat' (first
 | refine W.seq ?_
 | refine W.block ?_
 | (refine W.region tys_ok [] ?_; conv => whnf)
 | (refine W.drawAll tys_ok [] mixed rfl ?_; conv => whnf)
 | (refine W.ret ?_; conv => whnf)
 | (refine W.skip ?_; conv => whnf)
 | (refine W.exit ?_; conv => whnf)
 | (refine W.cond rfl (fun hb => ?_) (fun hb => ?_) <;> (try simp only [Int.reduceToNat, Int.reduceTDiv, Int.reduceTMod, minL, maxL, pickB, zHB] at hb) <;> (try (first | (cases hb; done) | exact absurd hb (by decide) | (exfalso; omega))))
 | ((with_reducible refine And.intro ?_ ?_); (focus ((repeat' (first | (with_reducible rfl) | (with_reducible refine And.intro ?_ ?_) | omega | rfl | exact Or.inl rfl | exact Or.inr rfl | exact of_decide_eq_true rfl | exact Path.imp_of (of_decide_eq_true rfl) | (focus ((try simp only [Int.reduceToNat, Int.reduceTDiv, Int.reduceTMod, minL, maxL, pickB, zHB, InK, Path.imp, List.length_replicate, List.length_set, List.length_append, List.length_cons, List.length_nil] at *); omega)) | (refine app_le rfl ?_; omega))); done)); (conv => whnf))
 | ((with_reducible refine And.intro (Side.out ?_) ?_); rotate_left; (conv => whnf))
 | ((first | refine retF1 ?_ | refine retF2 ?_) <;> (conv => whnf) <;> repeat' (first
 | exact trivial
 | (with_reducible rfl)
 | ((with_reducible refine And.intro ?_ ?_) <;> conv => whnf)
 | omega
 | rfl
 | (refine congrArg (SV.arr _) ?_)
 | (refine congrArg (Value.int _) ?_)
 | (refine congrArg Value.bool ?_)))); all_goals (try unfold Side)
      all_goals try exact Path.imp_of f4
      all_goals try exact Path.imp_of f5
      all_goals try exact app_le rfl (Nat.le_trans (Nat.succ_le_succ (Nat.le_of_eq hsl)) (by omega))
      all_goals try (rw [f0])
      all_goals try (repeat' (first | (with_reducible rfl) | (with_reducible refine And.intro ?_ ?_) | omega | rfl | exact Or.inl rfl | exact Or.inr rfl | exact of_decide_eq_true rfl | exact Path.imp_of (of_decide_eq_true rfl) | (focus ((try simp only [Int.reduceToNat, Int.reduceTDiv, Int.reduceTMod, minL, maxL, pickB, zHB, InK, Path.imp, List.length_replicate, List.length_set, List.length_append, List.length_cons, List.length_nil] at *); omega)) | (refine app_le rfl ?_; omega)))
      refine ⟨i + 1, ⟨by omega, by omega⟩, ?_⟩
      refine subF.ok ?_ <;> (conv => whnf) <;> repeat' (first
 | exact trivial
 | (with_reducible rfl)
 | ((with_reducible refine And.intro ?_ ?_) <;> conv => whnf)
 | omega
 | rfl
 | (refine congrArg (SV.arr _) ?_)
 | (refine congrArg (Value.int _) ?_)
 | (refine congrArg Value.bool ?_))
      all_goals (have e : sigT i z ++ [1 - 2 * ((((z : Int) / 2 ^ (i : Int).toNat).toNat &&& Int.toNat 1 : Nat) : Int)] = sigT (i + 1) z := by rw [f0, f3, sigT_succ])
      all_goals (have e2 : ∀ x : Int, 1 - 2 * x = sigAt z i → sigT i z ++ [1 - 2 * x] = sigT (i + 1) z := fun x hx => by rw [hx, sigT_succ])
      all_goals first | exact e | exact e2 _ (by assumption)
    · have hie : n = i := by omega
      subst hie
      repeat' (first
 | refine W.seq ?_
 | refine W.block ?_
 | (refine W.region tys_ok [] ?_; conv => whnf)
 | (refine W.drawAll tys_ok [] mixed rfl ?_; conv => whnf)
 | (refine W.ret ?_; conv => whnf)
 | (refine W.skip ?_; conv => whnf)
 | (refine W.exit ?_; conv => whnf)
 | (refine W.cond rfl (fun hb => ?_) (fun hb => ?_) <;> (try simp only [Int.reduceToNat, Int.reduceTDiv, Int.reduceTMod, minL, maxL, pickB, zHB] at hb) <;> (try (first | (cases hb; done) | exact absurd hb (by decide) | (exfalso; omega))))
 | ((with_reducible refine And.intro ?_ ?_); (focus ((repeat' (first | (with_reducible rfl) | (with_reducible refine And.intro ?_ ?_) | omega | rfl | exact Or.inl rfl | exact Or.inr rfl | exact of_decide_eq_true rfl | exact Path.imp_of (of_decide_eq_true rfl) | (focus ((try simp only [Int.reduceToNat, Int.reduceTDiv, Int.reduceTMod, minL, maxL, pickB, zHB, InK, Path.imp, List.length_replicate, List.length_set, List.length_append, List.length_cons, List.length_nil] at *); omega)) | (refine app_le rfl ?_; omega))); done)); (conv => whnf))
 | ((with_reducible refine And.intro (Side.out ?_) ?_); rotate_left; (conv => whnf))
 | ((first | refine retF1 ?_ | refine retF2 ?_) <;> (conv => whnf) <;> repeat' (first
 | exact trivial
 | (with_reducible rfl)
 | ((with_reducible refine And.intro ?_ ?_) <;> conv => whnf)
 | omega
 | rfl
 | (refine congrArg (SV.arr _) ?_)
 | (refine congrArg (Value.int _) ?_)
 | (refine congrArg Value.bool ?_)))); all_goals (try unfold Side)
      all_goals try (repeat' (first | (with_reducible rfl) | (with_reducible refine And.intro ?_ ?_) | omega | rfl | exact Or.inl rfl | exact Or.inr rfl | exact of_decide_eq_true rfl | exact Path.imp_of (of_decide_eq_true rfl) | (focus ((try simp only [Int.reduceToNat, Int.reduceTDiv, Int.reduceTMod, minL, maxL, pickB, zHB, InK, Path.imp, List.length_replicate, List.length_set, List.length_append, List.length_cons, List.length_nil] at *); omega)) | (refine app_le rfl ?_; omega)))
end Go.Proofs.Ytdfajcfkdfjoeaa
namespace Go.Scr
set_option linter.unusedVariables false
set_option linter.unusedSimpArgs false
def bf (n a : Nat) : Nat := if a = 0 then 2 * n - 1 else a - 1
theorem bf_lt {n a : Nat} (h : a < 2 * n) : bf n a < 2 * n := by unfold bf; split <;> omega
theorem bf_inj {n a b : Nat} (ha : a < 2 * n) (hb : b < 2 * n) (h : bf n a = bf n b) : a = b := by
  unfold bf at h; split at h <;> split at h <;> omega
theorem at_bf {n a : Nat} (h : a < 2 * n) : atT (2 * n) (bf n a : Nat) = a := by
  unfold atT bf
  split
  · rw [if_pos (by omega)]
    rename_i h0; subst h0
    rw [show ((2 * n - 1 : Nat) : Int) + 1 = (2 * n : Nat) by omega, Int.tmod_self]; rfl
  · rw [if_pos (by omega), Int.tmod_eq_emod_of_nonneg (by omega), Int.emod_eq_of_lt (by omega) (by omega)]; omega
theorem at_neg {n a : Nat} (h : a < 2 * n) : atT (2 * n) (-1 - (a : Int)) = a := by
  unfold atT; rw [if_neg (by omega)]; omega
theorem at_cases {n a : Nat} {st : Int} (ha : a < 2 * n) (h0 : -((2 * n : Nat) : Int) ≤ st) (h1 : st < (2 * n : Nat)) (h : atT (2 * n) st = a) : st = (bf n a : Nat) ∨ st = -1 - (a : Int) := by
  unfold atT at h
  split at h
  · left
    unfold bf
    by_cases e : st + 1 = (2 * n : Nat)
    · rw [e, Int.tmod_self] at h; rw [if_pos (by omega)]; omega
    · rw [Int.tmod_eq_emod_of_nonneg (by omega), Int.emod_eq_of_lt (by omega) (by omega)] at h
      rw [if_neg (by omega)]; omega
  · right; omega
theorem tm_bf {n o : Nat} (h : o < 2 * n) : ((o : Int) + (2 * n : Nat) - 1).tmod (2 * n : Nat) = (bf n o : Nat) := by
  rw [Int.tmod_eq_emod_of_nonneg (by omega)]
  unfold bf; split
  · rename_i h0; subst h0
    rw [Int.emod_eq_of_lt (by omega) (by omega)]; omega
  · rw [show (o : Int) + (2 * n : Nat) - 1 = ((o - 1 : Nat) : Int) + (2 * n : Nat) by omega, Int.add_emod_right, Int.emod_eq_of_lt (by omega) (by omega)]
structure Cr (w s : List Int) (n x p q : Nat) : Prop where
  pq : p < q
  hq : q < 2 * n
  pl : placesT w x = [(p : Int), (q : Int)]
  wp : w.getD p 0 = x
  wq : w.getD q 0 = x
  all : ∀ i, i < 2 * n → w.getD i 0 = x → i = p ∨ i = q
  nx : s.getD x 0 = 1 ∧ nextT w s (bf n p : Nat) = -1 - (bf n q : Nat) ∧ nextT w s (-1 - (p : Int)) = q ∧ nextT w s (bf n q : Nat) = p ∧ nextT w s (-1 - (q : Int)) = -1 - (bf n p : Nat)
    ∨ s.getD x 0 = -1 ∧ nextT w s (bf n p : Nat) = q ∧ nextT w s (-1 - (p : Int)) = -1 - (bf n q : Nat) ∧ nextT w s (bf n q : Nat) = -1 - (bf n p : Nat) ∧ nextT w s (-1 - (q : Int)) = p
theorem cr_of {w s : List Int} {n : Nat} (h : Word w n) (hs : s.all (fun x => decide (x = 1) || decide (x = -1)) = true) (hl : s.length = n) {x : Nat} (hx : x < n) : ∃ p q, Cr w s n x p q := by
  obtain ⟨p, q, hpq, hq, hpl, hwp, hwq, hall⟩ := h.places hx
  refine ⟨p, q, hpq, hq, hpl, hwp, hwq, hall, ?_⟩
  have key : ∀ (st : Int) (a : Nat), a < 2 * n → w.getD a 0 = x → -((2 * n : Nat) : Int) ≤ st → st < (2 * n : Nat) → atT (2 * n) st = a →
      nextT w s st = if decide (0 ≤ st) == (decide (s.getD x 0 = 1) == decide (a = p)) then (-1 : Int) - ((bf n (p + q - a) : Nat) : Int) else ((p + q - a : Nat) : Int) := by
    intro st a ha hwa h0 h1 hat
    obtain ⟨a', x', p', q', H⟩ := at_of h hs hl h0 h1
    have e1 : a' = a := by have := H.at_; omega
    subst e1
    have e2 : x' = x := by have := H.wa; omega
    subst e2
    have e3 := H.pl
    rw [hpl] at e3
    simp at e3
    obtain ⟨e4, e5⟩ := e3
    have e4 : p = p' := by omega
    have e5 : q = q' := by omega
    subst e4 e5
    have h2 := H.hp
    rw [H.nx]
    rw [show (p : Int) + q - a' = ((p + q - a' : Nat) : Int) by omega, tm_bf (by omega)]
  have hm : s.getD x 0 ∈ s := mem_getD (by omega)
  have hsg := List.all_eq_true.1 hs _ hm
  have k1 := key (bf n p : Nat) p (by omega) hwp (by have := bf_lt (n := n) (a := p) (by omega); omega) (by have := bf_lt (n := n) (a := p) (by omega); omega) (at_bf (by omega))
  have k2 := key (-1 - (p : Int)) p (by omega) hwp (by omega) (by omega) (at_neg (by omega))
  have k3 := key (bf n q : Nat) q (by omega) hwq (by have := bf_lt (n := n) (a := q) (by omega); omega) (by have := bf_lt (n := n) (a := q) (by omega); omega) (at_bf (by omega))
  have k4 := key (-1 - (q : Int)) q (by omega) hwq (by omega) (by omega) (at_neg (by omega))
  have hqp : ¬ q = p := by omega
  have n1 : ¬ (0 : Int) ≤ -1 - (p : Int) := by omega
  have n2 : ¬ (0 : Int) ≤ -1 - (q : Int) := by omega
  have p1 : (0 : Int) ≤ (bf n p : Nat) := by omega
  have p2 : (0 : Int) ≤ (bf n q : Nat) := by omega
  rw [show p + q - p = q by omega] at k1 k2
  rw [show p + q - q = p by omega] at k3 k4
  simp only [n1, n2, p1, p2, hqp, decide_true, decide_false] at k1 k2 k3 k4
  have hsg2 : s.getD x 0 = 1 ∨ s.getD x 0 = -1 := by simpa using hsg
  rcases hsg2 with e | e
  · left
    rw [e] at k1 k2 k3 k4
    exact ⟨e, by simpa using k1, by simpa using k2, by simpa using k3, by simpa using k4⟩
  · right
    rw [e] at k1 k2 k3 k4
    exact ⟨e, by simpa using k1, by simpa using k2, by simpa using k3, by simpa using k4⟩
theorem sw_comm {f : Nat → Nat} {a b : Nat} (h : a ≠ b) (x : Nat) : sw a b f x = sw b a f x := by
  unfold sw; split <;> split <;> first | rfl | omega
theorem flip' {N : Nat} {f : Nat → Nat} {a b : Nat} (h : Pm f N) (hab : a ≠ b) (ha : a < N) (hb : b < N) : (cyc (sw a b f) N + cyc f N) % 2 = 1 := by
  by_cases h1 : a < b
  · exact flip h h1 hb
  · rw [cyc_congr fun x _ => sw_comm hab x]; exact flip h (by omega) ha
theorem Pm.congr {f g : Nat → Nat} {N : Nat} (h : Pm f N) (e : ∀ x, x < N → f x = g x) : Pm g N :=
  ⟨fun x hx => by rw [← e x hx]; exact h.lt x hx, fun x y hx hy he => h.inj x y hx hy (by rw [e x hx, e y hy, he])⟩
def chi (N j : Nat) : Nat → Nat := fun k => if k < j ∨ N - j ≤ k then N - 1 - k else k
theorem chi_ok {M : Nat} : ∀ j, j ≤ M → Pm (chi (2 * M) j) (2 * M) ∧ (cyc (chi (2 * M) j) (2 * M) + j) % 2 = 0
  | 0, _ => by
    have e : ∀ x, x < 2 * M → (fun x => x) x = chi (2 * M) 0 x := fun x hx => by unfold chi; exact (if_neg (by omega)).symm
    refine ⟨Pm.congr ⟨fun x hx => hx, fun x y _ _ h => h⟩ e, ?_⟩
    rw [← cyc_congr e, cyc_id]; omega
  | j + 1, hj => by
    obtain ⟨h1, h2⟩ := chi_ok (M := M) j (by omega)
    have e : ∀ x, x < 2 * M → sw j (2 * M - 1 - j) (chi (2 * M) j) x = chi (2 * M) (j + 1) x := fun x hx => by
      unfold sw chi
      by_cases h3 : x = j
      · rw [if_pos h3, if_neg (by omega), if_pos (by omega)]; omega
      · rw [if_neg h3]
        by_cases h4 : x = 2 * M - 1 - j
        · subst h4; rw [if_pos rfl, if_neg (by omega), if_pos (by omega)]; omega
        · rw [if_neg h4]
          by_cases h5 : x < j ∨ 2 * M - j ≤ x
          · have h6 : x < j + 1 ∨ 2 * M - (j + 1) ≤ x := by omega
            rw [if_pos h5, if_pos h6]
          · have h6 : ¬ (x < j + 1 ∨ 2 * M - (j + 1) ≤ x) := by omega
            rw [if_neg h5, if_neg h6]
    refine ⟨(h1.sw (by omega) (by omega)).congr e, ?_⟩
    have := flip' h1 (a := j) (b := 2 * M - 1 - j) (by omega) (by omega) (by omega)
    rw [cyc_congr e] at this
    omega
def nuK (w s : List Int) (k : Nat) (st : Int) : Int := if w.getD (atT w.length st).toNat 0 < k then nextT w s st else -1 - st
theorem rot3 {f g : Nat → Nat} {N a b c d : Nat} (h : Pm f N) (ha : a < N) (hb : b < N) (hc : c < N) (hd : d < N) (hab : a ≠ b) (hac : a ≠ c) (had : a ≠ d) (hbc : b ≠ c) (hbd : b ≠ d) (hcd : c ≠ d)
    (e1 : g a = f c) (e2 : g c = f b) (e3 : g b = f d) (e4 : g d = f a) (e : ∀ x, x < N → x ≠ a → x ≠ b → x ≠ c → x ≠ d → g x = f x) : Pm g N ∧ (cyc g N + cyc f N) % 2 = 1 := by
  have h1 := h.sw (a := a) (b := c) ha hc
  have h2 := h1.sw (a := c) (b := b) hc hb
  have h3 := h2.sw (a := b) (b := d) hb hd
  have eq : ∀ x, x < N → sw b d (sw c b (sw a c f)) x = g x := fun x hx => by
    unfold sw
    by_cases x1 : x = a
    · subst x1; simp [*]
    · by_cases x2 : x = b
      · subst x2; simp [*, Ne.symm hbd, Ne.symm hcd, Ne.symm had]
      · by_cases x3 : x = c
        · subst x3; simp [*, Ne.symm hbc, Ne.symm hab]
        · by_cases x4 : x = d
          · subst x4; simp [*, Ne.symm hbc, Ne.symm hab, Ne.symm hac]
          · simp [*]
  refine ⟨h3.congr eq, ?_⟩
  have f1 := flip' h hac ha hc
  have f2 := flip' h1 (Ne.symm hbc) hc hb
  have f3 := flip' h2 hbd hb hd
  rw [cyc_congr eq] at f3
  omega
theorem nu_ok {w s : List Int} {n : Nat} (h : Word w n) (hs : s.all (fun x => decide (x = 1) || decide (x = -1)) = true) (hl : s.length = n) : ∀ k, k ≤ n → Pm (up (nuK w s k) (2 * n)) (2 * (2 * n)) ∧ (cyc (up (nuK w s k) (2 * n)) (2 * (2 * n)) + k) % 2 = 0
  | 0, _ => by
    have e : ∀ x, x < 2 * (2 * n) → chi (2 * (2 * n)) (2 * n) x = up (nuK w s 0) (2 * n) x := fun x hx => by
      have h1 := atT_lt (m := 2 * n) (st := (x : Int) - (2 * n : Nat)) (by have := h.pos; omega) (by omega) (by omega)
      have h2 := h.rg (atT (2 * n) ((x : Int) - (2 * n : Nat))).toNat (by omega)
      unfold chi up nuK
      have h3 : x < 2 * n ∨ 2 * (2 * n) - 2 * n ≤ x := by omega
      rw [h.len, if_pos h3, if_neg (by omega)]; omega
    obtain ⟨h1, h2⟩ := chi_ok (M := 2 * n) (2 * n) (Nat.le_refl _)
    refine ⟨h1.congr e, ?_⟩
    rw [← cyc_congr e]; omega
  | k + 1, hk => by
    obtain ⟨h1, h2⟩ := nu_ok h hs hl k (by omega)
    obtain ⟨p, q, C⟩ := cr_of h hs hl (x := k) (by omega)
    have hpq := C.pq; have hq := C.hq
    have bp := bf_lt (n := n) (a := p) (by omega)
    have bq := bf_lt (n := n) (a := q) (by omega)
    have bne : bf n p ≠ bf n q := fun e => by have := bf_inj (by omega) (by omega) e; omega
    have upv : ∀ (st : Int) (j : Nat), -((2 * n : Nat) : Int) ≤ st → up (nuK w s j) (2 * n) (st + (2 * n : Nat)).toNat = (nuK w s j st + (2 * n : Nat)).toNat := fun st j h0 => by
      unfold up; rw [show (((st + (2 * n : Nat)).toNat : Nat) : Int) - (2 * n : Nat) = st by omega]
    have old : ∀ (st : Int) (a : Nat), atT (2 * n) st = a → w.getD a 0 = k → nuK w s k st = -1 - st := fun st a ha hw => by
      unfold nuK; rw [h.len, ha, Int.toNat_natCast, hw, if_neg (by omega)]
    have new : ∀ (st : Int) (a : Nat), atT (2 * n) st = a → w.getD a 0 = k → nuK w s (k + 1) st = nextT w s st := fun st a ha hw => by
      unfold nuK; rw [h.len, ha, Int.toNat_natCast, hw, if_pos (by omega)]
    have oA := old _ _ (at_bf (n := n) (a := p) (by omega)) C.wp
    have oB := old _ _ (at_neg (n := n) (a := p) (by omega)) C.wp
    have oC := old _ _ (at_bf (n := n) (a := q) (by omega)) C.wq
    have oD := old _ _ (at_neg (n := n) (a := q) (by omega)) C.wq
    have nA := new _ _ (at_bf (n := n) (a := p) (by omega)) C.wp
    have nB := new _ _ (at_neg (n := n) (a := p) (by omega)) C.wp
    have nC := new _ _ (at_bf (n := n) (a := q) (by omega)) C.wq
    have nD := new _ _ (at_neg (n := n) (a := q) (by omega)) C.wq
    have rest : ∀ x, x < 2 * (2 * n) → x ≠ (((bf n p : Nat) : Int) + (2 * n : Nat)).toNat → x ≠ ((-1 - (p : Int)) + (2 * n : Nat)).toNat → x ≠ (((bf n q : Nat) : Int) + (2 * n : Nat)).toNat → x ≠ ((-1 - (q : Int)) + (2 * n : Nat)).toNat → up (nuK w s (k + 1)) (2 * n) x = up (nuK w s k) (2 * n) x := fun x hx x1 x2 x3 x4 => by
      obtain ⟨a, y, _, _, H⟩ := at_of h hs hl (st := (x : Int) - (2 * n : Nat)) (by omega) (by omega)
      have hy : y ≠ k := fun e => by
        have h5 := C.all a H.ha (by rw [H.wa, e])
        have h6 := at_cases H.ha (by omega) (by omega) H.at_
        rcases h5 with e5 | e5 <;> subst e5 <;> rcases h6 with h6 | h6 <;> omega
      unfold up nuK
      rw [h.len, H.at_, Int.toNat_natCast, H.wa]
      by_cases h7 : (y : Int) < k
      · rw [if_pos h7, if_pos (by omega)]
      · rw [if_neg h7, if_neg (by omega)]
    have uA := fun j => upv (bf n p : Nat) j (by omega)
    have uB := fun j => upv (-1 - (p : Int)) j (by omega)
    have uC := fun j => upv (bf n q : Nat) j (by omega)
    have uD := fun j => upv (-1 - (q : Int)) j (by omega)
    rcases C.nx with ⟨_, v1, v2, v3, v4⟩ | ⟨_, v1, v2, v3, v4⟩
    · have R := rot3 (g := up (nuK w s (k + 1)) (2 * n)) h1 (a := (((bf n p : Nat) : Int) + (2 * n : Nat)).toNat) (b := ((-1 - (p : Int)) + (2 * n : Nat)).toNat) (c := (((bf n q : Nat) : Int) + (2 * n : Nat)).toNat) (d := ((-1 - (q : Int)) + (2 * n : Nat)).toNat)
        (by omega) (by omega) (by omega) (by omega) (by omega) (by omega) (by omega) (by omega) (by omega) (by omega)
        (by rw [uA, uC, oC, nA, v1]) (by rw [uC, uB, oB, nC, v3]; omega) (by rw [uB, uD, oD, nB, v2]; omega) (by rw [uD, uA, oA, nD, v4]) rest
      exact ⟨R.1, by have := R.2; omega⟩
    · have R := rot3 (g := up (nuK w s (k + 1)) (2 * n)) h1 (a := (((bf n p : Nat) : Int) + (2 * n : Nat)).toNat) (b := ((-1 - (p : Int)) + (2 * n : Nat)).toNat) (c := ((-1 - (q : Int)) + (2 * n : Nat)).toNat) (d := (((bf n q : Nat) : Int) + (2 * n : Nat)).toNat)
        (by omega) (by omega) (by omega) (by omega) (by omega) (by omega) (by omega) (by omega) (by omega) (by omega)
        (by rw [uA, uD, oD, nA, v1]; omega) (by rw [uD, uB, oB, nD, v4]; omega) (by rw [uB, uC, oC, nB, v2]) (by rw [uC, uA, oA, nC, v3]) (fun x hx x1 x2 x3 x4 => rest x hx x1 x2 x4 x3)
      exact ⟨R.1, by have := R.2; omega⟩
theorem nu_all {w s : List Int} {n : Nat} (h : Word w n) {st : Int} (h0 : -((2 * n : Nat) : Int) ≤ st) (h1 : st < (2 * n : Nat)) : nuK w s n st = nextT w s st := by
  have h2 := atT_lt (m := 2 * n) (st := st) (by have := h.pos; omega) h0 h1
  have h3 := h.rg (atT (2 * n) st).toNat (by omega)
  unfold nuK; rw [h.len, if_pos h3.2]
theorem next_pn {w s : List Int} {n : Nat} (h : Word w n) (hs : s.all (fun x => decide (x = 1) || decide (x = -1)) = true) (hl : s.length = n) : Pn (nextT w s) (2 * n) := by
  have hr : ∀ st, -((2 * n : Nat) : Int) ≤ st → st < (2 * n : Nat) → -((2 * n : Nat) : Int) ≤ nextT w s st ∧ nextT w s st < (2 * n : Nat) := fun st h0 h1 => by
    obtain ⟨a, x, p, q, H⟩ := at_of h hs hl h0 h1; exact H.rg
  refine ⟨hr, fun x y hx0 hx1 hy0 hy1 e => ?_⟩
  have P := (nu_ok h hs hl n (Nat.le_refl _)).1
  have h1 := hr x hx0 hx1
  have := P.inj (x + (2 * n : Nat)).toNat (y + (2 * n : Nat)).toNat (by omega) (by omega) (by
    unfold up
    rw [show (((x + (2 * n : Nat)).toNat : Nat) : Int) - (2 * n : Nat) = x by omega, show (((y + (2 * n : Nat)).toNat : Nat) : Int) - (2 * n : Nat) = y by omega, nu_all h hx0 hx1, nu_all h hy0 hy1, e])
  omega
theorem faces_par {w s : List Int} {n : Nat} (h : Word w n) (hs : s.all (fun x => decide (x = 1) || decide (x = -1)) = true) (hl : s.length = n) : ((facesT (nextT w s) (2 * n)).length + n) % 2 = 0 := by
  rw [facesT_cyc (next_pn h hs hl)]
  have := (nu_ok h hs hl n (Nat.le_refl _)).2
  rw [cyc_congr (g := up (nextT w s) (2 * n)) fun x hx => by unfold up; rw [nu_all h (by omega) (by omega)]] at this
  exact this
end Go.Scr
namespace Go.Scr
set_option linter.unusedVariables false
set_option linter.unusedSimpArgs false
/-! ### Sums of sets -/
def comb {α : Type} : List Bool → List (α → Bool) → α → Bool
  | c :: cs, v :: vs, j => (c && v j) ^^ comb cs vs j
  | _, _, _ => false
theorem comb_app {α : Type} {j : α} : ∀ {c1 : List Bool} {L1 : List (α → Bool)} {c2 : List Bool} {L2 : List (α → Bool)}, c1.length = L1.length → comb (c1 ++ c2) (L1 ++ L2) j = (comb c1 L1 j ^^ comb c2 L2 j)
  | [], [], c2, L2, _ => by simp [comb]
  | c :: c1, v :: L1, c2, L2, h => by
    simp only [List.cons_append, comb, comb_app (c1 := c1) (L1 := L1) (by simpa using h), Bool.xor_assoc]
  | [], _ :: _, _, _, h => by simp at h
  | _ :: _, [], _, _, h => by simp at h
theorem comb_zero {α : Type} {j : α} : ∀ {c : List Bool} {L : List (α → Bool)}, (∀ v ∈ L, v j = false) → comb c L j = false
  | [], _, _ => by simp [comb]
  | _ :: _, [], _ => by simp [comb]
  | c :: cs, v :: vs, h => by rw [comb, h v (by simp), comb_zero fun u hu => h u (by simp [hu])]; simp
theorem comb_map {j m : Nat} {v : Nat → Bool} : ∀ {c : List Bool} {L : List (Nat → Bool)}, comb c (L.map fun u => fun i => u i ^^ (u m && v i)) j = (comb c L j ^^ (comb c L m && v j))
  | [], _ => by simp [comb]
  | _ :: _, [] => by simp [comb]
  | c :: cs, u :: us => by
    simp only [List.map_cons, comb, comb_map (c := cs) (L := us)]
    cases c <;> cases u j <;> cases u m <;> cases v j <;> cases comb cs us j <;> cases comb cs us m <;> rfl
theorem dep : ∀ (m : Nat) (L : List (Nat → Bool)), m < L.length → ∃ c : List Bool, c.length = L.length ∧ true ∈ c ∧ ∀ j, j < m → comb c L j = false
  | 0, L, h => ⟨List.replicate L.length true, by simp, by rw [List.mem_replicate]; exact ⟨by omega, rfl⟩, fun j hj => by omega⟩
  | m + 1, L, h => by
    by_cases hv : ∃ v ∈ L, v m = true
    · obtain ⟨v, hv, hm⟩ := hv
      obtain ⟨A, B, rfl⟩ := List.append_of_mem hv
      obtain ⟨c, h1, h2, h3⟩ := dep m ((A ++ B).map fun u => fun i => u i ^^ (u m && v i)) (by simp at h ⊢; omega)
      simp only [comb_map] at h3
      have hc : c = c.take A.length ++ c.drop A.length := (List.take_append_drop _ _).symm
      have hl : (c.take A.length).length = A.length := by simp at h1 ⊢; omega
      have hl2 : (c.drop A.length).length = B.length := by simp at h1 ⊢; omega
      generalize c.take A.length = c1 at *
      generalize c.drop A.length = c2 at *
      subst hc
      refine ⟨c1 ++ comb (c1 ++ c2) (A ++ B) m :: c2, by simp; omega, ?_, fun j hj => ?_⟩
      · rcases List.mem_append.1 h2 with h | h <;> simp [h]
      · rw [comb_app hl, comb]
        by_cases hjm : j = m
        · subst hjm
          rw [comb_app hl, hm]
          cases comb c1 A j <;> cases comb c2 B j <;> rfl
        · have h4 := h3 j (by omega)
          rw [comb_app hl] at h4
          rw [← h4]
          cases comb c1 A j <;> cases comb c2 B j <;> cases comb (c1 ++ c2) (A ++ B) m <;> cases v j <;> rfl
    · obtain ⟨c, h1, h2, h3⟩ := dep m L (by omega)
      refine ⟨c, h1, h2, fun j hj => ?_⟩
      by_cases hjm : j = m
      · subst hjm
        exact comb_zero fun v hv' => by
          cases e : v j with
          | false => rfl
          | true => exact absurd ⟨v, hv', e⟩ hv
      · exact h3 j (by omega)
/-! ### Faces as sets of steps and of edges -/
def ind (f : List Int) : Int → Bool := fun s => decide (s ∈ f)
def dv (f : List Int) : Nat → Bool := fun e => decide ((e : Int) ∈ f) ^^ decide (-1 - (e : Int) ∈ f)
def uv (t : Nat) : Nat → Bool := fun e => decide (e = t)
theorem comb_dv {e : Nat} : ∀ {c : List Bool} {fs : List (List Int)}, comb c (fs.map dv) e = (comb c (fs.map ind) (e : Int) ^^ comb c (fs.map ind) (-1 - (e : Int)))
  | [], _ => by simp [comb]
  | _ :: _, [] => by simp [comb]
  | c :: cs, f :: fs => by
    simp only [List.map_cons, comb, comb_dv (c := cs) (fs := fs), dv, ind]
    cases c <;> cases decide ((e : Int) ∈ f) <;> cases decide (-1 - (e : Int) ∈ f) <;> cases comb cs (fs.map ind) (e : Int) <;> cases comb cs (fs.map ind) (-1 - (e : Int)) <;> rfl
theorem comb_uv {e : Nat} {c : List Bool} {ts : List Nat} (h : ¬ e ∈ ts) : comb c (ts.map uv) e = false := comb_zero fun v hv => by
  obtain ⟨t, ht, rfl⟩ := List.mem_map.1 hv
  unfold uv; rw [decide_eq_false]; rintro rfl; exact h ht
theorem comb_cl {nx : Int → Int} {m : Nat} : ∀ {c : List Bool} {fs : List (List Int)}, (∀ f ∈ fs, Fac nx m f) → Cl nx m (comb c (fs.map ind))
  | [], _, _ => fun x _ _ => by simp [comb]
  | _ :: _, [], _ => fun x _ _ => by simp [comb]
  | c :: cs, f :: fs, h => fun x h0 h1 => by
    have h2 := comb_cl (c := cs) (fs := fs) (fun g hg => h g (by simp [hg])) x h0 h1
    have h3 : ind f x = ind f (nx x) := by unfold ind; rw [decide_eq_decide]; exact (h f (by simp)).cl x h0 h1
    simp only [List.map_cons, comb, h2, h3]
theorem comb_at {α : Type} {j : α} : ∀ {c : List Bool} {L : List (α → Bool)} {i : Nat}, c.length = L.length → i < L.length → (∀ k, k < L.length → ((L.getD k fun _ => false) j = true ↔ k = i)) → comb c L j = c.getD i false
  | [], [], i, _, h, _ => by simp at h
  | _ :: _, [], i, h, _, _ => by simp at h
  | [], _ :: _, i, h, _, _ => by simp at h
  | c :: cs, v :: vs, 0, hl, hi, h => by
    have h0 := (h 0 (by simp)).2 rfl
    simp at h0
    rw [comb, h0, comb_zero fun u hu => ?_]
    · simp
    · obtain ⟨k, hk, e⟩ := List.getElem_of_mem hu
      have := h (k + 1) (by simp; omega)
      simp [hk, e] at this
      exact this
  | c :: cs, v :: vs, i + 1, hl, hi, h => by
    have h0 := h 0 (by simp)
    simp at h0
    rw [comb, h0, comb_at (i := i) (by simpa using hl) (by simpa using hi) fun k hk => ?_]
    · simp
    · have := h (k + 1) (by simp; omega)
      simpa using this
theorem conn {w s : List Int} {n : Nat} (h : Word w n) (hs : s.all (fun x => decide (x = 1) || decide (x = -1)) = true) (hl : s.length = n) {X : Int → Bool} (hX : Cl (nextT w s) (2 * n) X)
    (he : ∀ e : Nat, e < 2 * n → X e = X (-1 - (e : Int))) : ∀ st, -((2 * n : Nat) : Int) ≤ st → st < (2 * n : Nat) → X st = X 0 := by
  have hpos := h.pos
  have k : ∀ a : Nat, a < 2 * n → X (bf n a : Nat) = X a := fun a ha => by
    have hx := h.rg a ha
    obtain ⟨p, q, C⟩ := cr_of h hs hl (x := (w.getD a 0).toNat) (by omega)
    have hpq := C.pq; have hq := C.hq
    have bp := bf_lt (n := n) (a := p) (by omega)
    have bq := bf_lt (n := n) (a := q) (by omega)
    have e1 := hX (bf n p : Nat) (by omega) (by omega)
    have e2 := hX (-1 - (p : Int)) (by omega) (by omega)
    have e3 := hX (bf n q : Nat) (by omega) (by omega)
    have e4 := hX (-1 - (q : Int)) (by omega) (by omega)
    have g1 := he _ bp; have g2 := he _ bq; have g3 := he p (by omega); have g4 := he q (by omega)
    have hall := C.all a ha (by omega)
    rcases C.nx with ⟨_, v1, v2, v3, v4⟩ | ⟨_, v1, v2, v3, v4⟩ <;> rw [v1] at e1 <;> rw [v2] at e2 <;> rw [v3] at e3 <;> rw [v4] at e4 <;> rcases hall with e | e <;> subst e <;> simp_all
  have k2 : ∀ a : Nat, a < 2 * n → X (a : Int) = X 0 := by
    intro a
    induction a with
    | zero => intro _; rfl
    | succ a ih =>
      intro ha
      have := k (a + 1) ha
      unfold bf at this
      rw [if_neg (by omega)] at this
      rw [← this]; exact ih (by omega)
  intro st h0 h1
  by_cases h2 : 0 ≤ st
  · have := k2 st.toNat (by omega)
    rwa [show ((st.toNat : Nat) : Int) = st by omega] at this
  · have h3 := he (-1 - st).toNat (by omega)
    have := k2 (-1 - st).toNat (by omega)
    rw [show (((-1 - st).toNat : Nat) : Int) = -1 - st by omega] at this h3
    rw [show -1 - (-1 - st) = st by omega] at h3
    rw [← h3, this]
theorem even_at {w s : List Int} {n x p q : Nat} (C : Cr w s n x p q) {X : Int → Bool} (hX : Cl (nextT w s) (2 * n) X) {z : Nat → Bool} {c : Bool} (hz : ∀ e, z e = (c ^^ (X (e : Int) ^^ X (-1 - (e : Int))))) : (z (bf n p) ^^ z p ^^ z (bf n q) ^^ z q) = false := by
  have hpq := C.pq; have hq := C.hq
  have bp := bf_lt (n := n) (a := p) (by omega)
  have bq := bf_lt (n := n) (a := q) (by omega)
  have e1 := hX (bf n p : Nat) (by omega) (by omega)
  have e2 := hX (-1 - (p : Int)) (by omega) (by omega)
  have e3 := hX (bf n q : Nat) (by omega) (by omega)
  have e4 := hX (-1 - (q : Int)) (by omega) (by omega)
  simp only [hz]
  rcases C.nx with ⟨_, v1, v2, v3, v4⟩ | ⟨_, v1, v2, v3, v4⟩ <;> rw [v1] at e1 <;> rw [v2] at e2 <;> rw [v3] at e3 <;> rw [v4] at e4 <;> rw [e1, e2, e3, e4] <;>
    cases c <;> cases X p <;> cases X q <;> cases X (-1 - ((bf n p : Nat) : Int)) <;> cases X (-1 - ((bf n q : Nat) : Int)) <;> rfl
def fst (w : List Int) (x : Nat) : Nat := ((placesT w x).getD 0 0).toNat
theorem Cr.fst {w s : List Int} {n x p q : Nat} (C : Cr w s n x p q) : fst w x = p := by unfold Scr.fst; rw [C.pl]; simp
def tree (w : List Int) (n : Nat) : List Nat := ((List.range n).erase (w.getD 0 0).toNat).map fun x => fst w x - 1
theorem tree_len {w : List Int} {n : Nat} (h : Word w n) : (tree w n).length = n - 1 := by
  have := h.pos
  have := h.rg 0 (by omega)
  unfold tree
  rw [List.length_map, List.length_erase_of_mem (by rw [List.mem_range]; omega), List.length_range]
theorem tree_zero {w s : List Int} {n : Nat} (h : Word w n) (hs : s.all (fun x => decide (x = 1) || decide (x = -1)) = true) (hl : s.length = n) {z : Nat → Bool}
    (hz : ∀ x p q, x < n → Cr w s n x p q → (z (bf n p) ^^ z p ^^ z (bf n q) ^^ z q) = false) (ht : ∀ e, e < 2 * n → ¬ e ∈ tree w n → z e = false) : ∀ k e, e < 2 * n → 2 * n ≤ e + k → z e = false
  | 0, e, h1, h2 => by omega
  | k + 1, e, h1, h2 => by
    by_cases he : e ∈ tree w n
    · obtain ⟨x, hx, hxe⟩ := List.mem_map.1 he
      have hx1 : x < n := by have := List.mem_of_mem_erase hx; rwa [List.mem_range] at this
      have hx2 : x ≠ (w.getD 0 0).toNat := fun e => by
        subst e
        exact (List.nodup_range.not_mem_erase) hx
      obtain ⟨p, q, C⟩ := cr_of h hs hl hx1
      rw [C.fst] at hxe
      have hpq := C.pq; have hq := C.hq
      have hp : p ≠ 0 := fun e => by subst e; have := C.wp; omega
      have h3 := hz x p q hx1 C
      have bp : bf n p = e := by unfold bf; rw [if_neg hp]; exact hxe
      have bq : bf n q = q - 1 := by unfold bf; rw [if_neg (by omega)]
      rw [bp, bq, tree_zero h hs hl hz ht k p (by omega) (by omega), tree_zero h hs hl hz ht k q (by omega) (by omega), tree_zero h hs hl hz ht k (q - 1) (by omega) (by omega)] at h3
      simpa using h3
    · exact ht e h1 he
theorem fst_inj {w : List Int} {n : Nat} (h : Word w n) {x y : Nat} (hx : x < n) (hy : y < n) (e : fst w x = fst w y) : x = y := by
  obtain ⟨p, q, _, _, hp, h1, _⟩ := h.places hx
  obtain ⟨r, t, _, _, hr, h2, _⟩ := h.places hy
  unfold fst at e; rw [hp, hr] at e
  simp at e
  have e : p = r := by omega
  subst e
  omega
theorem tree_nodup {w : List Int} {n : Nat} (h : Word w n) : (tree w n).Nodup := by
  unfold tree List.Nodup
  rw [List.pairwise_map]
  have hn : ((List.range n).erase (w.getD 0 0).toNat).Nodup := List.nodup_range.erase _
  refine hn.imp_of_mem fun {x y} hx hy hxy e => ?_
  have hx1 : x < n := by have := List.mem_of_mem_erase hx; rwa [List.mem_range] at this
  have hy1 : y < n := by have := List.mem_of_mem_erase hy; rwa [List.mem_range] at this
  have px : ∀ {x}, x < n → x ∈ (List.range n).erase (w.getD 0 0).toNat → fst w x ≠ 0 := fun {x} hx1 hx e => by
    have hx2 : x ≠ (w.getD 0 0).toNat := fun e => by subst e; exact (List.nodup_range.not_mem_erase) hx
    obtain ⟨p, q, _, _, hp, h1, _⟩ := h.places hx1
    unfold fst at e; rw [hp] at e
    simp at e
    have e : p = 0 := by omega
    subst e; omega
  have := px hx1 hx
  have := px hy1 hy
  exact hxy (fst_inj h hx1 hy1 (by omega))
theorem tree_lt {w : List Int} {n : Nat} (h : Word w n) : ∀ e ∈ tree w n, e < 2 * n := fun e he => by
  obtain ⟨x, hx, hxe⟩ := List.mem_map.1 he
  have hx1 : x < n := by have := List.mem_of_mem_erase hx; rwa [List.mem_range] at this
  obtain ⟨p, q, h2, h3, hp, h1, _⟩ := h.places hx1
  unfold fst at hxe; rw [hp] at hxe
  simp at hxe
  omega
end Go.Scr
