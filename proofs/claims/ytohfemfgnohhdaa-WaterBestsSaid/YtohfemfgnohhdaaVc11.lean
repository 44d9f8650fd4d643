/- Values as elements of a row; composite literals. No condition. -/
import Derived.Test.YtohfemfgnohhdaaVc10
namespace Go.Vc
set_option linter.unusedVariables false
set_option linter.unusedSimpArgs false

def Ty.cast (a b : Ty) (xs : List a.T) : Option (List b.T) :=
  if h : a = b then some (h ▸ xs) else none
theorem Ty.cast_some {a b : Ty} {xs : List a.T} {ys : List b.T} (h : Ty.cast a b xs = some ys) : SV.arr a xs = SV.arr b ys ∧ SV.narr a xs = SV.narr b ys := by
  unfold Ty.cast at h
  split at h
  · rename_i e
    subst e
    cases h
    exact ⟨rfl, rfl⟩
  · cases h

/-- A leaf value as an element. -/
def dec1 : (t : Ty) → AV → Option (t.T × Bool)
  | .int k, .lit (.int k' n) => match eqKind k k' with
    | true => some ((n : Int), true)
    | false => none
  | .bool, .lit (.bool b) => some ((b : Bool), true)
  | .str, .lit (.string s) => some ((s : ByteArray), true)
  | .sl t, .st fr (.arr t' xs) => match Ty.cast t' t xs with
    | some ys => some ((ys : List t.T), fr)
    | none => none
  | .sl t, .st fr (.narr t' xs) => match Ty.cast t' t xs with
    | some ys => some ((ys : List t.T), fr)
    | none => none
  | .sl t, .lit (.slice none 0 0) => some (([] : List t.T), true)
  | _, _ => none
def decL : (t : Ty) → List AV → Option (t.T × Bool)
  | .nil, [] => some ((), true)
  | .cons h t, A :: r => match dec1 h A with
    | some (x, b) => match decL t r with
      | some (y, b') => some ((x, y), b && b')
      | none => none
    | none => none
  | _, _ => none
/-- A value as an element: with its freshness. -/
def dec (t : Ty) (A : AV) : Option (t.T × Bool) := match t.leaf with
  | true => dec1 t A
  | false => match isStrct A with
    | true => decL t (leaves A)
    | false => none

theorem dec1_ok {w : World} {O O0 : Nat → Prop} {g : Nat → Value} {v : Value} {fr φ : Bool} : ∀ {t : Ty} {A : AV} {x : t.T}, dec1 t A = some (x, fr) → (φ = true → fr = true) → Rp1 w O O0 g v A → RpS w (Av O O0 φ) v (t.enc x) ∧ v.oneCell' = true := by
  intro t A x h hφ hr
  unfold dec1 at h
  split at h
  · split at h
    · rename_i hk
      cases h
      have := of_decide_eq_true hk
      subst this
      rw [hr.1]; exact ⟨.lit _ rfl, rfl⟩
    · cases h
  · cases h; rw [hr.1]; exact ⟨.lit _ rfl, rfl⟩
  · cases h; rw [hr.1]; exact ⟨.lit _ rfl, rfl⟩
  · split at h
    · rename_i hc
      cases h
      have h1 : RpS w (Av O O0 φ) v _ := RpS.lower hφ hr
      rw [(Ty.cast_some hc).1] at h1
      exact ⟨h1, h1.one rfl⟩
    · cases h
  · split at h
    · rename_i hc
      cases h
      have h1 : RpS w (Av O O0 φ) v _ := RpS.lower hφ hr
      rw [(Ty.cast_some hc).2] at h1
      cases h1 with
      | narr _ _ _ h2 _ => exact ⟨h2, h2.one rfl⟩
    · cases h
  · cases h; rw [hr.1]; exact ⟨.nil _, rfl⟩
  · cases h

theorem decL_ok {w : World} {O O0 : Nat → Prop} {g : Nat → Value} : ∀ {φ : Bool} {t : Ty} {l : List AV} {x : t.T} {fr : Bool} {vs : List Value}, decL t l = some (x, fr) → (φ = true → fr = true) → vs.length = l.length →
    (∀ (i : Nat) (A : AV) (v : Value), l[i]? = some A → vs[i]? = some v → Rp1 w O O0 g v A) → vs.length = (t.encL x).length ∧ ∀ (i : Nat) (B : SV) (v : Value), (t.encL x)[i]? = some B → vs[i]? = some v → RpS w (Av O O0 φ) v B ∧ v.oneCell' = true := by
  intro φ t
  induction t with
  | nil =>
    intro l x fr vs h hφ hl hr
    cases l with
    | nil => exact ⟨hl, fun i B v hB => by simp [Ty.encL] at hB⟩
    | cons => simp [decL] at h
  | cons h t _ ih =>
    intro l x fr vs hd hφ hl hr
    cases l with
    | nil => simp [decL] at hd
    | cons A r =>
      simp only [decL] at hd
      split at hd
      · rename_i x1 b1 h1
        split at hd
        · rename_i y b2 h2
          cases hd
          cases vs with
          | nil => simp at hl
          | cons v vs =>
            obtain ⟨h3, h4⟩ := ih h2 (fun h => by have := hφ h; simp at this; exact this.2) (by simpa using hl) (fun i A v hA hv => hr (i + 1) A v (by simpa using hA) (by simpa using hv))
            refine ⟨by simp [Ty.encL, h3], fun i B u hB hu => ?_⟩
            cases i with
            | zero =>
              simp [Ty.encL] at hB hu
              subst hB; subst hu
              exact dec1_ok h1 (fun h => by have := hφ h; simp at this; exact this.1) (hr 0 A v rfl rfl)
            | succ i => exact h4 i B u (by simpa [Ty.encL] using hB) (by simpa using hu)
        · cases hd
      · cases hd
  | _ => intro l x fr vs h; simp [decL] at h

theorem leaves_ok {w : World} {O O0 : Nat → Prop} {g : Nat → Value} {v : Value} {A : AV} (hs : isStrct A = true) (hr : Rp2 w O O0 g v A) :
    ∃ cs : Array Value, v = .agg cs ∧ cs.size = (leaves A).length ∧ ∀ (i : Nat) (B : AV) (x : Value), (leaves A)[i]? = some B → cs[i]? = some x → Rp1 w O O0 g x B ∧ x.oneCell' = true := by
  cases A with
  | strct l =>
    obtain ⟨f, vs, h1, h2, h3⟩ := hr
    refine ⟨vs, h1, h2, fun i B x hB hx => ?_⟩
    obtain ⟨⟨h4, h5⟩, h6⟩ := h3 i B hB
    rw [h4] at hx
    cases hx
    exact ⟨h6, h5⟩
  | st fr S =>
    cases S with
    | agg l =>
      have hr' : RpS w (Av O O0 fr) v (.agg l) := hr
      obtain ⟨cs, h1, h2, h3⟩ := hr'.aggc
      refine ⟨cs, h1, by simp only [leaves, upL_len]; exact h2, fun i B x hB hx => ?_⟩
      simp only [leaves, upL_get] at hB
      obtain ⟨C, hC, rfl⟩ := Option.map_eq_some_iff.1 hB
      obtain ⟨y, h4, h5, h6⟩ := h3 i C hC
      rw [h4] at hx
      cases hx
      exact ⟨up_one h6, h5⟩
    | _ => cases hs
  | _ => cases hs

theorem dec_ok {w : World} {O O0 : Nat → Prop} {g : Nat → Value} {v : Value} {fr φ : Bool} {t : Ty} {A : AV} {x : t.T} (h : dec t A = some (x, fr)) (hφ : φ = true → fr = true) (hg : t.good = true) (hr : Rp2 w O O0 g v A) :
    RpS w (Av O O0 φ) v (t.enc x) ∧ v.cells.size = t.size ∧ ∀ u ∈ v.cells.toList, u.oneCell' = true := by
  unfold dec at h
  cases hl : t.leaf with
  | true =>
    simp only [hl] at h
    have hr1 : Rp1 w O O0 g v A := by
      cases A <;> first | exact hr | (exfalso; cases t <;> simp [dec1] at h)
    obtain ⟨h1, h2⟩ := dec1_ok h hφ hr1
    have h3 := h1.cells1 (enc_leaf _ _ hl)
    have hsz : t.size = 1 := by cases t <;> first | rfl | (cases hl; done)
    exact ⟨h1, by rw [h3, hsz]; rfl, by rw [h3]; simpa using h2⟩
  | false =>
    simp only [hl] at h
    cases hs : isStrct A with
    | false => rw [hs] at h; cases h
    | true =>
      rw [hs] at h
      obtain ⟨cs, rfl, h1, h2⟩ := leaves_ok hs hr
      obtain ⟨h3, h4⟩ := decL_ok (vs := cs.toList) h hφ (by simpa using h1) (fun i A v hA hv => (h2 i A v hA (by simpa using hv)).1)
      have h5 : cs.size = (t.encL x).length := by simpa using h3
      refine ⟨?_, ?_, ?_⟩
      · rw [enc_cons _ _ hl]
        refine .agg cs _ (fun i => cs.getD i undef) h5 (fun i hi => ?_) (fun i B hB => ?_)
        · have hi' : i < cs.size := by omega
          have := h4 i (t.encL x)[i] cs[i] (by rw [List.getElem?_eq_getElem]) (by simp [hi'])
          simp [Array.getD_eq_getD_getElem?, hi', this.2]
        · have hi : i < cs.size := by rw [h5]; exact (List.getElem?_eq_some_iff.1 hB).1
          have := h4 i B cs[i] hB (by simp [hi])
          simpa [Array.getD_eq_getD_getElem?, hi] using this.1
      · simp only [Value.cells]; rw [h5, encL_len t x hg hl]
      · intro u hu
        obtain ⟨i, hi, rfl⟩ := List.mem_iff_getElem.1 hu
        have hi' : i < cs.size := by simpa [Value.cells] using hi
        exact (h4 i ((t.encL x)[i]'(by omega)) _ (by rw [List.getElem?_eq_getElem]) (by simp [Value.cells, hi'])).2

/-- One part laid over cells. -/
def lay (cells : Array Value) (off : Nat) (vs : Array Value) : Array Value := vs.zipIdx.foldl (fun cs (c, j) => cs.setIfInBounds (off + j) c) cells
theorem lay_list (off : Nat) : ∀ (vs : List Value) (k : Nat) (cells : Array Value),
    ((vs.zipIdx k).foldl (fun cs (c, j) => cs.setIfInBounds (off + j) c) cells).size = cells.size ∧
    ∀ p, ((vs.zipIdx k).foldl (fun cs (c, j) => cs.setIfInBounds (off + j) c) cells)[p]? = if off + k ≤ p ∧ p < off + k + vs.length ∧ p < cells.size then vs[p - (off + k)]? else cells[p]?
  | [], k, cells => ⟨rfl, fun p => by
    have : ¬ (off + k ≤ p ∧ p < off + k + 0 ∧ p < cells.size) := by omega
    simp only [List.zipIdx_nil, List.foldl_nil, List.length_nil]
    rw [if_neg this]⟩
  | v :: vs, k, cells => by
    simp only [List.zipIdx_cons, List.foldl_cons]
    obtain ⟨h1, h2⟩ := lay_list off vs (k + 1) (cells.setIfInBounds (off + k) v)
    refine ⟨by rw [h1]; simp, fun p => ?_⟩
    rw [h2 p]
    simp only [Array.size_setIfInBounds, List.length_cons]
    by_cases hp : off + k = p
    · subst hp
      have n1 : ¬ (off + (k + 1) ≤ off + k ∧ off + k < off + (k + 1) + vs.length ∧ off + k < cells.size) := by omega
      rw [if_neg n1]
      by_cases hs : off + k < cells.size
      · have y1 : off + k ≤ off + k ∧ off + k < off + k + (vs.length + 1) ∧ off + k < cells.size := by omega
        rw [if_pos y1]
        simp [hs]
      · have n2 : ¬ (off + k ≤ off + k ∧ off + k < off + k + (vs.length + 1) ∧ off + k < cells.size) := by omega
        rw [if_neg n2]
        simp [Array.setIfInBounds, hs]
    · by_cases hin : off + (k + 1) ≤ p ∧ p < off + (k + 1) + vs.length ∧ p < cells.size
      · have y1 : off + k ≤ p ∧ p < off + k + (vs.length + 1) ∧ p < cells.size := by omega
        rw [if_pos hin, if_pos y1]
        rw [show p - (off + k) = (p - (off + (k + 1))) + 1 from by omega]
        simp
      · have n1 : ¬ (off + k ≤ p ∧ p < off + k + (vs.length + 1) ∧ p < cells.size) := by omega
        rw [if_neg hin, if_neg n1]
        rw [Array.getElem?_setIfInBounds_ne hp]
theorem lay_size (cells : Array Value) (off : Nat) (vs : Array Value) : (lay cells off vs).size = cells.size := by
  have := (lay_list off vs.toList 0 cells).1
  unfold lay
  rw [← Array.foldl_toList]
  simpa using this
theorem lay_get (cells : Array Value) (off : Nat) (vs : Array Value) (p : Nat) : (lay cells off vs)[p]? = if off ≤ p ∧ p < off + vs.size ∧ p < cells.size then vs[p - off]? else cells[p]? := by
  have := (lay_list off vs.toList 0 cells).2 p
  unfold lay
  rw [← Array.foldl_toList]
  simpa using this

theorem fill_cons {place : Nat → Option (Nat × Nat)} {cells : Array Value} {i off size : Nat} {v : Value} {rest : List (Nat × Value)} (hp : place i = some (off, size)) (hs : v.cells.size = size) (hb : off + v.cells.size ≤ cells.size) :
    Instr.fill place cells ((i, v) :: rest) = Instr.fill place (lay cells off v.cells) rest := by
  have h1 : ¬ (v.cells.size ≠ size ∨ off + v.cells.size > cells.size) := by omega
  simp only [Instr.fill, hp]
  have : (decide (v.cells.size ≠ size) || decide (off + v.cells.size > cells.size)) = false := by
    simp; omega
  simp only [lay]
  split
  · rename_i h; simp at h; omega
  · rfl

/-- The elements of a composite literal of a row, in order. -/
def decs (t : Ty) : List AV → Option (List t.T × Bool)
  | [] => some ([], true)
  | A :: r => match dec t A with
    | some (x, b) => match decs t r with
      | some (l, b') => some (x :: l, b && b')
      | none => none
    | none => none
theorem decs_ok {t : Ty} : ∀ {l : List AV} {xs : List t.T} {fr : Bool}, decs t l = some (xs, fr) → xs.length = l.length ∧ ∀ (i : Nat) (A : AV) (x : t.T), l[i]? = some A → xs[i]? = some x → ∃ b, dec t A = some (x, b) ∧ (fr = true → b = true)
  | [], xs, fr, h => by cases h; exact ⟨rfl, fun i A x hA => by simp at hA⟩
  | A :: r, xs, fr, h => by
    simp only [decs] at h
    split at h
    · rename_i x b1 hB
      split at h
      · rename_i l b2 hl
        cases h
        obtain ⟨h1, h2⟩ := decs_ok hl
        refine ⟨by simp [h1], fun i A' x' hA hx => ?_⟩
        cases i with
        | zero => simp at hA hx; subst hA; subst hx; exact ⟨b1, hB, fun h => by simp at h; exact h.1⟩
        | succ i => obtain ⟨b', h3, h4⟩ := h2 i A' x' (by simpa using hA) (by simpa using hx); exact ⟨b', h3, fun h => h4 (by simp at h; exact h.2)⟩
      · cases h
    · cases h
end Go.Vc
