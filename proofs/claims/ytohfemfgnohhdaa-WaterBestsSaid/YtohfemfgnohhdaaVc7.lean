/- A call by contract is a step of the symbolic machine of Vc1. No condition. -/
import Derived.Test.YtohfemfgnohhdaaVc6
namespace Go.Vc
set_option linter.unusedVariables false
set_option linter.unusedSimpArgs false

/-- The result of a call for the caller: its keys moved by d, its freshness φ. -/
def AV.tr1 (d : Nat) (φ : Bool) : AV → AV
  | .st _ A => .st φ A
  | .own k => .own (k + d)
  | .mown k => .mown (k + d)
  | .lit v => .lit v
  | _ => .any
def trL (d : Nat) (φ : Bool) : List AV → List AV
  | [] => []
  | A :: r => A.tr1 d φ :: trL d φ r
def AV.trM (d : Nat) (φ : Bool) : AV → AV
  | .strct l => .strct (trL d φ l)
  | A => A.tr1 d φ
def trML (d : Nat) (φ : Bool) : List AV → List AV
  | [] => []
  | A :: r => A.trM d φ :: trML d φ r
def AV.tr (d : Nat) (φ : Bool) : AV → AV
  | .tup l => .tup (trML d φ l)
  | A => A.trM d φ
def AV.fr1 : AV → Bool
  | .st fr _ => fr
  | _ => true
def frL : List AV → Bool
  | [] => true
  | A :: r => A.fr1 && frL r
def AV.frM : AV → Bool
  | .strct l => frL l
  | A => A.fr1
def frML : List AV → Bool
  | [] => true
  | A :: r => A.frM && frML r
def AV.okR : AV → Bool
  | .tup l => frML l
  | A => A.frM
def Ob.okN : Ob → Bool
  | .row _ _ fr _ => fr
  | .mat _ _ _ fr _ _ => fr
  | _ => false
def okN : List (Nat × Ob) → Bool
  | [] => true
  | (_, o) :: r => o.okN && okN r
def Ob.tr (φ : Bool) : Ob → Ob
  | .row e τ _ xs => .row e τ φ xs
  | .mat e e' τ _ xs st => .mat e e' τ φ xs st
  | o => o
def trN (d : Nat) (φ : Bool) : List (Nat × Ob) → List (Nat × Ob)
  | [] => []
  | (k, o) :: r => (k + d, o.tr φ) :: trN d φ r
/-- The result of a call under a guard: what it made is taken as stable. -/
def AV.frz1 (φ : Bool) (N : List (Nat × Ob)) : AV → AV
  | .st _ A => .st φ A
  | .own k => match get? N k with
    | some (.row _ τ _ xs) => .st φ (.arr τ xs)
    | _ => .any
  | .lit v => .lit v
  | _ => .any
def frzL (φ : Bool) (N : List (Nat × Ob)) : List AV → List AV
  | [] => []
  | A :: r => A.frz1 φ N :: frzL φ N r
def AV.frzM (φ : Bool) (N : List (Nat × Ob)) : AV → AV
  | .strct l => .strct (frzL φ N l)
  | A => A.frz1 φ N
def frzML (φ : Bool) (N : List (Nat × Ob)) : List AV → List AV
  | [] => []
  | A :: r => A.frzM φ N :: frzML φ N r
def AV.frz (φ : Bool) (N : List (Nat × Ob)) : AV → AV
  | .tup l => .tup (frzML φ N l)
  | A => A.frzM φ N
theorem trML_get {d : Nat} {φ : Bool} : ∀ {l : List AV} {i : Nat}, (trML d φ l)[i]? = (l[i]?).map (AV.trM d φ)
  | [], i => by simp [trML]
  | A :: r, i => by
    cases i with
    | zero => simp [trML]
    | succ i => simp [trML, trML_get (l := r) (i := i)]
theorem trML_len {d : Nat} {φ : Bool} : ∀ {l : List AV}, (trML d φ l).length = l.length
  | [] => rfl
  | A :: r => by simp [trML, trML_len (l := r)]
theorem frzML_get {φ : Bool} {N : List (Nat × Ob)} : ∀ {l : List AV} {i : Nat}, (frzML φ N l)[i]? = (l[i]?).map (AV.frzM φ N)
  | [], i => by simp [frzML]
  | A :: r, i => by
    cases i with
    | zero => simp [frzML]
    | succ i => simp [frzML, frzML_get (l := r) (i := i)]
theorem frzML_len {φ : Bool} {N : List (Nat × Ob)} : ∀ {l : List AV}, (frzML φ N l).length = l.length
  | [] => rfl
  | A :: r => by simp [frzML, frzML_len (l := r)]
theorem frML_get : ∀ {l : List AV} {i : Nat} {A : AV}, frML l = true → l[i]? = some A → A.frM = true
  | [], i, A, _, h => by simp at h
  | B :: r, i, A, hl, h => by
    simp only [frML, Bool.and_eq_true] at hl
    cases i with
    | zero => simp at h; subst h; exact hl.1
    | succ i => exact frML_get hl.2 (by simpa using h)

theorem trL_get {d : Nat} {φ : Bool} : ∀ {l : List AV} {i : Nat}, (trL d φ l)[i]? = (l[i]?).map (AV.tr1 d φ)
  | [], i => by simp [trL]
  | A :: r, i => by
    cases i with
    | zero => simp [trL]
    | succ i => simp [trL, trL_get (l := r) (i := i)]
theorem trL_len {d : Nat} {φ : Bool} : ∀ {l : List AV}, (trL d φ l).length = l.length
  | [] => rfl
  | A :: r => by simp [trL, trL_len (l := r)]
theorem frzL_get {φ : Bool} {N : List (Nat × Ob)} : ∀ {l : List AV} {i : Nat}, (frzL φ N l)[i]? = (l[i]?).map (AV.frz1 φ N)
  | [], i => by simp [frzL]
  | A :: r, i => by
    cases i with
    | zero => simp [frzL]
    | succ i => simp [frzL, frzL_get (l := r) (i := i)]
theorem frzL_len {φ : Bool} {N : List (Nat × Ob)} : ∀ {l : List AV}, (frzL φ N l).length = l.length
  | [] => rfl
  | A :: r => by simp [frzL, frzL_len (l := r)]
theorem frL_get : ∀ {l : List AV} {i : Nat} {A : AV}, frL l = true → l[i]? = some A → A.fr1 = true
  | [], i, A, _, h => by simp at h
  | B :: r, i, A, hl, h => by
    simp only [frL, Bool.and_eq_true] at hl
    cases i with
    | zero => simp at h; subst h; exact hl.1
    | succ i => exact frL_get hl.2 (by simpa using h)
theorem okN_get : ∀ {N : List (Nat × Ob)} {k : Nat} {o : Ob}, okN N = true → get? N k = some o → o.okN = true
  | [], k, o, _, h => by cases h
  | (k', o') :: r, k, o, hl, h => by
    simp only [okN, Bool.and_eq_true] at hl
    simp only [get?] at h
    split at h
    · cases h; exact hl.1
    · exact okN_get hl.2 h
theorem trN_get {d : Nat} {φ : Bool} : ∀ {N : List (Nat × Ob)} {k : Nat}, get? (trN d φ N) k = if d ≤ k then (get? N (k - d)).map (Ob.tr φ) else none
  | [], k => by simp [trN, get?]
  | (k', o) :: r, k => by
    simp only [trN, get?, trN_get (N := r) (k := k)]
    by_cases hd : d ≤ k
    · simp only [hd, if_true]
      cases hb : Nat.beq k' (k - d) with
      | true =>
        have := Nat.eq_of_beq_eq_true hb
        have : Nat.beq (k' + d) k = true := by
          rw [show k' + d = k from by omega]
          exact Nat.beq_refl k
        simp [this]
      | false =>
        have h1 := Nat.ne_of_beq_eq_false hb
        have : Nat.beq (k' + d) k = false := by
          cases h : Nat.beq (k' + d) k with
          | false => rfl
          | true => exact absurd (by have := Nat.eq_of_beq_eq_true h; omega) h1
        simp [this]
    · simp only [hd, if_false]
      have : Nat.beq (k' + d) k = false := by
        cases h : Nat.beq (k' + d) k with
        | false => rfl
        | true => exact absurd (by have := Nat.eq_of_beq_eq_true h; omega) hd
      simp [this]

section ret
variable {c : Cx} {Γ : Sy} {g gN : Nat → Value} {a : Act} {w w' : World} {N : List (Nat × Ob)} {φ : Bool} {d : Nat}

theorem Oset.tr (hst : St c Γ g a w) {b : Nat} (h : Oset (trN d φ N ++ Γ.own) (mg (trN d φ N) (fun k => gN (k - d)) g) b) : Oset N gN b ∨ Oset Γ.own g b := by
  obtain ⟨k, o, h1, h2⟩ := h
  rw [get?_append] at h1
  cases hk : get? (trN d φ N) k with
  | some o' =>
    rw [mg_some hk] at h2
    rw [trN_get] at hk
    split at hk
    · obtain ⟨o'', h3, _⟩ := Option.map_eq_some_iff.1 hk
      exact .inl ⟨_, o'', h3, h2⟩
    · cases hk
  | none =>
    rw [hk] at h1
    rw [mg_none hk] at h2
    exact .inr ⟨k, o, h1, h2⟩

theorem ret_mono (hst : St c Γ g a w) {v : Value} {A : SV} (h : RpS w' (Av (Oset N gN) (Av (Oset Γ.own g) c.O0 φ) true) v A) : RpS w' (Av (Oset (trN d φ N ++ Γ.own) (mg (trN d φ N) (fun k => gN (k - d)) g)) c.O0 φ) v A :=
  h.mono fun b x e fz hb hn => ⟨hb, fun h' => hn (by
    rcases h' with h' | h'
    · rcases Oset.tr hst h' with h' | h'
      · exact .inl h'
      · exact .inr ⟨rfl, .inl h'⟩
    · exact .inr ⟨rfl, .inr h'⟩)⟩

theorem ownsRow_base {w : World} {base base' e size n : Nat} {v : Value} {xs : List Value} (hb : base' ≤ base) (h : w.ownsRow base e size v n xs) : w.ownsRow base' e size v n xs := by
  refine ⟨h.1, ?_⟩
  rcases h.2 with h10 | ⟨b, cap, cur, h10, h11, h12⟩
  · exact .inl h10
  · exact .inr ⟨b, cap, cur, h10, Nat.le_trans hb h11, h12⟩
theorem RowOk.turn {w : World} {base base' : Nat} {O O0 O' O0' : Nat → Prop} {fr fr' : Bool} {v : Value} {e : TypeId} {t : Ty} {l : List t.T} (hb : base' ≤ base)
    (hm : ∀ (v : Value) (x : t.T), RpS w (Av O O0 fr) v (t.enc x) → RpS w (Av O' O0' fr') v (t.enc x)) (h : RowOk w base O O0 v e t fr l) : RowOk w base' O' O0' v e t fr' l := by
  obtain ⟨xs, h1, h2, f, h3, h4⟩ := h
  exact ⟨xs, ownsRow_base hb h1, h2, f, h3, fun i x hx => hm _ _ (h4 i x hx)⟩
theorem St.ret (hst : St c Γ g a w) (hk : Keep w w') (hN : Hp w.heap.size (Av (Oset Γ.own g) c.O0 φ) N gN w') (hok : okN N = true) (hf : ∀ k o, get? (trN d φ N) k = some o → Γ.free k) :
    St c ⟨Γ.tmps, trN d φ N ++ Γ.own⟩ (mg (trN d φ N) (fun k => gN (k - d)) g) a w' := by
  have back : ∀ k o, get? (trN d φ N) k = some o → ∃ o', get? N (k - d) = some o' ∧ o = o'.tr φ ∧ d ≤ k := by
    intro k o h
    rw [trN_get] at h
    split at h
    · obtain ⟨o', h1, h2⟩ := Option.map_eq_some_iff.1 h
      exact ⟨o', h1, h2.symm, by assumption⟩
    · cases h
  refine hst.adopt hk hf (fun k o b h1 h2 => ?_) (fun k k' o o' b h1 h2 h3 h4 => ?_) (fun k o h1 => ?_)
  · obtain ⟨o', h3, _⟩ := back k o h1
    exact ((hN.ok _ _ h3).lt h2).1
  · obtain ⟨o1, h5, _, h6⟩ := back k o h1
    obtain ⟨o2, h7, _, h8⟩ := back k' o' h2
    have := hN.inj _ _ _ _ b h5 h7 h3 h4
    omega
  · obtain ⟨o', h2, rfl, h3⟩ := back k o h1
    have h4 := hN.ok _ _ h2
    have h5 := okN_get hok h2
    cases o' with
    | row e τ fr xs =>
      have hfr : fr = true := h5
      subst hfr
      exact RowOk.turn hst.keep.size (fun _ _ h => ret_mono hst h) h4
    | mat e e' τ fr xs st =>
      have hfr : fr = true := h5
      subst hfr
      obtain ⟨⟨cells, g1, g2, g3⟩, g4, g5, g6⟩ := h4
      exact ⟨⟨cells, ownsRow_base hst.keep.size g1, g2, g3⟩, fun i => RowOk.turn hst.keep.size (fun _ _ h => ret_mono hst h) (g4 i), g5, g6⟩
    | box l => cases h5
    | box1 A => cases h5

theorem Rp1.tr (hst : St c Γ g a w) {v : Value} {A : AV} (hfr : A.fr1 = true) (hN : ∀ k, A = .own k ∨ A = .mown k → ∃ o, get? N k = some o) (h : Rp1 w' (Oset N gN) (Av (Oset Γ.own g) c.O0 φ) gN v A) :
    Rp1 w' (Oset (trN d φ N ++ Γ.own) (mg (trN d φ N) (fun k => gN (k - d)) g)) c.O0 (mg (trN d φ N) (fun k => gN (k - d)) g) v (A.tr1 d φ) := by
  cases A with
  | lit u => exact h
  | st fr A =>
    have : fr = true := hfr
    subst this
    exact ret_mono hst h
  | own k =>
    obtain ⟨o, ho⟩ := hN k (.inl rfl)
    show v = mg (trN d φ N) (fun k => gN (k - d)) g (k + d)
    rw [mg_some (o := o.tr φ) (by rw [trN_get, if_pos (by omega), Nat.add_sub_cancel, ho]; rfl)]
    rw [Nat.add_sub_cancel]
    exact h
  | mown k =>
    obtain ⟨o, ho⟩ := hN k (.inr rfl)
    show v = hd (mg (trN d φ N) (fun k => gN (k - d)) g (k + d))
    rw [mg_some (o := o.tr φ) (by rw [trN_get, if_pos (by omega), Nat.add_sub_cancel, ho]; rfl)]
    rw [Nat.add_sub_cancel]
    exact h
  | _ => trivial

def ownIn (N : List (Nat × Ob)) : AV → Bool
  | .own k => (get? N k).isSome
  | .mown k => (get? N k).isSome
  | _ => true
def ownInL (N : List (Nat × Ob)) : List AV → Bool
  | [] => true
  | A :: r => ownIn N A && ownInL N r
def AV.ownInM (N : List (Nat × Ob)) : AV → Bool
  | .strct l => ownInL N l
  | A => ownIn N A
def ownInML (N : List (Nat × Ob)) : List AV → Bool
  | [] => true
  | A :: r => A.ownInM N && ownInML N r
def AV.ownIn2 (N : List (Nat × Ob)) : AV → Bool
  | .tup l => ownInML N l
  | A => A.ownInM N
theorem ownInML_get : ∀ {l : List AV} {i : Nat} {A : AV}, ownInML N l = true → l[i]? = some A → A.ownInM N = true
  | [], i, A, _, h => by simp at h
  | B :: r, i, A, hl, h => by
    simp only [ownInML, Bool.and_eq_true] at hl
    cases i with
    | zero => simp at h; subst h; exact hl.1
    | succ i => exact ownInML_get (l := r) hl.2 (by simpa using h)
theorem ownInL_get : ∀ {l : List AV} {i : Nat} {A : AV}, ownInL N l = true → l[i]? = some A → ownIn N A = true
  | [], i, A, _, h => by simp at h
  | B :: r, i, A, hl, h => by
    simp only [ownInL, Bool.and_eq_true] at hl
    cases i with
    | zero => simp at h; subst h; exact hl.1
    | succ i => exact ownInL_get (l := r) hl.2 (by simpa using h)
theorem ownIn_get {A : AV} (h : ownIn N A = true) : ∀ k, A = .own k ∨ A = .mown k → ∃ o, get? N k = some o := by
  rintro k (hA | hA)
  all_goals
    subst hA
    exact Option.isSome_iff_exists.1 h

theorem RpM.tr (hst : St c Γ g a w) {v : Value} {A : AV} (hfr : A.frM = true) (hN : A.ownInM N = true) (h : RpM w' (Oset N gN) (Av (Oset Γ.own g) c.O0 φ) gN v A) :
    RpM w' (Oset (trN d φ N ++ Γ.own) (mg (trN d φ N) (fun k => gN (k - d)) g)) c.O0 (mg (trN d φ N) (fun k => gN (k - d)) g) v (A.trM d φ) := by
  cases A with
  | strct l =>
    obtain ⟨f, vs, h1, h2, h3⟩ := h
    refine ⟨f, vs, h1, by rw [trL_len]; exact h2, fun i B hB => ?_⟩
    rw [trL_get] at hB
    obtain ⟨B', hB', rfl⟩ := Option.map_eq_some_iff.1 hB
    exact ⟨(h3 i B' hB').1, (h3 i B' hB').2.tr hst (frL_get hfr hB') (ownIn_get (ownInL_get hN hB'))⟩
  | lit u => exact (Rp1.tr (A := .lit u) hst hfr (ownIn_get hN) h).mid
  | st fr A => exact (Rp1.tr (A := .st fr A) hst hfr (ownIn_get hN) h).mid
  | own k => exact (Rp1.tr (A := .own k) hst hfr (ownIn_get hN) h).mid
  | mown k => exact (Rp1.tr (A := .mown k) hst hfr (ownIn_get hN) h).mid
  | _ => trivial
theorem Rp2.tr (hst : St c Γ g a w) {v : Value} {A : AV} (hfr : A.okR = true) (hN : A.ownIn2 N = true) (h : Rp2 w' (Oset N gN) (Av (Oset Γ.own g) c.O0 φ) gN v A) :
    Rp2 w' (Oset (trN d φ N ++ Γ.own) (mg (trN d φ N) (fun k => gN (k - d)) g)) c.O0 (mg (trN d φ N) (fun k => gN (k - d)) g) v (A.tr d φ) := by
  cases A with
  | tup l =>
    obtain ⟨f, vs, h1, h2, h3⟩ := h
    refine ⟨f, vs, h1, by rw [trML_len]; exact h2, fun i B hB => ?_⟩
    rw [trML_get] at hB
    obtain ⟨B', hB', rfl⟩ := Option.map_eq_some_iff.1 hB
    exact ⟨(h3 i B' hB').1, (h3 i B' hB').2.tr hst (frML_get hfr hB') (ownInML_get hN hB')⟩
  | fn => trivial
  | strct l => exact (RpM.tr (A := .strct l) hst hfr hN h).two
  | lit u => exact (RpM.tr (A := .lit u) hst hfr hN h).two
  | st fr A => exact (RpM.tr (A := .st fr A) hst hfr hN h).two
  | own k => exact (RpM.tr (A := .own k) hst hfr hN h).two
  | mown k => exact (RpM.tr (A := .mown k) hst hfr hN h).two
  | _ => trivial

/-- Under a guard. -/
theorem frz_mono (hst : St c Γ g a w) {v : Value} {A : SV} (h : RpS w' (Av (Oset N gN) (Av (Oset Γ.own g) c.O0 φ) true) v A) : RpS w' (Av (Oset Γ.own g) c.O0 φ) v A :=
  h.mono fun b x e fz hb hn => ⟨hb, fun h' => hn (.inr ⟨rfl, h'⟩)⟩
theorem Rp1.frz (hst : St c Γ g a w) (hN : Hp w.heap.size (Av (Oset Γ.own g) c.O0 φ) N gN w') (hok : okN N = true) {v : Value} {A : AV} (hfr : A.fr1 = true)
    (h : Rp1 w' (Oset N gN) (Av (Oset Γ.own g) c.O0 φ) gN v A) : Rp1 w' (Oset Γ.own g) c.O0 g v (A.frz1 φ N) := by
  cases A with
  | lit u => exact h
  | st fr A =>
    have : fr = true := hfr
    subst this
    exact frz_mono hst h
  | own k =>
    simp only [AV.frz1]
    split
    · rename_i e τ fr xs hk
      have hfr' : fr = true := okN_get hok hk
      subst hfr'
      have hv : v = gN k := h
      have h4 := hN.ok _ _ hk
      obtain ⟨ys, ho, _⟩ := h4
      rcases ho.2 with ⟨h3, h5⟩ | ⟨b, cap, cur, h3, h5, _⟩
      · have : xs = [] := List.eq_nil_of_length_eq_zero h5
        subst this
        rw [hv, h3]
        exact RpS.nil τ
      · obtain ⟨arr, f, h6, h7, h8, h9, h10, h11, h12⟩ := ownRow (hN.ok _ _ hk) h3
        rw [hv, h3]
        refine RpS.arr b 0 cap _ τ xs arr e (0, 0) f h6 (fun h' => ?_) rfl h8 h9 (fun i hi => ⟨(h11 i hi).1, fun j hj => by rw [Nat.zero_add]; exact (h11 i hi).2 j hj⟩) (fun i x hx => frz_mono hst (h12 i x hx))
        rcases h' with h' | ⟨_, h'⟩
        · have := (hst.hp.lt h').2; omega
        · have := hst.o0 b h'; have := hst.keep.size; omega
    · trivial
  | _ => trivial
theorem RpM.frz (hst : St c Γ g a w) (hN : Hp w.heap.size (Av (Oset Γ.own g) c.O0 φ) N gN w') (hok : okN N = true) {v : Value} {A : AV} (hfr : A.frM = true)
    (h : RpM w' (Oset N gN) (Av (Oset Γ.own g) c.O0 φ) gN v A) : RpM w' (Oset Γ.own g) c.O0 g v (A.frzM φ N) := by
  cases A with
  | strct l =>
    obtain ⟨f, vs, h1, h2, h3⟩ := h
    refine ⟨f, vs, h1, by rw [frzL_len]; exact h2, fun i B hB => ?_⟩
    rw [frzL_get] at hB
    obtain ⟨B', hB', rfl⟩ := Option.map_eq_some_iff.1 hB
    exact ⟨(h3 i B' hB').1, (h3 i B' hB').2.frz hst hN hok (frL_get hfr hB')⟩
  | lit u => exact (Rp1.frz (A := .lit u) hst hN hok hfr h).mid
  | st fr A => exact (Rp1.frz (A := .st fr A) hst hN hok hfr h).mid
  | own k => exact (Rp1.frz (A := .own k) hst hN hok hfr h).mid
  | _ => trivial
theorem Rp2.frz (hst : St c Γ g a w) (hN : Hp w.heap.size (Av (Oset Γ.own g) c.O0 φ) N gN w') (hok : okN N = true) {v : Value} {A : AV} (hfr : A.okR = true)
    (h : Rp2 w' (Oset N gN) (Av (Oset Γ.own g) c.O0 φ) gN v A) : Rp2 w' (Oset Γ.own g) c.O0 g v (A.frz φ N) := by
  cases A with
  | tup l =>
    obtain ⟨f, vs, h1, h2, h3⟩ := h
    refine ⟨f, vs, h1, by rw [frzML_len]; exact h2, fun i B hB => ?_⟩
    rw [frzML_get] at hB
    obtain ⟨B', hB', rfl⟩ := Option.map_eq_some_iff.1 hB
    exact ⟨(h3 i B' hB').1, (h3 i B' hB').2.frz hst hN hok (frML_get hfr hB')⟩
  | fn => trivial
  | strct l => exact (RpM.frz (A := .strct l) hst hN hok hfr h).two
  | lit u => exact (RpM.frz (A := .lit u) hst hN hok hfr h).two
  | st fr A => exact (RpM.frz (A := .st fr A) hst hN hok hfr h).two
  | own k => exact (RpM.frz (A := .own k) hst hN hok hfr h).two
  | _ => trivial
end ret

/-- The call of a function. -/
def callVC (P : Program) (own : List (Nat × Ob)) (fz : Bool) (G : Path) (d : Nat) (F : AV) (l : List AV) (K : AV → List (Nat × Ob) → Prop) : Prop := match F with
  | .fn f caps => ∃ (al : Bool) (S : List SV) (φ : Bool) (R : AV) (N : List (Nat × Ob)), viewAll own al (l ++ caps) = some (S, φ) ∧ G.imp (FnAt P al f S R N) ∧ R.okR = true ∧ okN N = true ∧ R.ownIn2 N = true ∧
      match fz, G with
      | false, [] => K (R.tr d φ) (trN d φ N)
      | _, _ => K (R.frz φ N) []
  | _ => False

theorem FnAt.call {P : Program} {c : Cx} {o : Oper} {Γ : Sy} {G : Path} {f : Operand} {xs : Array Operand} {ts : Array TypeId} {F : Nat} {caps l : List AV} {S : List SV} {φ al : Bool} {R : AV} {N : List (Nat × Ob)}
    (ho : o.op = .call { callee := .value f, args := xs, argTypes := ts }) (hf : Ev c Γ G f (.fn F caps)) (hl : l.length = xs.toList.length)
    (hx : ∀ (i : Nat) (x : Operand) (A : AV), xs.toList[i]? = some x → l[i]? = some A → Ev c Γ G x A) (hv : viewAll Γ.own al (l ++ caps) = some (S, φ)) (hG : G.ok) (hfn : FnAt P al F S R N)
    {Γ' : Sy} {g : Nat → Value} {a : Act} {w : World} {next : Act → World → Prop} {Q : Exit → Act → World → Prop}
    (hlk : ∀ x ∈ o.op.operands, look Γ' x = look Γ x) (hown : ∀ k b, get? Γ.own k = some b → get? Γ'.own k = some b) (hst : St c Γ' g a w)
    (hk : ∀ v w' gN, Keep w w' → Rp2 w' (Oset N gN) (Av (Oset Γ'.own g) c.O0 φ) gN v R → Hp w.heap.size (Av (Oset Γ'.own g) c.O0 φ) N gN w' → next (a.put o.dst v) w') : o.wp P a w next Q := by
  obtain ⟨fc, vs, h1, h2, h3⟩ := hf hG Γ' g a w (hlk f (by simp [ho, Op.operands, Call.operands])) hst
  have hev : ∀ (i : Nat) (x : Operand) (A : AV), xs.toList[i]? = some x → l[i]? = some A → Rp2 w (Oset Γ'.own g) c.O0 g (a.eval x) A := fun i x A h4 h5 =>
    hx i x A h4 h5 hG Γ' g a w (hlk x (by
      have := List.mem_of_getElem? h4
      simp [ho, Op.operands, Call.operands]; exact .inr (by simpa using this))) hst
  obtain ⟨⟨fn, hfn1, hfn2, hfn3⟩, hcall⟩ := hfn
  have hargs := viewAll_ok hst hown hv (vals := xs.toList.map a.eval ++ vs.toList) (by simp [hl, h2]) (fun i v A hv' hA => by
    by_cases hi : i < l.length
    · rw [List.getElem?_append_left (by rw [List.length_map, ← hl]; exact hi)] at hv'
      rw [List.getElem?_append_left hi] at hA
      rw [List.getElem?_map] at hv'
      obtain ⟨x, hx1, rfl⟩ := Option.map_eq_some_iff.1 hv'
      exact hev i x A hx1 hA
    · rw [List.getElem?_append_right (by rw [List.length_map, ← hl]; omega)] at hv'
      rw [List.getElem?_append_right (by omega)] at hA
      have h6 := h3 _ A hA
      rw [show i - (xs.toList.map a.eval).length = i - l.length from by simp [hl]] at hv'
      have : vs[i - l.length]? = some v := by simpa using hv'
      rw [h6.1] at this
      cases this
      exact h6.2.two)
  have hc := hcall w (Av (Oset Γ'.own g) c.O0 φ) _ (fun b hb => by
    rcases hb with hb | ⟨_, hb⟩
    · exact (hst.hp.lt hb).2
    · have := hst.o0 b hb; have := hst.keep.size; omega) hargs
  have harr : (xs.toList.map a.eval ++ vs.toList).toArray = xs.map a.eval ++ vs := by
    apply Array.ext'
    simp
  rw [harr] at hc
  unfold Oper.wp
  have hrun : (execOp a.eval o).run P w = .ok (.enter F (xs.map a.eval ++ vs)) w := by
    have h8 : ¬ fn.name = "runtime.NumGoroutine" := by simpa using hfn2
    have h9 : ¬ fn.body = none := fun h => by rw [h] at hfn3; cases hfn3
    simp [execOp, ho, resolve, h1, Deferred.ofValue, invoke, callFunc, hfn1, h8, h9]
  rw [hrun]
  refine hc.mono fun e w' he => ?_
  obtain ⟨r, rfl, hkeep, gN, h4, h5⟩ := he
  exact hk r w' gN hkeep h4 h5

theorem callVC.sound {P : Program} {c : Cx} {o : Oper} {Γ : Sy} {G : Path} {d : Nat} {f : Operand} {xs : Array Operand} {ts : Array TypeId} {F : AV} {l : List AV} {K : AV → List (Nat × Ob) → Prop}
    (ho : o.op = .call { callee := .value f, args := xs, argTypes := ts }) (hf : Ev c Γ G f F) (hl : l.length = xs.toList.length)
    (hx : ∀ (i : Nat) (x : Operand) (A : AV), xs.toList[i]? = some x → l[i]? = some A → Ev c Γ G x A) {fz : Bool} (h : callVC P Γ.own fz G d F l K) :
    ∃ R N, (G.ok → Does P c o Γ R N) ∧ (G ≠ [] ∨ fz = true → N = []) ∧ K R N := by
  unfold callVC at h
  split at h
  · rename_i f' caps
    obtain ⟨al, S, φ, R, N, hv, hfn, hR, hN, hin, hK⟩ := h
    have frz : K (R.frz φ N) [] → ∃ R N, (G.ok → Does P c o Γ R N) ∧ (G ≠ [] ∨ fz = true → N = []) ∧ K R N := by
      intro hK
      refine ⟨R.frz φ N, [], fun hG Γ' g a w next Q hlk hown hfree hst hk => ?_, fun _ => rfl, hK⟩
      refine FnAt.call ho hf hl hx hv hG (Path.imp_ok hfn hG) hlk hown hst fun v w' gN hkeep h1 h2 => ?_
      exact hk g v w' (hst.keepW hkeep) (h1.frz hst h2 hN hR)
    cases fz with
    | true => exact frz hK
    | false =>
      cases G with
      | nil =>
        refine ⟨R.tr d φ, trN d φ N, fun hG Γ' g a w next Q hlk hown hfree hst hk => ?_, fun h => by simp at h, hK⟩
        refine FnAt.call ho hf hl hx hv hG (Path.imp_ok hfn hG) hlk hown hst fun v w' gN hkeep h1 h2 => ?_
        exact hk _ v w' (hst.ret hkeep h2 hN hfree) (h1.tr hst hR hin)
      | cons x G => exact frz hK
  · exact h.elim
end Go.Vc
