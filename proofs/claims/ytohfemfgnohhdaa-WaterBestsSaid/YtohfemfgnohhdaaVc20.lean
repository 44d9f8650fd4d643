/- One state read as another: at a loop's head, at a return. No condition. -/
import Derived.Test.YtohfemfgnohhdaaVc19
namespace Go.Vc
set_option linter.unusedVariables false
set_option linter.unusedSectionVars false
set_option linter.unusedSimpArgs false

/-- The keys of the new reading, each with the old one, or with none for a row that is nil. -/
abbrev Ren := List (Nat × Option Nat)
def notIn (k : Nat) : Ren → Bool
  | [] => true
  | (_, some j) :: r => !(Nat.beq j k) && notIn k r
  | (_, none) :: r => notIn k r
def nodupR : Ren → Bool
  | [] => true
  | (_, some j) :: r => notIn j r && nodupR r
  | (_, none) :: r => nodupR r

/-- Values without a reference. -/
def Ty.flat : Ty → Bool
  | .int _ => true
  | .bool => true
  | .str => true
  | _ => false
theorem flat_mono {w : World} {O O' : Nat → Prop} {v : Value} {t : Ty} {x : t.T} (hf : Ty.flat t = true) (h : RpS w O v (t.enc x)) : RpS w O' v (t.enc x) := by
  cases t with
  | int k => cases h with | lit _ h => exact .lit _ h
  | bool => cases h with | lit _ h => exact .lit _ h
  | str => cases h with | lit _ h => exact .lit _ h
  | _ => cases hf

def match1 (own : List (Nat × Ob)) (ρ : Ren) (A A' : AV) : Prop := match A' with
  | .any => True
  | .lit u => match A with
    | .lit v => v = u
    | _ => False
  | .own k' => match A with
    | .own k => get? ρ k' = some (some k)
    | .lit (.slice none 0 0) => get? ρ k' = some none
    | _ => False
  | .padr k' j' => match A with
    | .padr k j => get? ρ k' = some (some k) ∧ j = j'
    | _ => False
  | .mown k' => match A with
    | .mown k => get? ρ k' = some (some k)
    | _ => False
  | .st fr' S' => match A with
    | .st fr S => (fr' = true → fr = true) ∧ (S = S' ∨ match S, S' with
      | .narr t xs, .arr t' ys => SV.arr t xs = .arr t' ys
      | .arr t xs, .narr t' ys => SV.arr t xs = .arr t' ys ∧ xs ≠ []
      | _, _ => False)
    | .lit (.slice none 0 0) => match S' with
      | .arr _ ys => ys = []
      | .narr _ ys => ys = []
      | _ => False
    | .lit v => S' = .lit v
    | .own k => match get? own k with
      | some (.row _ t fr xs) => notIn k ρ = true ∧ (fr' = true → (fr || Ty.flat t) = true) ∧ match S' with
        | .arr t' ys => SV.arr t xs = .arr t' ys
        | .narr t' ys => SV.arr t xs = .arr t' ys ∧ xs ≠ []
        | _ => False
      | _ => False
    | .mown k => match get? own k with
      | some (.mat _ _ t fr xs none) => notIn k ρ = true ∧ (fr' = true → (fr || Ty.flat t) = true) ∧ match S' with
        | .arr t' ys => SV.arr (.sl t) xs = .arr t' ys
        | _ => False
      | _ => False
    | _ => False
  | _ => False
def matchL (own : List (Nat × Ob)) (ρ : Ren) : List AV → List AV → Prop
  | [], [] => True
  | A :: r, A' :: r' => match1 own ρ A A' ∧ matchL own ρ r r'
  | _, _ => False
def matchM (own : List (Nat × Ob)) (ρ : Ren) (A A' : AV) : Prop := match A' with
  | .strct l' => match A with
    | .strct l => matchL own ρ l l'
    | .st fr (.agg l) => matchL own ρ (upL fr l) l'
    | _ => False
  | A' => match1 own ρ A A'
def matchML (own : List (Nat × Ob)) (ρ : Ren) : List AV → List AV → Prop
  | [], [] => True
  | A :: r, A' :: r' => matchM own ρ A A' ∧ matchML own ρ r r'
  | _, _ => False
def match2 (own : List (Nat × Ob)) (ρ : Ren) (A A' : AV) : Prop := match A' with
  | .tup l' => match A with
    | .tup l => matchML own ρ l l'
    | _ => False
  | .fn f' l' => match A with
    | .fn f l => f = f' ∧ matchL own ρ l l'
    | _ => False
  | A' => matchM own ρ A A'
def matchL2 (own : List (Nat × Ob)) (ρ : Ren) : List AV → List AV → Prop
  | [], [] => True
  | A :: r, A' :: r' => match2 own ρ A A' ∧ matchL2 own ρ r r'
  | _, _ => False
def matchO (own : List (Nat × Ob)) (ρ : Ren) (k' : Nat) (o' : Ob) : Prop := match get? ρ k' with
  | some (some k) => match get? own k, o' with
    | some (.row e t fr xs), .row e' t' fr' ys => e = e' ∧ (fr' = true → (fr || Ty.flat t) = true) ∧ SV.arr t xs = .arr t' ys
    | some (.mat e1 e2 t fr xs st), .mat e1' e2' t' fr' ys st' => e1 = e1' ∧ e2 = e2' ∧ (fr' = true → (fr || Ty.flat t) = true) ∧ SV.arr (.sl t) xs = .arr (.sl t') ys ∧ st = st'
    | some (.box l), .box l' => matchL2 own ρ l l'
    | some (.box1 A), .box1 A' => match2 own ρ A A'
    | _, _ => False
  | some none => match o' with
    | .row _ _ _ ys => ys = []
    | _ => False
  | none => False
def matchOs (own : List (Nat × Ob)) (ρ : Ren) : List (Nat × Ob) → Prop
  | [] => True
  | (k', o') :: r => matchO own ρ k' o' ∧ matchOs own ρ r

theorem matchL_get {own : List (Nat × Ob)} {ρ : Ren} : ∀ {l l' : List AV}, matchL own ρ l l' → l.length = l'.length ∧ ∀ (i : Nat) (A' : AV), l'[i]? = some A' → ∃ A, l[i]? = some A ∧ match1 own ρ A A'
  | [], [], _ => ⟨rfl, fun i A h => by simp at h⟩
  | A :: r, A' :: r', h => by
    obtain ⟨h1, h2⟩ := matchL_get h.2
    refine ⟨by simp [h1], fun i B hB => ?_⟩
    cases i with
    | zero => simp at hB; subst hB; exact ⟨A, rfl, h.1⟩
    | succ i => obtain ⟨C, h3, h4⟩ := h2 i B (by simpa using hB); exact ⟨C, by simpa using h3, h4⟩
  | [], _ :: _, h => h.elim
  | _ :: _, [], h => h.elim
theorem matchML_get {own : List (Nat × Ob)} {ρ : Ren} : ∀ {l l' : List AV}, matchML own ρ l l' → l.length = l'.length ∧ ∀ (i : Nat) (A' : AV), l'[i]? = some A' → ∃ A, l[i]? = some A ∧ matchM own ρ A A'
  | [], [], _ => ⟨rfl, fun i A h => by simp at h⟩
  | A :: r, A' :: r', h => by
    obtain ⟨h1, h2⟩ := matchML_get h.2
    refine ⟨by simp [h1], fun i B hB => ?_⟩
    cases i with
    | zero => simp at hB; subst hB; exact ⟨A, rfl, h.1⟩
    | succ i => obtain ⟨C, h3, h4⟩ := h2 i B (by simpa using hB); exact ⟨C, by simpa using h3, h4⟩
  | [], _ :: _, h => h.elim
  | _ :: _, [], h => h.elim
theorem matchL2_get {own : List (Nat × Ob)} {ρ : Ren} : ∀ {l l' : List AV}, matchL2 own ρ l l' → l.length = l'.length ∧ ∀ (i : Nat) (A' : AV), l'[i]? = some A' → ∃ A, l[i]? = some A ∧ match2 own ρ A A'
  | [], [], _ => ⟨rfl, fun i A h => by simp at h⟩
  | A :: r, A' :: r', h => by
    obtain ⟨h1, h2⟩ := matchL2_get h.2
    refine ⟨by simp [h1], fun i B hB => ?_⟩
    cases i with
    | zero => simp at hB; subst hB; exact ⟨A, rfl, h.1⟩
    | succ i => obtain ⟨C, h3, h4⟩ := h2 i B (by simpa using hB); exact ⟨C, by simpa using h3, h4⟩
  | [], _ :: _, h => h.elim
  | _ :: _, [], h => h.elim
theorem matchOs_get {own : List (Nat × Ob)} {ρ : Ren} : ∀ {l : List (Nat × Ob)} {k : Nat} {o : Ob}, matchOs own ρ l → get? l k = some o → matchO own ρ k o
  | [], k, o, _, h => by cases h
  | (k', o') :: r, k, o, hl, h => by
    simp only [get?] at h
    split at h
    · rename_i hb
      cases h
      rw [← Nat.eq_of_beq_eq_true hb]
      exact hl.1
    · exact matchOs_get hl.2 h

def gR (ρ : Ren) (g : Nat → Value) : Nat → Value := fun k' => match get? ρ k' with
  | some (some k) => g k
  | some none => .slice none 0 0
  | none => g k'

theorem notIn_get {k : Nat} : ∀ {ρ : Ren} {k' j : Nat}, notIn k ρ = true → get? ρ k' = some (some j) → j ≠ k
  | [], k', j, _, h => by cases h
  | (a, some b) :: r, k', j, hl, h => by
    simp only [notIn, Bool.and_eq_true, Bool.not_eq_true'] at hl
    simp only [get?] at h
    split at h
    · cases h; exact Nat.ne_of_beq_eq_false hl.1
    · exact notIn_get hl.2 h
  | (a, none) :: r, k', j, hl, h => by
    simp only [notIn] at hl
    simp only [get?] at h
    split at h
    · cases h
    · exact notIn_get hl h
theorem nodupR_inj : ∀ {ρ : Ren} {k1 k2 j : Nat}, nodupR ρ = true → get? ρ k1 = some (some j) → get? ρ k2 = some (some j) → k1 = k2
  | [], k1, k2, j, _, h, _ => by cases h
  | (a, some b) :: r, k1, k2, j, hl, h1, h2 => by
    simp only [nodupR, Bool.and_eq_true] at hl
    simp only [get?] at h1 h2
    cases e1 : Nat.beq a k1 with
    | true =>
      rw [e1] at h1
      cases h1
      cases e2 : Nat.beq a k2 with
      | true => rw [← Nat.eq_of_beq_eq_true e1, ← Nat.eq_of_beq_eq_true e2]
      | false => rw [e2] at h2; exact absurd rfl (notIn_get hl.1 h2)
    | false =>
      rw [e1] at h1
      cases e2 : Nat.beq a k2 with
      | true => rw [e2] at h2; cases h2; exact absurd rfl (notIn_get hl.1 h1)
      | false => rw [e2] at h2; exact nodupR_inj hl.2 h1 h2
  | (a, none) :: r, k1, k2, j, hl, h1, h2 => by
    simp only [nodupR] at hl
    simp only [get?] at h1 h2
    cases e1 : Nat.beq a k1 with
    | true => rw [e1] at h1; cases h1
    | false =>
      rw [e1] at h1
      cases e2 : Nat.beq a k2 with
      | true => rw [e2] at h2; cases h2
      | false => rw [e2] at h2; exact nodupR_inj hl h1 h2

section sub
variable {base : Nat} {O0 O0' : Nat → Prop} {own own' : List (Nat × Ob)} {g : Nat → Value} {w : World} {ρ : Ren} (hp : Hp base O0 own g w) (hO : ∀ b, O0' b → O0 b) (hlt : ∀ b, O0' b → b < base) (hm : matchOs own ρ own') (hnd : nodupR ρ = true)
include hp hO hlt hm

theorem sub_oset {b : Nat} (h : Oset own' (gR ρ g) b) : ∃ k' k, get? ρ k' = some (some k) ∧ (∃ o, get? own k = some o) ∧ Blk (g k) b := by
  obtain ⟨k', o', h1, h2⟩ := h
  have h3 := matchOs_get hm h1
  unfold matchO at h3
  cases hk : get? ρ k' with
  | none => rw [hk] at h3; exact h3.elim
  | some x =>
    simp only [gR, hk] at h2
    cases x with
    | none => exact (Blk.nil h2).elim
    | some k =>
      refine ⟨k', k, hk, ?_, h2⟩
      rw [hk] at h3
      dsimp only at h3
      cases ho : get? own k with
      | none => rw [ho] at h3; exact h3.elim
      | some o => exact ⟨o, rfl⟩
theorem sub_av {fr fr' : Bool} (hfr : fr' = true → fr = true) {v : Value} {A : SV} (h : RpS w (Av (Oset own g) O0 fr) v A) : RpS w (Av (Oset own' (gR ρ g)) O0' fr') v A :=
  h.mono fun b x e fz hb hn => ⟨hb, fun h' => hn (by
    rcases h' with h' | ⟨h', h''⟩
    · obtain ⟨k', k, _, ⟨o, ho⟩, h3⟩ := sub_oset hp hO hlt hm h'
      exact .inl ⟨k, o, ho, h3⟩
    · exact .inr ⟨hfr h', hO b h''⟩)⟩

theorem sub_el {fr fr' : Bool} {t : Ty} {x : t.T} (hfr : fr' = true → (fr || Ty.flat t) = true) {v : Value} (h : RpS w (Av (Oset own g) O0 fr) v (t.enc x)) : RpS w (Av (Oset own' (gR ρ g)) O0' fr') v (t.enc x) := by
  cases hf : Ty.flat t with
  | true => exact flat_mono hf h
  | false => exact sub_av hp hO hlt hm (fun h' => by have := hfr h'; rw [hf, Bool.or_false] at this; exact this) h

theorem RpS.to_narr {w : World} {O : Nat → Prop} {v : Value} {t t' : Ty} {xs : List t.T} {ys : List t'.T} (h : RpS w O v (.arr t xs)) (e : SV.arr t xs = .arr t' ys) (hne : xs ≠ []) : RpS w O v (.narr t' ys) := by
  cases e
  exact .narr _ _ v h (fun h => absurd h hne)

/-- A row of the call's own, read as stable. -/
theorem rowok_stable {k : Nat} {o : Ob} {v : Value} {e : TypeId} {t : Ty} {fr fr' : Bool} {xs : List t.T} (hk : get? own k = some o) (hB : ∀ b, blk v = some b → Blk (g k) b) (hr : RowOk w base (Oset own g) O0 v e t fr xs)
    (hni : notIn k ρ = true) (hfr : fr' = true → (fr || Ty.flat t) = true) : RpS w (Av (Oset own' (gR ρ g)) O0' fr') v (.arr t xs) := by
  have hr' : OwnOk w base (Oset own g) O0 g v (.row e t fr xs) := hr
  obtain ⟨ys, ho, _⟩ := hr
  rcases ho.2 with ⟨h3, h4⟩ | ⟨b, cap, cur, h3, _⟩
  · have : xs = [] := List.eq_nil_of_length_eq_zero h4
    subst this
    rw [h3]
    exact .nil t
  · obtain ⟨arr, f, h6, h7, h8, h9, h10, h11, h12⟩ := ownRow hr' h3
    have hblk : Blk (g k) b := hB b (by rw [h3]; rfl)
    have hbase := ((hp.ok k _ hk).lt hblk).1
    rw [h3]
    refine .arr b 0 cap _ t xs arr e (0, 0) f h6 (fun h' => ?_) rfl h8 h9 (fun i hi => ⟨(h11 i hi).1, fun j hj => by rw [Nat.zero_add]; exact (h11 i hi).2 j hj⟩) (fun i x hx => sub_el hp hO hlt hm hfr (h12 i x hx))
    rcases h' with h' | ⟨_, h'⟩
    · obtain ⟨k', j, h13, ⟨o, ho'⟩, h14⟩ := sub_oset hp hO hlt hm h'
      exact notIn_get hni h13 (hp.inj j k _ _ b ho' hk h14 hblk)
    · have := hlt b h'; omega

theorem row_stable {k : Nat} {e : TypeId} {t : Ty} {fr fr' : Bool} {xs : List t.T} (hk : get? own k = some (.row e t fr xs)) (hni : notIn k ρ = true) (hfr : fr' = true → (fr || Ty.flat t) = true) : RpS w (Av (Oset own' (gR ρ g)) O0' fr') (g k) (.arr t xs) :=
  rowok_stable hp hO hlt hm hk (fun b hb => .of hb) (hp.ok k _ hk) hni hfr
theorem mat_stable {k : Nat} {e e' : TypeId} {t : Ty} {fr fr' : Bool} {xs : List (List t.T)} (hk : get? own k = some (.mat e e' t fr xs none)) (hni : notIn k ρ = true) (hfr : fr' = true → (fr || Ty.flat t) = true) : RpS w (Av (Oset own' (gR ρ g)) O0' fr') (hd (g k)) (.arr (.sl t) xs) := by
  obtain ⟨⟨cells, h1, h2, h3⟩, h4, h5, h6⟩ := hp.ok k _ hk
  have inn : ∀ i, RpS w (Av (Oset own' (gR ρ g)) O0' fr') (sub (g k) i) (.arr t (xs.getD i [])) := fun i => rowok_stable hp hO hlt hm hk (fun b hb => .inr ⟨i, hb⟩) (h4 i) hni hfr
  rcases h1.2 with ⟨h7, h8⟩ | ⟨b, cap, cur, h7, h8, h9, h10, h11, h12, h13⟩
  · have : xs = [] := List.eq_nil_of_length_eq_zero h8
    subst this
    rw [h7]
    exact .nil _
  · have hblk : Blk (g k) b := .inl (by rw [h7]; rfl)
    have hbase := ((hp.ok k _ hk).lt hblk).1
    rw [h7]
    refine .arr b 0 cap _ (.sl t) xs cur e (0, 0) (sub (g k)) h9 (fun h' => ?_) rfl h10 h11 (fun i hi => ?_) (fun i x hx => ?_)
    · rcases h' with h' | ⟨_, h'⟩
      · obtain ⟨k', j, h13, ⟨o, ho'⟩, h14⟩ := sub_oset hp hO hlt hm h'
        exact notIn_get hni h13 (hp.inj j k _ _ b ho' hk h14 hblk)
      · have := hlt b h'; omega
    · have hc := (inn i).cells1 rfl
      refine ⟨by rw [hc]; rfl, fun j hj => ?_⟩
      have hj0 : j = 0 := by have : j < 1 := hj; omega
      subst hj0
      rw [hc]
      have h14 := h3 i hi (by simp)
      show cur[0 + (i * 1 + 0)]? = some (sub (g k) i)
      rw [Nat.zero_add, Nat.mul_one, Nat.add_zero]
      rw [← h14, ← h13, List.getElem?_take, if_pos (by omega)]
      simp
    · have hx' : @getElem? (List (List t.T)) Nat (List t.T) _ _ xs i = some x := hx
      have : xs.getD i [] = x := by rw [List.getD_eq_getElem?_getD, hx']; rfl
      rw [← this]
      exact inn i

theorem match1_ok {v : Value} {A A' : AV} (h : match1 own ρ A A') (hr : Rp1 w (Oset own g) O0 g v A) : Rp1 w (Oset own' (gR ρ g)) O0' (gR ρ g) v A' := by
  unfold match1 at h
  split at h
  · trivial
  · split at h
    · subst h; exact hr
    · exact h.elim
  · split at h
    · show v = gR ρ g _
      simp only [gR, h]
      exact hr
    · show v = gR ρ g _
      simp only [gR, h]
      exact hr.1
    · exact h.elim
  · split at h
    · obtain ⟨h1, rfl⟩ := h
      obtain ⟨b, h2, h3⟩ := hr
      exact ⟨b, by simp only [gR, h1]; exact h2, h3⟩
    · exact h.elim
  · split at h
    · show v = hd (gR ρ g _)
      simp only [gR, h]
      exact hr
    · exact h.elim
  · split at h
    · rename_i fr S
      obtain ⟨h1, h2⟩ := h
      have h3 : RpS w (Av (Oset own' (gR ρ g)) O0' _) v S := sub_av hp hO hlt hm h1 hr
      rcases h2 with rfl | h2
      · exact h3
      · split at h2
        · show RpS _ _ _ _
          cases h2
          cases h3 with | narr _ _ _ h4 _ => exact h4
        · exact RpS.to_narr hp hO hlt hm h3 h2.1 h2.2
        · exact h2.elim
    · show RpS _ _ _ _
      have hv : v = .slice none 0 0 := hr.1
      rw [hv]
      split at h
      · subst h; exact .nil _
      · subst h; exact .narr _ _ _ (.nil _) (fun _ => rfl)
      · exact h.elim
    · subst h
      show RpS _ _ _ _
      rw [hr.1]
      exact .lit _ hr.2
    · rename_i k
      split at h
      · rename_i e t fr xs hk
        obtain ⟨h1, h2, h3⟩ := h
        have hv : v = g k := hr
        have h4 := row_stable hp hO hlt hm hk h1 h2
        show RpS _ _ _ _
        rw [hv]
        split at h3
        · cases h3; exact h4
        · exact RpS.to_narr hp hO hlt hm h4 h3.1 h3.2
        · exact h3.elim
      · exact h.elim
    · rename_i k
      split at h
      · rename_i e e' t fr xs hk
        obtain ⟨h1, h2, h3⟩ := h
        have hv : v = hd (g k) := hr
        have h4 := mat_stable hp hO hlt hm hk h1 h2
        show RpS _ _ _ _
        rw [hv]
        split at h3
        · cases h3; exact h4
        · exact h3.elim
      · exact h.elim
    · exact h.elim
  · exact h.elim

theorem matchM_ok {v : Value} {A A' : AV} (h : matchM own ρ A A') (hr : RpM w (Oset own g) O0 g v A) : RpM w (Oset own' (gR ρ g)) O0' (gR ρ g) v A' := by
  unfold matchM at h
  split at h
  · split at h
    · obtain ⟨f, vs, h1, h2, h3⟩ := hr
      obtain ⟨h4, h5⟩ := matchL_get h
      refine ⟨f, vs, h1, by rw [h2, h4], fun i B hB => ?_⟩
      obtain ⟨C, h6, h7⟩ := h5 i B hB
      exact ⟨(h3 i C h6).1, match1_ok hp hO hlt hm h7 (h3 i C h6).2⟩
    · rename_i fr l
      have hr' : RpS w (Av (Oset own g) O0 fr) v (.agg l) := hr
      obtain ⟨cs, h1, h2, h3⟩ := hr'.aggc
      obtain ⟨h4, h5⟩ := matchL_get h
      rw [upL_len] at h4
      refine ⟨fun i => cs.getD i undef, cs, h1, by rw [h2, h4], fun i B hB => ?_⟩
      obtain ⟨C, h6, h7⟩ := h5 i B hB
      rw [upL_get] at h6
      obtain ⟨D, hD, rfl⟩ := Option.map_eq_some_iff.1 h6
      obtain ⟨x, h8, h9, h10⟩ := h3 i D hD
      have : cs.getD i undef = x := by simp [Array.getD_eq_getD_getElem?, h8]
      dsimp only
      rw [this]
      exact ⟨⟨h8, h9⟩, match1_ok hp hO hlt hm h7 (up_one h10)⟩
    · exact h.elim
  · have hr1 : Rp1 w (Oset own g) O0 g v A ∨ A' = .any := by
      cases A <;> first | exact .inl hr | (cases A' <;> first | exact .inr rfl | exact h.elim)
    rcases hr1 with hr1 | rfl
    · exact (match1_ok hp hO hlt hm h hr1).mid
    · trivial
theorem match2_ok {v : Value} {A A' : AV} (h : match2 own ρ A A') (hr : Rp2 w (Oset own g) O0 g v A) : Rp2 w (Oset own' (gR ρ g)) O0' (gR ρ g) v A' := by
  unfold match2 at h
  split at h
  · split at h
    · obtain ⟨f, vs, h1, h2, h3⟩ := hr
      obtain ⟨h4, h5⟩ := matchML_get h
      refine ⟨f, vs, h1, by rw [h2, h4], fun i B hB => ?_⟩
      obtain ⟨C, h6, h7⟩ := h5 i B hB
      exact ⟨(h3 i C h6).1, matchM_ok hp hO hlt hm h7 (h3 i C h6).2⟩
    · exact h.elim
  · split at h
    · obtain ⟨rfl, h⟩ := h
      obtain ⟨f, vs, h1, h2, h3⟩ := hr
      obtain ⟨h4, h5⟩ := matchL_get h
      refine ⟨f, vs, h1, by rw [h2, h4], fun i B hB => ?_⟩
      obtain ⟨C, h6, h7⟩ := h5 i B hB
      exact ⟨(h3 i C h6).1, match1_ok hp hO hlt hm h7 (h3 i C h6).2⟩
    · exact h.elim
  · have hr1 : RpM w (Oset own g) O0 g v A ∨ A' = .any := by
      cases A <;> first | exact .inl hr | (cases A' <;> first | exact .inr rfl | exact h.elim)
    rcases hr1 with hr1 | rfl
    · exact (matchM_ok hp hO hlt hm h hr1).two
    · trivial

include hnd
theorem sub_hp {base' : Nat} (hb : base' ≤ base) : Hp base' O0' own' (gR ρ g) w := by
  refine ⟨fun k' o' hk' => ?_, fun k1 k2 o1 o2 b h1 h2 h3 h4 => ?_⟩
  · have h := matchOs_get hm hk'
    unfold matchO at h
    cases hρ : get? ρ k' with
    | none => rw [hρ] at h; exact h.elim
    | some x =>
      rw [hρ] at h
      have hg : gR ρ g k' = match x with | some k => g k | none => .slice none 0 0 := by simp only [gR, hρ]; cases x <;> rfl
      cases x with
      | none =>
        dsimp only at h hg
        rw [hg]
        split at h
        · subst h
          exact ⟨[], World.ownsRow_nil _ _ _ _, by simp, fun _ => undef, fun i hi => by simp at hi, fun i x hx => by simp at hx⟩
        · exact h.elim
      | some k =>
        dsimp only at h hg
        rw [hg]
        split at h
        · rename_i e t fr xs e' t' fr' ys hk
          obtain ⟨rfl, h1, h2⟩ := h
          cases h2
          obtain ⟨zs, h3, h4, f, h5, h6⟩ := hp.ok k _ hk
          refine ⟨zs, ⟨h3.1, ?_⟩, h4, f, h5, fun i x hx => sub_el hp hO hlt hm h1 (h6 i x hx)⟩
          rcases h3.2 with h7 | ⟨b, cap, cur, h7, h8, h9⟩
          · exact .inl h7
          · exact .inr ⟨b, cap, cur, h7, Nat.le_trans hb h8, h9⟩
        · rename_i e1 e2 t fr xs st e1' e2' t' fr' ys st' hk
          obtain ⟨rfl, rfl, h1, h2, rfl⟩ := h
          cases h2
          obtain ⟨⟨cells, g1, g2, g3⟩, g4, g5, g6⟩ := hp.ok k _ hk
          exact ⟨⟨cells, ownsRow_base hb g1, g2, g3⟩, fun i => RowOk.turn hb (fun _ _ h => sub_el hp hO hlt hm h1 h) (g4 i), g5, g6⟩
        · rename_i l l' hk
          obtain ⟨b, arr, e, h3, h4, h5, h6, h7⟩ := hp.ok k _ hk
          obtain ⟨h8, h9⟩ := matchL2_get h
          refine ⟨b, arr, e, h3, Nat.le_trans hb h4, h5, by rw [h6, h8], fun i B hB => ?_⟩
          obtain ⟨C, h10, h11⟩ := h9 i B hB
          obtain ⟨x, h12, h13, h14⟩ := h7 i C h10
          exact ⟨x, h12, h13, match2_ok hp hO hlt hm h11 h14⟩
        · rename_i A A' hk
          obtain ⟨b, x, e, h3, h4, h5, h6, h7⟩ := hp.ok k _ hk
          exact ⟨b, x, e, h3, Nat.le_trans hb h4, h5, h6, match2_ok hp hO hlt hm h h7⟩
        · exact h.elim
  · have f1 := matchOs_get hm h1
    have f2 := matchOs_get hm h2
    unfold matchO at f1 f2
    cases r1 : get? ρ k1 with
    | none => rw [r1] at f1; exact f1.elim
    | some x1 =>
      cases r2 : get? ρ k2 with
      | none => rw [r2] at f2; exact f2.elim
      | some x2 =>
        simp only [gR, r1] at h3
        simp only [gR, r2] at h4
        cases x1 with
        | none => exact (Blk.nil h3).elim
        | some j1 =>
          cases x2 with
          | none => exact (Blk.nil h4).elim
          | some j2 =>
            rw [r1] at f1
            rw [r2] at f2
            dsimp only at f1 f2 h3 h4
            cases ho1 : get? own j1 with
            | none => rw [ho1] at f1; exact f1.elim
            | some q1 =>
              cases ho2 : get? own j2 with
              | none => rw [ho2] at f2; exact f2.elim
              | some q2 =>
                have : j1 = j2 := hp.inj j1 j2 q1 q2 b ho1 ho2 h3 h4
                subst this
                exact nodupR_inj hnd r1 r2
end sub

/-- The renaming, from the temporaries and the boxed variables of the new reading. -/
def mkRen1 : AV → AV → Ren → Ren
  | .own k, .own k', ρ => (k', some k) :: ρ
  | .lit _, .own k', ρ => (k', none) :: ρ
  | .mown k, .mown k', ρ => (k', some k) :: ρ
  | .padr k _, .padr k' _, ρ => (k', some k) :: ρ
  | _, _, ρ => ρ
def mkRenL : List AV → List AV → Ren → Ren
  | A :: r, A' :: r', ρ => mkRen1 A A' (mkRenL r r' ρ)
  | _, _, ρ => ρ
def mkRenM : AV → AV → Ren → Ren
  | .strct l, .strct l', ρ => mkRenL l l' ρ
  | A, A', ρ => mkRen1 A A' ρ
def mkRenML : List AV → List AV → Ren → Ren
  | A :: r, A' :: r', ρ => mkRenM A A' (mkRenML r r' ρ)
  | _, _, ρ => ρ
def mkRen2 : AV → AV → Ren → Ren
  | .tup l, .tup l', ρ => mkRenML l l' ρ
  | .fn _ l, .fn _ l', ρ => mkRenL l l' ρ
  | A, A', ρ => mkRenM A A' ρ
def dedupR : Ren → Ren
  | [] => []
  | (k, x) :: r => (k, x) :: dropK k (dedupR r)
where
  dropK (k : Nat) : Ren → Ren
    | [] => []
    | (j, x) :: r => match Nat.beq j k with
      | true => dropK k r
      | false => (j, x) :: dropK k r
def mkRenT (Γ : Sy) : List (Nat × AV) → Ren
  | [] => []
  | (t, A') :: r => match get? Γ.tmps t with
    | some A => mkRen2 A A' (mkRenT Γ r)
    | none => mkRenT Γ r
def mkRen (Γ Γ' : Sy) : Ren := dedupR (mkRenT Γ Γ'.tmps)

def subT (Γ : Sy) (ρ : Ren) : List (Nat × AV) → Prop
  | [] => True
  | (t, A') :: r => (match get? Γ.tmps t with
    | some (.gd _ _) => False
    | some A => match2 Γ.own ρ A A'
    | none => False) ∧ subT Γ ρ r
theorem subT_get {Γ : Sy} {ρ : Ren} : ∀ {l : List (Nat × AV)} {t : Nat} {A' : AV}, subT Γ ρ l → get? l t = some A' → ∃ A, get? Γ.tmps t = some A ∧ (∀ p B, A ≠ .gd p B) ∧ match2 Γ.own ρ A A'
  | [], t, A', _, h => by cases h
  | (t', B) :: r, t, A', hl, h => by
    simp only [get?] at h
    split at h
    · rename_i hb
      cases h
      have := Nat.eq_of_beq_eq_true hb
      subst this
      have h1 := hl.1
      split at h1
      · exact h1.elim
      · rename_i A hne hA
        exact ⟨A, hA, fun p B e => hne p B e, h1⟩
      · exact h1.elim
    · exact subT_get hl.2 h

/-- The state Γ can be read as Γ'. -/
def Sub (Γ Γ' : Sy) (ρ : Ren) : Prop := nodupR ρ = true ∧ subT Γ ρ Γ'.tmps ∧ matchOs Γ.own ρ Γ'.own
theorem Sub.st {Γ Γ' : Sy} {ρ : Ren} (h : Sub Γ Γ' ρ) {c : Cx} {g : Nat → Value} {a : Act} {w : World} (hst : St c Γ g a w) : St c Γ' (gR ρ g) a w := by
  obtain ⟨h1, h2, h3⟩ := h
  refine ⟨hst.defers, hst.size, hst.keep, hst.o0, fun t A' hA' => ?_, fun b x hb => ⟨(hst.kept b x hb).1, fun h' => (hst.kept b x hb).2 (by
    obtain ⟨k', k, _, ⟨o, ho⟩, h4⟩ := sub_oset hst.hp (fun _ h => h) hst.o0 h3 h'
    exact ⟨k, o, ho, h4⟩)⟩, sub_hp hst.hp (fun _ h => h) hst.o0 h3 h1 (Nat.le_refl _)⟩
  obtain ⟨A, h4, h5, h6⟩ := subT_get h2 hA'
  have h7 := hst.tmps t A h4
  have h8 : Rp2 w (Oset Γ.own g) c.O0 g (a.tmps.getD t undef) A := by
    cases A <;> first | exact h7 | exact absurd rfl (h5 _ _)
  exact Rp.of2 (match2_ok hst.hp (fun _ h => h) hst.o0 h3 h6 h8)
end Go.Vc
