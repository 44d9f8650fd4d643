/- Contracts, and calls by contract, for the symbolic machine of Vc1. No condition. -/
import Derived.Test.YtohfemfgnohhdaaVc5
namespace Go.Vc
set_option linter.unusedVariables false
set_option linter.unusedSimpArgs false
set_option linter.unusedSectionVars false

def ArgsOk (w : World) (O : Nat → Prop) (vals : List Value) (args : List SV) : Prop :=
  vals.length = args.length ∧ ∀ (i : Nat) (v : Value) (A : SV), vals[i]? = some v → args[i]? = some A → RpS w O v A

/-- What a call leaves: the result r reads as R; N is what it made that nothing else knows. -/
def RetOk (w w' : World) (O : Nat → Prop) (r : Value) (R : AV) (N : List (Nat × Ob)) : Prop :=
  ∃ g, Rp2 w' (Oset N g) O g r R ∧ Hp w.heap.size O N g w'

/-- A contract: at these arguments the function returns this. 'al': the result may share memory with the arguments. -/
def FnAt (P : Program) (al : Bool) (f : FuncId) (args : List SV) (R : AV) (N : List (Nat × Ob)) : Prop :=
  (∃ fn, P.funcs[f]? = some fn ∧ (fn.name == "runtime.NumGoroutine") = false ∧ fn.body.isNone = false) ∧
  ∀ (w : World) (O : Nat → Prop) (vals : List Value), (∀ b, O b → b < w.heap.size) → ArgsOk w (fun b => al = true ∧ O b) vals args →
    Calls P f vals.toArray w fun e w' => ∃ r, e = .returned r ∧ Keep w w' ∧ RetOk w w' O r R N

/-- A value that is handed to a call, read as a stable one. -/
def v1 (own : List (Nat × Ob)) : AV → Option SV
  | .lit v => some (.lit v)
  | .st _ A => some A
  | .mown k => match get? own k with
    | some (.mat _ _ τ _ xs none) => some (.arr (.sl τ) xs)
    | _ => none
  | .inn k i => match get? own k with
    | some (.mat _ _ τ _ xs _) => some (.arr τ (xs.getD i []))
    | _ => none
  | .own k => match get? own k with
    | some (.row _ τ _ xs) => some (.arr τ xs)
    | _ => none
  | _ => none
def vL1 (own : List (Nat × Ob)) : List AV → Option (List SV)
  | [] => some []
  | A :: r => match v1 own A with
    | some B => match vL1 own r with
      | some l => some (B :: l)
      | none => none
    | none => none
def notAgg : SV → Bool
  | .agg _ => false
  | _ => true
def v2 (own : List (Nat × Ob)) : AV → Option SV
  | .padr k j => match j with
    | 0 => match get? own k with
      | some (.box l) => match vL1 own l with
        | some m => some (.sadr (.agg m))
        | none => none
      | some (.box1 A) => match v1 own A with
        | some B => match notAgg B with
          | true => some (.sadr B)
          | false => none
        | none => none
      | _ => none
    | _ => none
  | A => v1 own A
def vL2 (own : List (Nat × Ob)) : List AV → Option (List SV)
  | [] => some []
  | A :: r => match v2 own A with
    | some B => match vL2 own r with
      | some l => some (B :: l)
      | none => none
    | none => none
def v3 (own : List (Nat × Ob)) : AV → Option SV
  | .fn f l => match vL2 own l with
    | some m => some (.fn f m)
    | none => none
  | .strct l => match vL1 own l with
    | some m => some (.agg m)
    | none => none
  | A => v2 own A
def vL3 (own : List (Nat × Ob)) : List AV → Option (List SV)
  | [] => some []
  | A :: r => match v3 own A with
    | some B => match vL3 own r with
      | some l => some (B :: l)
      | none => none
    | none => none

theorem RowOk.view {w : World} {base : Nat} {O O0 O' : Nat → Prop} {v : Value} {e : TypeId} {t : Ty} {fr : Bool} {xs : List t.T} (hm : ∀ v A, RpS w (Av O O0 fr) v A → RpS w O' v A) (hO : ∀ b, blk v = some b → ¬ O' b)
    (h : RowOk w base O O0 v e t fr xs) : RpS w O' v (.arr t xs) := by
  have h' : OwnOk w base O O0 (fun _ => undef) v (.row e t fr xs) := h
  obtain ⟨ys, ho, _⟩ := h
  rcases ho.2 with ⟨h3, h4⟩ | ⟨b, cap, cur, h3, _⟩
  · have : xs = [] := List.eq_nil_of_length_eq_zero h4
    subst this
    rw [h3]
    exact .nil t
  · obtain ⟨arr, f, h6, h7, h8, h9, h10, h11, h12⟩ := ownRow h' h3
    have hb := hO b (by rw [h3]; rfl)
    rw [h3]
    exact .arr b 0 cap _ t xs arr e (0, 0) f h6 hb rfl h8 h9 (fun i hi => ⟨(h11 i hi).1, fun j hj => by rw [Nat.zero_add]; exact (h11 i hi).2 j hj⟩) (fun i x hx => hm _ _ (h12 i x hx))
theorem MatOk.view {w : World} {base : Nat} {O O0 O' : Nat → Prop} {g : Nat → Value} {v : Value} {e e' : TypeId} {t : Ty} {fr : Bool} {xs : List (List t.T)} (hm : ∀ v A, RpS w (Av O O0 fr) v A → RpS w O' v A) (hO : ∀ b, Blk v b → ¬ O' b)
    (h : OwnOk w base O O0 g v (.mat e e' t fr xs none)) : RpS w O' (hd v) (.arr (.sl t) xs) := by
  obtain ⟨⟨cells, h1, h2, h3⟩, h4, h5, h6⟩ := h
  have inn : ∀ i, RpS w O' (sub v i) (.arr t (xs.getD i [])) := fun i => (h4 i).view hm (fun b hb => hO b (.inr ⟨i, hb⟩))
  rcases h1.2 with ⟨h7, h8⟩ | ⟨b, cap, cur, h7, h8, h9, h10, h11, h12, h13⟩
  · have : xs = [] := List.eq_nil_of_length_eq_zero h8
    subst this
    rw [h7]
    exact .nil _
  · have hblk : Blk v b := .inl (by rw [h7]; rfl)
    have hb := hO b hblk
    rw [h7]
    refine .arr b 0 cap _ (.sl t) xs cur e (0, 0) (sub v) h9 hb rfl h10 h11 (fun i hi => ?_) (fun i x hx => ?_)
    · have hc := (inn i).cells1 rfl
      refine ⟨by rw [hc]; rfl, fun j hj => ?_⟩
      have hj0 : j = 0 := by have : j < 1 := hj; omega
      subst hj0
      rw [hc]
      have h14 := h3 i hi (by simp)
      show cur[0 + (i * 1 + 0)]? = some (sub v i)
      rw [Nat.zero_add, Nat.mul_one, Nat.add_zero]
      rw [← h14, ← h13, List.getElem?_take, if_pos (by omega)]
      simp
    · have hx' : @getElem? (List (List t.T)) Nat (List t.T) _ _ xs i = some x := hx
      have : xs.getD i [] = x := by rw [List.getD_eq_getElem?_getD, hx']; rfl
      rw [← this]
      exact inn i
section view
variable {base : Nat} {O0 : Nat → Prop} {own : List (Nat × Ob)} {g : Nat → Value} {w : World} (hp : Hp base O0 own g w)
include hp
theorem v1_ok {v : Value} {A : AV} {B : SV} (h : v1 own A = some B) (hr : Rp1 w (Oset own g) O0 g v A) : RpS w (fun _ => False) v B := by
  cases A with
  | lit u => cases h; rw [hr.1]; exact .lit u hr.2
  | st fr A => cases h; exact RpS.mono (fun b c e fz hb _ => ⟨hb, id⟩) hr
  | own k =>
    simp only [v1] at h
    split at h
    · rename_i e τ fr xs hk
      cases h
      have h1 := hp.ok k _ hk
      have hv : v = g k := hr
      obtain ⟨ys, ho, h2, hc⟩ := h1
      rcases ho.2 with ⟨h3, h4⟩ | ⟨b, cap, cur, h3, _⟩
      · rw [hv, h3]
        have : xs = [] := List.eq_nil_of_length_eq_zero h4
        subst this
        exact .nil τ
      · obtain ⟨arr, f, h6, h7, h8, h9, h10, h11, h12⟩ := ownRow (hp.ok k _ hk) h3
        rw [hv, h3]
        exact .arr b 0 cap _ τ xs arr e (0, 0) f h6 id rfl h8 h9 (fun i hi => ⟨(h11 i hi).1, fun j hj => by rw [Nat.zero_add]; exact (h11 i hi).2 j hj⟩)
          (fun i x hx => RpS.mono (fun b c e fz hb _ => ⟨hb, id⟩) (h12 i x hx))
    · cases h
  | mown k =>
    simp only [v1] at h
    split at h
    · rename_i e e' τ fr xs hk
      cases h
      have hv : v = hd (g k) := hr
      rw [hv]
      exact MatOk.view (fun _ _ h => RpS.mono (fun b c e fz hb _ => ⟨hb, id⟩) h) (fun _ _ => id) (hp.ok k _ hk)
    · cases h
  | inn k i =>
    simp only [v1] at h
    split at h
    · rename_i e e' τ fr xs st hk
      cases h
      have hv : v = sub (g k) i := hr
      rw [hv]
      exact RowOk.view (fun _ _ h => RpS.mono (fun b c e fz hb _ => ⟨hb, id⟩) h) (fun _ _ => id) ((hp.ok k _ hk).2.1 i)
    · cases h
  | _ => cases h
theorem vL1_ok : ∀ {l : List AV} {m : List SV}, vL1 own l = some m → m.length = l.length ∧ ∀ (i : Nat) (A : AV) (B : SV), l[i]? = some A → m[i]? = some B → v1 own A = some B
  | [], m, h => by cases h; exact ⟨rfl, fun i A B hA => by simp at hA⟩
  | A :: r, m, h => by
    simp only [vL1] at h
    split at h
    · rename_i B hB
      split at h
      · rename_i l hl
        cases h
        obtain ⟨h1, h2⟩ := vL1_ok hl
        refine ⟨by simp [h1], fun i A' B' hA hB' => ?_⟩
        cases i with
        | zero => simp at hA hB'; subst hA; subst hB'; exact hB
        | succ i => exact h2 i A' B' (by simpa using hA) (by simpa using hB')
      · cases h
    · cases h
theorem v2_ok {v : Value} {A : AV} {B : SV} (h : v2 own A = some B) (hr : Rp1 w (Oset own g) O0 g v A) : RpS w (fun _ => False) v B := by
  unfold v2 at h
  split at h
  · rename_i k j
    split at h
    · split at h
      · rename_i l hk
        split at h
        · rename_i m hm
          cases h
          obtain ⟨b, h1, h2⟩ := hr
          obtain ⟨b', arr, e, h3, h4, h5, h6, h7⟩ := hp.ok k _ hk
          rw [h1] at h3
          cases h3
          rw [h2]
          obtain ⟨h8, h9⟩ := vL1_ok hp hm
          refine .sadr b 0 _ (.agg arr) arr e (0, 0) h5 id (fun j _ => by simp [Value.cells]) (.agg arr m (fun i => arr.getD i undef) (by rw [h6, h8]) (fun i hi => ?_) (fun i B hB => ?_))
          · obtain ⟨y, h11, h12, h13⟩ := h7 i l[i] (by rw [List.getElem?_eq_getElem])
            simp [Array.getD_eq_getD_getElem?, h11, h12]
          · have hi : i < l.length := by rw [← h8]; exact (List.getElem?_eq_some_iff.1 hB).1
            obtain ⟨y, h11, h12, h13⟩ := h7 i l[i] (by rw [List.getElem?_eq_getElem])
            have h14 := h9 i l[i] B (by rw [List.getElem?_eq_getElem]) hB
            have : arr.getD i undef = y := by simp [Array.getD_eq_getD_getElem?, h11]
            rw [this]
            refine v1_ok hp h14 ?_
            cases hl : l[i] <;> rw [hl] at h13 h14 <;> first | exact h13 | cases h14
        · cases h
      · rename_i A hk
        split at h
        · rename_i B' hB
          split at h
          · rename_i hna
            cases h
            obtain ⟨b, h1, h2⟩ := hr
            obtain ⟨b', y, e, h3, h4, h5, h6, h7⟩ := hp.ok k _ hk
            rw [h1] at h3
            cases h3
            rw [h2]
            have h8 : RpS w (fun _ => False) y B' := v1_ok hp hB (by cases A <;> first | exact h7 | cases hB)
            have h9 := h8.cells1 (by cases B' <;> first | rfl | cases hna)
            exact .sadr b 0 _ y #[y] e (0, 0) h5 id (fun j hj => by rw [h9]; simp) h8
          · cases h
        · cases h
      · cases h
    · cases h
  · exact v1_ok hp h hr
theorem vL2_ok : ∀ {l : List AV} {m : List SV}, vL2 own l = some m → m.length = l.length ∧ ∀ (i : Nat) (A : AV) (B : SV), l[i]? = some A → m[i]? = some B → v2 own A = some B
  | [], m, h => by cases h; exact ⟨rfl, fun i A B hA => by simp at hA⟩
  | A :: r, m, h => by
    simp only [vL2] at h
    split at h
    · rename_i B hB
      split at h
      · rename_i l hl
        cases h
        obtain ⟨h1, h2⟩ := vL2_ok hl
        refine ⟨by simp [h1], fun i A' B' hA hB' => ?_⟩
        cases i with
        | zero => simp at hA hB'; subst hA; subst hB'; exact hB
        | succ i => exact h2 i A' B' (by simpa using hA) (by simpa using hB')
      · cases h
    · cases h
theorem v3_ok {v : Value} {A : AV} {B : SV} (h : v3 own A = some B) (hr : Rp2 w (Oset own g) O0 g v A) : RpS w (fun _ => False) v B := by
  unfold v3 at h
  split at h
  · rename_i f l
    split at h
    · rename_i m hm
      cases h
      obtain ⟨h1, h2⟩ := vL2_ok hp hm
      obtain ⟨f', vs, rfl, h3, h4⟩ := hr
      refine .fn f m vs f' (by rw [h3, h1]) (fun i hi => ?_) (fun i B hB => ?_)
      · exact (h4 i (l[i]'(by omega)) (by rw [List.getElem?_eq_getElem])).1
      · have hi : i < l.length := by rw [← h1]; exact (List.getElem?_eq_some_iff.1 hB).1
        exact v2_ok hp (h2 i l[i] B (by rw [List.getElem?_eq_getElem]) hB) (h4 i l[i] (by rw [List.getElem?_eq_getElem])).2
    · cases h
  · rename_i l
    split at h
    · rename_i m hm
      cases h
      obtain ⟨h1, h2⟩ := vL1_ok hp hm
      obtain ⟨f', vs, rfl, h3, h4⟩ := hr
      refine .agg vs m f' (by rw [h3, h1]) (fun i hi => ?_) (fun i B hB => ?_)
      · exact (h4 i (l[i]'(by omega)) (by rw [List.getElem?_eq_getElem])).1
      · have hi : i < l.length := by rw [← h1]; exact (List.getElem?_eq_some_iff.1 hB).1
        exact v1_ok hp (h2 i l[i] B (by rw [List.getElem?_eq_getElem]) hB) (h4 i l[i] (by rw [List.getElem?_eq_getElem])).2
    · cases h
  · cases A <;> first | exact v2_ok hp h hr | cases h
theorem vL3_ok : ∀ {l : List AV} {m : List SV}, vL3 own l = some m → m.length = l.length ∧ ∀ (i : Nat) (A : AV) (B : SV), l[i]? = some A → m[i]? = some B → v3 own A = some B
  | [], m, h => by cases h; exact ⟨rfl, fun i A B hA => by simp at hA⟩
  | A :: r, m, h => by
    simp only [vL3] at h
    split at h
    · rename_i B hB
      split at h
      · rename_i l hl
        cases h
        obtain ⟨h1, h2⟩ := vL3_ok hl
        refine ⟨by simp [h1], fun i A' B' hA hB' => ?_⟩
        cases i with
        | zero => simp at hA hB'; subst hA; subst hB'; exact hB
        | succ i => exact h2 i A' B' (by simpa using hA) (by simpa using hB')
      · cases h
    · cases h
end view

/-- A value that is stable as it is, and whether it is fresh. -/
def stab1 : AV → Option (SV × Bool)
  | .lit v => some (.lit v, true)
  | .st fr A => some (A, fr)
  | _ => none
def stabL1 : List AV → Option (List SV × Bool)
  | [] => some ([], true)
  | A :: r => match stab1 A with
    | some (B, b) => match stabL1 r with
      | some (l, b') => some (B :: l, b && b')
      | none => none
    | none => none
def stab2 : AV → Option (SV × Bool)
  | .strct l => match stabL1 l with
    | some (m, b) => some (.agg m, b)
    | none => none
  | A => stab1 A
def stabL : List AV → Option (List SV × Bool)
  | [] => some ([], true)
  | A :: r => match stab2 A with
    | some (B, b) => match stabL r with
      | some (l, b') => some (B :: l, b && b')
      | none => none
    | none => none

section stab
variable {w : World} {O O0 : Nat → Prop} {g : Nat → Value}
theorem RpS.lower {w : World} {O O0 : Nat → Prop} {fr φ : Bool} (hφ : φ = true → fr = true) {v : Value} {A : SV} (h : RpS w (Av O O0 fr) v A) : RpS w (Av O O0 φ) v A :=
  h.mono fun b c e fz hb hn => ⟨hb, fun h' => hn (by rcases h' with h' | ⟨h', h''⟩; exact .inl h'; exact .inr ⟨hφ h', h''⟩)⟩
theorem stab1_ok {v : Value} {A : AV} {B : SV} {b φ : Bool} (h : stab1 A = some (B, b)) (hφ : φ = true → b = true) (hr : Rp1 w O O0 g v A) : RpS w (Av O O0 φ) v B := by
  cases A with
  | lit u => cases h; rw [hr.1]; exact .lit u hr.2
  | st fr A => cases h; exact RpS.lower hφ hr
  | _ => cases h
theorem stabL1_ok : ∀ {l : List AV} {m : List SV} {b : Bool}, stabL1 l = some (m, b) → m.length = l.length ∧ ∀ (i : Nat) (A : AV) (B : SV), l[i]? = some A → m[i]? = some B → ∃ b', stab1 A = some (B, b') ∧ (b = true → b' = true)
  | [], m, b, h => by cases h; exact ⟨rfl, fun i A B hA => by simp at hA⟩
  | A :: r, m, b, h => by
    simp only [stabL1] at h
    split at h
    · rename_i B b1 hB
      split at h
      · rename_i l b2 hl
        cases h
        obtain ⟨h1, h2⟩ := stabL1_ok hl
        refine ⟨by simp [h1], fun i A' B' hA hB' => ?_⟩
        cases i with
        | zero => simp at hA hB'; subst hA; subst hB'; exact ⟨b1, hB, fun h => by simp at h; exact h.1⟩
        | succ i => obtain ⟨b', h3, h4⟩ := h2 i A' B' (by simpa using hA) (by simpa using hB'); exact ⟨b', h3, fun h => h4 (by simp at h; exact h.2)⟩
      · cases h
    · cases h
theorem stab2_ok {v : Value} {A : AV} {B : SV} {b φ : Bool} (h : stab2 A = some (B, b)) (hφ : φ = true → b = true) (hr : Rp2 w O O0 g v A) : RpS w (Av O O0 φ) v B := by
  unfold stab2 at h
  split at h
  · rename_i l
    split at h
    · rename_i m b' hm
      cases h
      obtain ⟨h1, h2⟩ := stabL1_ok hm
      obtain ⟨f', vs, rfl, h3, h4⟩ := hr
      refine .agg vs m f' (by rw [h3, h1]) (fun i hi => ?_) (fun i B hB => ?_)
      · exact (h4 i (l[i]'(by omega)) (by rw [List.getElem?_eq_getElem])).1
      · have hi : i < l.length := by rw [← h1]; exact (List.getElem?_eq_some_iff.1 hB).1
        obtain ⟨b', h5, h6⟩ := h2 i l[i] B (by rw [List.getElem?_eq_getElem]) hB
        exact stab1_ok h5 (fun h => h6 (hφ h)) (h4 i l[i] (by rw [List.getElem?_eq_getElem])).2
    · cases h
  · cases A <;> first | exact stab1_ok (g := g) (O0 := O0) (O := O) h hφ hr | cases h
theorem stabL_ok : ∀ {l : List AV} {m : List SV} {b : Bool}, stabL l = some (m, b) → m.length = l.length ∧ ∀ (i : Nat) (A : AV) (B : SV), l[i]? = some A → m[i]? = some B → ∃ b', stab2 A = some (B, b') ∧ (b = true → b' = true)
  | [], m, b, h => by cases h; exact ⟨rfl, fun i A B hA => by simp at hA⟩
  | A :: r, m, b, h => by
    simp only [stabL] at h
    split at h
    · rename_i B b1 hB
      split at h
      · rename_i l b2 hl
        cases h
        obtain ⟨h1, h2⟩ := stabL_ok hl
        refine ⟨by simp [h1], fun i A' B' hA hB' => ?_⟩
        cases i with
        | zero => simp at hA hB'; subst hA; subst hB'; exact ⟨b1, hB, fun h => by simp at h; exact h.1⟩
        | succ i => obtain ⟨b', h3, h4⟩ := h2 i A' B' (by simpa using hA) (by simpa using hB'); exact ⟨b', h3, fun h => h4 (by simp at h; exact h.2)⟩
      · cases h
    · cases h
end stab

/-- The arguments of a call, and whether its result is fresh for the caller. -/
def viewAll (own : List (Nat × Ob)) (al : Bool) (l : List AV) : Option (List SV × Bool) := match al with
  | true => stabL l
  | false => match vL3 own l with
    | some m => some (m, true)
    | none => none

theorem viewAll_ok {c : Cx} {Γ : Sy} {g : Nat → Value} {a : Act} {w : World} (hst : St c Γ g a w) {own : List (Nat × Ob)} (hown : ∀ k b, get? own k = some b → get? Γ.own k = some b) {al : Bool} {l : List AV} {S : List SV} {φ : Bool} (h : viewAll own al l = some (S, φ))
    {vals : List Value} (hl : vals.length = l.length) (hv : ∀ (i : Nat) (v : Value) (A : AV), vals[i]? = some v → l[i]? = some A → Rp2 w (Oset Γ.own g) c.O0 g v A) :
    ArgsOk w (fun b => al = true ∧ Av (Oset Γ.own g) c.O0 φ b) vals S := by
  cases al with
  | true =>
    obtain ⟨h1, h2⟩ := stabL_ok h
    refine ⟨by rw [hl, h1], fun i v B hv' hB => ?_⟩
    have hi : i < l.length := by rw [← h1]; exact (List.getElem?_eq_some_iff.1 hB).1
    obtain ⟨b', h3, h4⟩ := h2 i l[i] B (by rw [List.getElem?_eq_getElem]) hB
    exact (stab2_ok h3 h4 (hv i v l[i] hv' (by rw [List.getElem?_eq_getElem]))).mono fun b c e fz hb hn => ⟨hb, fun h' => hn h'.2⟩
  | false =>
    simp only [viewAll] at h
    split at h
    · rename_i m hm
      cases h
      have hv2 : ∀ k b, get? own k = some b → get? Γ.own k = some b := hown
      -- the view reads the same things in Γ
      have e1 : ∀ {A : AV} {B : SV}, v1 own A = some B → v1 Γ.own A = some B := by
        intro A B h
        cases A <;> simp only [v1] at h ⊢ <;> first | exact h | cases h | skip
        all_goals
          split at h
          · rename_i hk; rw [hown _ _ hk]; exact h
          · cases h
      have eL1 : ∀ {l : List AV} {m : List SV}, vL1 own l = some m → vL1 Γ.own l = some m := by
        intro l
        induction l with
        | nil => intro m h; exact h
        | cons A r ih =>
          intro m h
          simp only [vL1] at h ⊢
          split at h
          · rename_i B hB
            split at h
            · rename_i l' hl'
              rw [e1 hB, ih hl']; exact h
            · cases h
          · cases h
      have e2 : ∀ {A : AV} {B : SV}, v2 own A = some B → v2 Γ.own A = some B := by
        intro A B h
        unfold v2 at h ⊢
        split at h
        · split at h
          · split at h
            · rename_i hk
              split at h
              · rename_i hm'; simp only [hown _ _ hk, eL1 hm']; exact h
              · cases h
            · rename_i hk
              split at h
              · rename_i hB; simp only [hown _ _ hk, e1 hB]; exact h
              · cases h
            · cases h
          · cases h
        · exact e1 h
      have eL2 : ∀ {l : List AV} {m : List SV}, vL2 own l = some m → vL2 Γ.own l = some m := by
        intro l
        induction l with
        | nil => intro m h; exact h
        | cons A r ih =>
          intro m h
          simp only [vL2] at h ⊢
          split at h
          · rename_i B hB
            split at h
            · rename_i l' hl'
              rw [e2 hB, ih hl']; exact h
            · cases h
          · cases h
      have e3 : ∀ {A : AV} {B : SV}, v3 own A = some B → v3 Γ.own A = some B := by
        intro A B h
        unfold v3 at h ⊢
        split at h
        · split at h
          · rename_i hm'; simp only [eL2 hm']; exact h
          · cases h
        · split at h
          · rename_i hm'; simp only [eL1 hm']; exact h
          · cases h
        · exact e2 h
      have eL3 : ∀ {l : List AV} {m : List SV}, vL3 own l = some m → vL3 Γ.own l = some m := by
        intro l
        induction l with
        | nil => intro m h; exact h
        | cons A r ih =>
          intro m h
          simp only [vL3] at h ⊢
          split at h
          · rename_i B hB
            split at h
            · rename_i l' hl'
              rw [e3 hB, ih hl']; exact h
            · cases h
          · cases h
      obtain ⟨h1, h2⟩ := vL3_ok hst.hp (eL3 hm)
      refine ⟨by rw [hl, h1], fun i v B hv' hB => ?_⟩
      have hi : i < l.length := by rw [← h1]; exact (List.getElem?_eq_some_iff.1 hB).1
      exact (v3_ok hst.hp (h2 i l[i] B (by rw [List.getElem?_eq_getElem]) hB) (hv i v l[i] hv' (by rw [List.getElem?_eq_getElem]))).mono fun b c e fz hb _ => ⟨hb, fun h' => by cases h'.1⟩
    · cases h
end Go.Vc
