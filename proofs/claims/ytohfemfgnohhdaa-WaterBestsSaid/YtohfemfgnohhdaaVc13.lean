/- Stores into what the call owns. No condition. -/
import Derived.Test.YtohfemfgnohhdaaVc12
namespace Go.Vc
set_option linter.unusedVariables false
set_option linter.unusedSimpArgs false

/-- A step of a straight run. -/
def Seq (P : Program) (c : Cx) (o : Oper) (Γ Γ' : Sy) : Prop :=
  ∀ (g : Nat → Value) (a : Act) (w : World) (next : Act → World → Prop) (Q : Exit → Act → World → Prop), St c Γ g a w → (∀ g' a' w', St c Γ' g' a' w' → next a' w') → o.wp P a w next Q

theorem updg_self (g : Nat → Value) (k : Nat) : updg g k (g k) = g := by
  funext j
  unfold updg
  split
  · rename_i h; rw [h]
  · rfl

theorem splice_get (l vs : List Value) (p : Nat) (h : p + vs.length ≤ l.length) (q : Nat) : (l.take p ++ vs ++ l.drop (p + vs.length))[q]? = if p ≤ q ∧ q < p + vs.length then vs[q - p]? else l[q]? := by
  by_cases h1 : q < p
  · rw [List.append_assoc, List.getElem?_append_left (by simp; omega), List.getElem?_take, if_pos h1, if_neg (by omega)]
  · by_cases h2 : q < p + vs.length
    · rw [if_pos ⟨by omega, h2⟩, List.append_assoc, List.getElem?_append_right (by simp; omega), List.getElem?_append_left (by simp; omega)]
      congr 1
      simp; omega
    · rw [if_neg (by omega), List.getElem?_append_right (by simp; omega), List.getElem?_drop]
      congr 1
      simp; omega
theorem splice_len (l vs : List Value) (p : Nat) (h : p + vs.length ≤ l.length) : (l.take p ++ vs ++ l.drop (p + vs.length)).length = l.length := by simp; omega

theorem grown_setRow (w : World) (b : Nat) (cs : Array Value) : w.grownBy (w.setRow b cs) (some b) :=
  ⟨rfl, rfl, rfl, by simp [World.setRow], fun k _ hk => setRow_other w b k cs (fun e => hk (by rw [e]))⟩

theorem row_store {P : Program} {c : Cx} {Γ : Sy} {g : Nat → Value} {a : Act} {w : World} (hst : St c Γ g a w) {k : Nat} {e : TypeId} {τ : Ty} {fr fr' : Bool} {xs : List τ.T} (hk : get? Γ.own k = some (.row e τ fr xs))
    {b n cp : Nat} (hg : g k = .slice (some ⟨b, 0, none⟩) n cp) {i j0 : Nat} (hi : i < xs.length) {vs : List Value} (hone : ∀ v ∈ vs, v.oneCell' = true) (hj : j0 + vs.length ≤ τ.size) {y : τ.T} (hfr : fr' = true → fr = true)
    (hu : ∀ u : Value, u.cells.size = τ.size → RpS w (Av (Oset Γ.own g) c.O0 fr) u (τ.enc (xs.getD i τ.dflt)) →
      ∃ u' : Value, u'.cells.size = τ.size ∧ (∀ j, j < τ.size → u'.cells[j]? = if j0 ≤ j ∧ j < j0 + vs.length then vs[j - j0]? else u.cells[j]?) ∧ RpS w (Av (Oset Γ.own g) c.O0 fr') u' (τ.enc y)) :
    ∃ w', (storeCells ⟨b, i * τ.size + j0, none⟩ vs).run P w = .ok () w' ∧ St c ⟨Γ.tmps, set Γ.own k (.row e τ fr' (xs.set i y))⟩ g a w' := by
  have hok := hst.hp.ok k _ hk
  obtain ⟨ys, ho, hys, _⟩ := hok
  obtain ⟨arr, f, hb, hn, hcp, hm, hsz, hf, hr⟩ := ownRow (hst.hp.ok k _ hk) hg
  subst hn
  have hle : (i + 1) * τ.size ≤ xs.length * τ.size := Nat.mul_le_mul_right _ hi
  have hle' : xs.length * τ.size ≤ cp * τ.size := Nat.mul_le_mul_right _ hcp
  rw [Nat.add_mul, Nat.one_mul] at hle
  have hrun := run_storeCells_at P b (i * τ.size + j0) e vs 0 arr w hb (by omega) hone
  simp only [Nat.add_zero] at hrun
  refine ⟨_, hrun, ?_⟩
  have hlen : i * τ.size + j0 + vs.length ≤ arr.toList.length := by simp; omega
  have hget : ∀ q, (arr.toList.take (i * τ.size + j0) ++ vs ++ arr.toList.drop (i * τ.size + j0 + vs.length))[q]? = if i * τ.size + j0 ≤ q ∧ q < i * τ.size + j0 + vs.length then vs[q - (i * τ.size + j0)]? else arr[q]? := fun q => by
    rw [splice_get _ _ _ hlen]; simp
  have hxi : xs[i]? = some (xs.getD i τ.dflt) := by simp [List.getD, hi]
  obtain ⟨u', hu1, hu2, hu3⟩ := hu (f i) (hf i hi).1 (hr i _ hxi)
  have hys2 : ∀ q, q < xs.length * τ.size → arr[q]? = ys[q]? := by
    rcases ho.2 with ⟨h1, _⟩ | ⟨b', cap, cur, h1, _, h3, _, _, _, h5⟩
    · rw [hg] at h1; cases h1
    · rw [hg] at h1
      cases h1
      rw [hb] at h3
      cases h3
      intro q hq
      rw [← h5, List.getElem?_take, if_pos hq]
      simp
  have hset : ∀ b', Oset (set Γ.own k (.row e τ fr' (xs.set i y))) g b' → Oset Γ.own g b' := by
    rintro b' ⟨k', o', h1, h2⟩
    rw [get?_set] at h1
    split at h1
    · rename_i e'; exact ⟨k', _, by rw [e']; exact hk, h2⟩
    · exact ⟨k', o', h1, h2⟩
  have hbO : Oset Γ.own g b := ⟨k, _, hk, by rw [hg]; exact .of rfl⟩
  have hmono : ∀ {φ φ' : Bool} {v : Value} {A : SV}, (φ' = true → φ = true) → RpS w (Av (Oset Γ.own g) c.O0 φ) v A → RpS (w.setRow b (arr.toList.take (i * τ.size + j0) ++ vs ++ arr.toList.drop (i * τ.size + j0 + vs.length)).toArray) (Av (Oset (set Γ.own k (.row e τ fr' (xs.set i y))) g) c.O0 φ') v A := by
    intro φ φ' v A hφ h
    refine h.mono fun b' x e' fz hb' hn => ⟨?_, fun h' => hn ?_⟩
    · rw [setRow_other]
      · exact hb'
      · intro he; subst he; exact hn (.inl hbO)
    · rcases h' with h' | ⟨h', h''⟩
      · exact .inl (hset _ h')
      · exact .inr ⟨hφ h', h''⟩
  have key := hst.write (k := k) (o' := .row e τ fr' (xs.set i y)) (v' := g k) (w' := w.setRow b (arr.toList.take (i * τ.size + j0) ++ vs ++ arr.toList.drop (i * τ.size + j0 + vs.length)).toArray) hk
    (by rw [hg]; exact grown_setRow w b _) (.inl rfl) (fun b' h => .inl h)
  rw [updg_self] at key
  apply key
  refine ⟨(arr.toList.take (i * τ.size + j0) ++ vs ++ arr.toList.drop (i * τ.size + j0 + vs.length)).take (xs.length * τ.size), ⟨?_, .inr ⟨b, cp, _, ?_, ?_, setRow_heap w b arr _ e (0, 0) hb, ?_, hm, ?_, ?_⟩⟩, fun v hv => ?_, fun q => if q = i then u' else f q, fun q hq => ?_, fun q x hx => ?_⟩
  · have := splice_len _ _ _ hlen
    rw [List.length_take, this]
    simp
    omega
  · rw [hg]; simp
  · exact ((hst.hp.ok k _ hk).lt (b := b) (by rw [hg]; exact .of rfl)).1
  · simp; omega
  · have := splice_len _ _ _ hlen
    rw [List.size_toArray, this]; simpa using hsz
  · simp
  · obtain ⟨q, hq, rfl⟩ := List.mem_iff_getElem.1 hv
    have hq' : q < xs.length * τ.size := by rw [List.length_take] at hq; omega
    rw [List.getElem_take]
    have h1 := hget q
    rw [List.getElem?_eq_getElem (by rw [List.length_take] at hq; omega)] at h1
    split at h1
    · exact hone _ (List.mem_of_getElem? h1.symm)
    · rw [hys2 q hq'] at h1
      exact hys _ (List.mem_of_getElem? h1.symm)
  · simp only [List.length_set] at hq
    have hq2 : (q + 1) * τ.size ≤ xs.length * τ.size := Nat.mul_le_mul_right _ hq
    rw [Nat.add_mul, Nat.one_mul] at hq2
    by_cases hqi : q = i
    · subst hqi
      simp only [if_true]
      refine ⟨hu1, fun j hj' => ?_⟩
      rw [List.getElem?_take, if_pos (by omega), hget, hu2 j hj']
      by_cases hin : j0 ≤ j ∧ j < j0 + vs.length
      · rw [if_pos (by omega), if_pos hin]
        congr 1
        omega
      · rw [if_neg (by omega), if_neg hin]
        exact (hf q hi).2 j hj'
    · simp only [hqi, if_false]
      refine ⟨(hf q hq).1, fun j hj' => ?_⟩
      have hne : ¬ (i * τ.size + j0 ≤ q * τ.size + j ∧ q * τ.size + j < i * τ.size + j0 + vs.length) := by
        rcases Nat.lt_or_gt_of_ne hqi with h | h
        · have : (q + 1) * τ.size ≤ i * τ.size := Nat.mul_le_mul_right _ h
          rw [Nat.add_mul, Nat.one_mul] at this
          omega
        · have : (i + 1) * τ.size ≤ q * τ.size := Nat.mul_le_mul_right _ h
          rw [Nat.add_mul, Nat.one_mul] at this
          omega
      rw [List.getElem?_take, if_pos (by omega), hget, if_neg hne]
      exact (hf q hq).2 j hj'
  · rw [List.getElem?_set] at hx
    by_cases hqi : q = i
    · subst hqi
      simp only [if_true, hi] at hx
      cases hx
      simp only [if_true]
      exact hmono id hu3
    · rw [if_neg (Ne.symm hqi)] at hx
      simp only [hqi, if_false]
      exact hmono hfr (hr q x hx)

/-- A field of a record is set. -/
def setF : (t : Ty) → t.T → Nat → AV → Option (t.T × Bool)
  | .cons h t, x, 0, A => match dec1 h A with
    | some (y, b) => some ((y, x.2), b)
    | none => none
  | .cons h t, x, j + 1, A => match setF t x.2 j A with
    | some (y, b) => some ((x.1, y), b)
    | none => none
  | _, _, _, _ => none
theorem setF_ok : ∀ {t : Ty} {x : t.T} {j : Nat} {A : AV} {y : t.T} {b : Bool}, setF t x j A = some (y, b) → j < (t.encL x).length ∧ (t.encL y).length = (t.encL x).length ∧ (∀ i, i ≠ j → (t.encL y)[i]? = (t.encL x)[i]?) ∧
    ∀ {w : World} {O O0 : Nat → Prop} {g : Nat → Value} {v : Value} {φ : Bool}, (φ = true → b = true) → Rp2 w O O0 g v A → ∃ B, (t.encL y)[j]? = some B ∧ RpS w (Av O O0 φ) v B ∧ v.oneCell' = true := by
  intro t
  induction t with
  | cons h t _ ih =>
    intro x j A y b hs
    cases j with
    | zero =>
      simp only [setF] at hs
      split at hs
      · rename_i z b' hd
        cases hs
        refine ⟨by simp [Ty.encL], by simp [Ty.encL], fun i hi => ?_, fun {w O O0 g v φ} hφ hr => ⟨h.enc z, by simp [Ty.encL], ?_⟩⟩
        · cases i with
          | zero => exact absurd rfl hi
          | succ i => simp [Ty.encL]
        · have hr1 : Rp1 w O O0 g v A := by
            cases A <;> first | exact hr | (exfalso; cases h <;> simp [dec1] at hd)
          exact dec1_ok hd hφ hr1
      · cases hs
    | succ j =>
      simp only [setF] at hs
      split at hs
      · rename_i z b' hd
        cases hs
        obtain ⟨h1, h2, h3, h4⟩ := ih hd
        refine ⟨by simp [Ty.encL, h1], by simp [Ty.encL, h2], fun i hi => ?_, fun hφ hr => ?_⟩
        · cases i with
          | zero => simp [Ty.encL]
          | succ i => simpa [Ty.encL] using h3 i (by omega)
        · obtain ⟨B, h5, h6⟩ := h4 hφ hr
          exact ⟨B, by simpa [Ty.encL] using h5, h6⟩
      · cases hs
  | _ => intro x j A y b hs; simp [setF] at hs

def oneOk (own : List (Nat × Ob)) : AV → Bool
  | .lit _ => true
  | .st _ A => !A.isAgg
  | .fn _ _ => true
  | .own k => match get? own k with
    | some (.row _ _ _ _) => true
    | _ => false
  | .oadr _ _ _ _ => true
  | .padr _ _ => true
  | _ => false
theorem oneOk_ok {c : Cx} {Γ : Sy} {g : Nat → Value} {a : Act} {w : World} (hst : St c Γ g a w) {v : Value} {A : AV} (h : oneOk Γ.own A = true) (hr : Rp2 w (Oset Γ.own g) c.O0 g v A) : v.oneCell' = true := by
  cases A with
  | lit u => rw [hr.1]; exact hr.2
  | st fr S => exact RpS.one hr (by simpa [oneOk] using h)
  | fn f l => obtain ⟨_, _, rfl, _⟩ := hr; rfl
  | own k =>
    simp only [oneOk] at h
    split at h
    · rename_i hk
      obtain ⟨ys, hw, _⟩ := hst.hp.ok k _ hk
      have hv : v = g k := hr
      rw [hv]
      rcases hw.2 with ⟨h1, _⟩ | ⟨_, _, _, h1, _⟩ <;> rw [h1] <;> rfl
    · cases h
  | oadr k es i j => obtain ⟨_, _, _, _, rfl⟩ := hr; rfl
  | padr k j => obtain ⟨_, _, rfl⟩ := hr; rfl
  | _ => cases h

/-- A store into what the call owns. -/
def storeVC (T : List (Nat × TE)) (Γ : Sy) (t : TypeId) (A B : AV) (K : Sy → Prop) : Prop := match get? T t with
  | some te => match A with
    | .oadr k es i j => match get? Γ.own k with
      | some (.row e τ fr xs) => match te.kind.isAgg, τ.leaf with
        | false, true => match j, dec τ B with
          | 0, some (y, b) => (es = τ.size ∧ τ.good = true ∧ te.size = τ.size ∧ i < xs.length) ∧ K ⟨Γ.tmps, set Γ.own k (.row e τ (fr && b) (xs.set i y))⟩
          | _, _ => False
        | true, false => match j, dec τ B with
          | 0, some (y, b) => (es = τ.size ∧ τ.good = true ∧ te.size = τ.size ∧ i < xs.length) ∧ K ⟨Γ.tmps, set Γ.own k (.row e τ (fr && b) (xs.set i y))⟩
          | _, _ => False
        | false, false => match setF τ (xs.getD i τ.dflt) j B with
          | some (y, b) => (es = τ.size ∧ τ.good = true ∧ te.size = 1 ∧ i < xs.length) ∧ K ⟨Γ.tmps, set Γ.own k (.row e τ (fr && b) (xs.set i y))⟩
          | none => False
        | true, true => False
      | _ => False
    | .padr k j => match get? Γ.own k with
      | some (.box l) => match te.kind.isAgg with
        | true => match j, isStrct B with
          | 0, true => (te.size = l.length ∧ (leaves B).length = l.length ∧ lv1 (leaves B) = true) ∧ K ⟨Γ.tmps, set Γ.own k (.box (leaves B))⟩
          | _, _ => False
        | false => (te.size = 1 ∧ j < l.length ∧ oneOk Γ.own B = true) ∧ K ⟨Γ.tmps, set Γ.own k (.box (l.set j B))⟩
      | some (.box1 _) => match te.kind.isAgg, j with
        | false, 0 => (te.size = 1 ∧ oneOk Γ.own B = true) ∧ K ⟨Γ.tmps, set Γ.own k (.box1 B)⟩
        | _, _ => False
      | _ => False
    | _ => False
  | none => False

theorem run_storeVar {P : Program} {t : TypeId} {te : TE} (ht : te.ok P t) {w : World} {b p : Nat} {v : Value} (hs : v.cells.size = te.size) :
    (Instr.storeAt t (.pointer (some ⟨b, p, none⟩)) v).run P w = (storeCells ⟨b, p, none⟩ v.cells.toList).run P w := by
  obtain ⟨i, hi, _, hsz, _⟩ := ht.info
  simp [Instr.storeAt, Instr.sureAddr, storeVar, sizeOf, typeInfo, hi, hsz, hs]
theorem cells_one {v : Value} (h : v.oneCell' = true) : v.cells = #[v] := by cases v <;> first | rfl | cases h

theorem box_store {P : Program} {c : Cx} {Γ : Sy} {g : Nat → Value} {a : Act} {w : World} (hst : St c Γ g a w) {k : Nat} {o o' : Ob} (hk : get? Γ.own k = some o) {b : Nat} (hg : g k = .pointer (some ⟨b, 0, none⟩)) {arr : Array Value} {e : TypeId}
    (hb : w.heap[b]? = some (.cells arr e (0, 0))) {p : Nat} {vs : List Value} (hone : ∀ v ∈ vs, v.oneCell' = true) (hp : p + vs.length ≤ arr.size)
    (ho : ∀ w', (∀ b' x e' fz, w.heap[b']? = some (.cells x e' fz) → ¬ Oset Γ.own g b' → w'.heap[b']? = some (.cells x e' fz) ∧ ¬ Oset (set Γ.own k o') g b') →
      w'.heap[b]? = some (.cells (arr.toList.take p ++ vs ++ arr.toList.drop (p + vs.length)).toArray e (0, 0)) → c.w0.heap.size ≤ b → OwnOk w' c.w0.heap.size (Oset (set Γ.own k o') g) c.O0 g (g k) o') (hmat : o'.isMat = false := by rfl) :
    ∃ w', (storeCells ⟨b, p, none⟩ vs).run P w = .ok () w' ∧ St c ⟨Γ.tmps, set Γ.own k o'⟩ g a w' := by
  have hrun := run_storeCells_at P b p e vs 0 arr w hb (by omega) hone
  simp only [Nat.add_zero] at hrun
  refine ⟨_, hrun, ?_⟩
  have hset : ∀ b', Oset (set Γ.own k o') g b' → Oset Γ.own g b' := by
    rintro b' ⟨k', o'', h1, h2⟩
    rw [get?_set] at h1
    split at h1
    · rename_i e'; exact ⟨k', _, by rw [e']; exact hk, h2⟩
    · exact ⟨k', o'', h1, h2⟩
  have key := hst.write (k := k) (o' := o') (v' := g k) (w' := w.setRow b (arr.toList.take p ++ vs ++ arr.toList.drop (p + vs.length)).toArray) hk (by rw [hg]; exact grown_setRow w b _) (.inl rfl) (fun b' h => .inl h) (hm := hmat)
  rw [updg_self] at key
  apply key
  refine ho _ (fun b' x e' fz hb' hn => ⟨?_, fun h' => hn (hset _ h')⟩) (setRow_heap w b arr _ e (0, 0) hb) ((hst.hp.ok k _ hk).lt (b := b) (by rw [hg]; exact .of rfl)).1
  rw [setRow_other]
  · exact hb'
  · intro he; subst he; exact hn ⟨k, _, hk, by rw [hg]; exact .of rfl⟩

theorem storeVC.sound {P : Program} {T : List (Nat × TE)} (hT : TOk P T) {c : Cx} {o : Oper} {Γ : Sy} {t : TypeId} {x y : Operand} {A B : AV} {K : Sy → Prop} (ho : o.op = .store t x y) (hd : o.dst = none)
    (hx : Ev c Γ [] x A) (hy : Ev c Γ [] y B) (h : storeVC T Γ t A B K) : ∃ Γ', Seq P c o Γ Γ' ∧ K Γ' := by
  unfold storeVC at h
  split at h
  · rename_i te hte
    have ht := hT _ _ hte
    have fin : ∀ Γ', (∀ g a w, St c Γ g a w → Rp2 w (Oset Γ.own g) c.O0 g (a.eval x) A → Rp2 w (Oset Γ.own g) c.O0 g (a.eval y) B → ∃ w', (Instr.storeAt t (a.eval x) (a.eval y)).run P w = .ok () w' ∧ St c Γ' g a w') → Seq P c o Γ Γ' := by
      intro Γ' hf g a w next Q hst hk
      obtain ⟨w', h1, h2⟩ := hf g a w hst (hx trivial Γ g a w rfl hst) (hy trivial Γ g a w rfl hst)
      unfold Oper.wp
      have : (execOp a.eval o).run P w = .ok .skip w' := by simp [execOp, ho, h1]
      rw [this]
      simp only [Oper.upon, hd, Act.put]
      exact hk g a w' h2
    split at h
    · rename_i k es i j
      split at h
      · rename_i e τ fr xs hk
        have whole : ∀ (z : τ.T) (b : Bool), dec τ B = some (z, b) → (es = τ.size ∧ τ.good = true ∧ te.size = τ.size ∧ i < xs.length) → j = 0 → Seq P c o Γ ⟨Γ.tmps, set Γ.own k (.row e τ (fr && b) (xs.set i z))⟩ := by
          intro z b hdec ⟨h1, h2, h3, h4⟩ hj
          refine fin _ fun g a w hst hA hB => ?_
          obtain ⟨bb, n, cp, h5, h6⟩ := hA
          obtain ⟨h7, h8, h9⟩ := dec_ok (φ := fr && b) hdec (fun h => by simp at h; exact h.2) h2 hB
          rw [h6, run_storeVar ht (by rw [h8, h3]), h1, hj]
          refine row_store hst hk h5 h4 h9 (by simp [h8]) (fun h => by simp at h; exact h.1) (fun u hu1 hu2 => ⟨a.eval y, h8, fun q hq => ?_, h7⟩)
          rw [if_pos (by simp; omega)]
          simp
        split at h
        · split at h
          · rename_i z b hdec
            exact ⟨_, whole z b hdec h.1 rfl, h.2⟩
          · exact h.elim
        · split at h
          · rename_i z b hdec
            exact ⟨_, whole z b hdec h.1 rfl, h.2⟩
          · exact h.elim
        · rename_i hagg hleaf
          split at h
          · rename_i z b hset
            obtain ⟨⟨h1, h2, h3, h4⟩, hK⟩ := h
            refine ⟨_, fin _ fun g a w hst hA hB => ?_, hK⟩
            obtain ⟨bb, n, cp, h5, h6⟩ := hA
            obtain ⟨h7, h8, h9, h10⟩ := setF_ok hset
            obtain ⟨C, h11, h12, h13⟩ := h10 (φ := fr && b) (fun h => by simp at h; exact h.2) hB
            have hc := cells_one h13
            rw [encL_len τ _ h2 hleaf] at h7
            rw [h6, run_storeVar ht (by rw [hc, h3]; rfl), h1, hc]
            refine row_store hst hk h5 h4 (by simpa using h13) (by simp; omega) (fun h => by simp at h; exact h.1) (fun u hu1 hu2 => ?_)
            rw [enc_cons _ _ hleaf] at hu2
            obtain ⟨cs, rfl, h14, h15⟩ := hu2.aggc
            have hcs : cs.size = τ.size := hu1
            refine ⟨.agg (cs.setIfInBounds j (a.eval y)), by simp [Value.cells, hcs], fun q hq => ?_, ?_⟩
            · simp only [Value.cells]
              by_cases hqj : q = j
              · subst hqj
                rw [if_pos (by simp)]
                simp [hcs, hq]
              · rw [if_neg (by simp; omega), Array.getElem?_setIfInBounds_ne (Ne.symm hqj)]
            · rw [enc_cons _ _ hleaf]
              have hl2 : (τ.encL z).length = τ.size := encL_len τ _ h2 hleaf
              refine .agg _ _ (fun q => (cs.setIfInBounds j (a.eval y)).getD q undef) (by simp [hcs, hl2]) (fun q hq => ?_) (fun q D hD => ?_)
              · by_cases hqj : q = j
                · subst hqj
                  simp [Array.getD_eq_getD_getElem?, hcs, h7, h13]
                · obtain ⟨u, h16, h17, _⟩ := h15 q ((τ.encL (xs.getD i τ.dflt))[q]'(by rw [← h8]; exact hq)) (by rw [List.getElem?_eq_getElem])
                  simp [Array.getD_eq_getD_getElem?, Array.getElem?_setIfInBounds_ne (Ne.symm hqj), h16, h17]
              · by_cases hqj : q = j
                · subst hqj
                  rw [h11] at hD
                  cases hD
                  simpa [Array.getD_eq_getD_getElem?, hcs, h7] using h12
                · rw [h9 q hqj] at hD
                  obtain ⟨u, h16, h17, h18⟩ := h15 q D hD
                  have : (cs.setIfInBounds j (a.eval y)).getD q undef = u := by simp [Array.getD_eq_getD_getElem?, Array.getElem?_setIfInBounds_ne (Ne.symm hqj), h16]
                  rw [this]
                  exact RpS.lower (fun h => by simp at h; exact h.1) h18
          · exact h.elim
        · exact h.elim
      · exact h.elim
    · rename_i k j
      split at h
      · rename_i l hk
        split at h
        · split at h
          · rename_i hs
            obtain ⟨⟨h1, h2, h3⟩, hK⟩ := h
            refine ⟨_, fin _ fun g a w hst hA hB => ?_, hK⟩
            obtain ⟨bb, h5, h6⟩ := hA
            obtain ⟨b', arr, e, h7, h8, h9, h10, h11⟩ := hst.hp.ok k _ hk
            rw [h5] at h7
            cases h7
            obtain ⟨cs, hcs, h12, h13⟩ := leaves_ok hs hB
            rw [h6, run_storeVar ht (by rw [hcs, h1]; simp only [Value.cells]; omega), hcs]
            refine box_store hst hk h5 h9 (fun v hv => ?_) (by simp [Value.cells]; omega) (fun w' hw' hb' hbase => ?_)
            · obtain ⟨q, hq, rfl⟩ := List.mem_iff_getElem.1 hv
              have hq' : q < cs.size := by simpa [Value.cells] using hq
              exact (h13 q ((leaves B)[q]'(by omega)) _ (by rw [List.getElem?_eq_getElem]) (by simp [Value.cells, hq'])).2
            · refine ⟨bb, _, e, h5, hbase, hb', by simp [Value.cells]; omega, fun q D hD => ?_⟩
              have hq : q < cs.size := by rw [h12]; exact (List.getElem?_eq_some_iff.1 hD).1
              obtain ⟨h14, h15⟩ := h13 q D cs[q] hD (by simp [hq])
              refine ⟨cs[q], ?_, h15, h14.two.mono hw' (fun _ _ _ _ _ _ h => h) (fun _ _ => rfl)⟩
              simp only [Value.cells, List.getElem?_toArray]
              rw [splice_get _ _ _ (by simp; omega), if_pos (by simp; omega)]
              simp [hq]
          · exact h.elim
        · obtain ⟨⟨h1, h2, h3⟩, hK⟩ := h
          refine ⟨_, fin _ fun g a w hst hA hB => ?_, hK⟩
          obtain ⟨bb, h5, h6⟩ := hA
          obtain ⟨b', arr, e, h7, h8, h9, h10, h11⟩ := hst.hp.ok k _ hk
          rw [h5] at h7
          cases h7
          have hv := oneOk_ok hst h3 hB
          have hc := cells_one hv
          rw [h6, run_storeVar ht (by rw [hc, h1]; rfl), hc]
          refine box_store hst hk h5 h9 (by simpa using hv) (by simp; omega) (fun w' hw' hb' hbase => ?_)
          refine ⟨bb, _, e, h5, hbase, hb', by simp; omega, fun q D hD => ?_⟩
          simp only [List.getElem?_toArray]
          rw [splice_get _ _ _ (by simp; omega)]
          rw [List.getElem?_set] at hD
          by_cases hqj : j = q
          · subst hqj
            simp only [if_true, h2] at hD
            cases hD
            rw [if_pos (by simp)]
            exact ⟨a.eval y, by simp, hv, hB.mono hw' (fun _ _ _ _ _ _ h => h) (fun _ _ => rfl)⟩
          · rw [if_neg hqj] at hD
            rw [if_neg (by simp; omega)]
            obtain ⟨u, h12, h13, h14⟩ := h11 q D hD
            exact ⟨u, by simpa using h12, h13, h14.mono hw' (fun _ _ _ _ _ _ h => h) (fun _ _ => rfl)⟩
      · rename_i B0 hk
        split at h
        · obtain ⟨⟨h1, h3⟩, hK⟩ := h
          refine ⟨_, fin _ fun g a w hst hA hB => ?_, hK⟩
          obtain ⟨bb, h5, h6⟩ := hA
          obtain ⟨b', u, e, h7, h8, h9, h10, h11⟩ := hst.hp.ok k _ hk
          rw [h5] at h7
          cases h7
          have hv := oneOk_ok hst h3 hB
          have hc := cells_one hv
          rw [h6, run_storeVar ht (by rw [hc, h1]; rfl), hc]
          refine box_store hst hk h5 h9 (by simpa using hv) (by simp) (fun w' hw' hb' hbase => ?_)
          exact ⟨bb, a.eval y, e, h5, hbase, by simpa using hb', hv, hB.mono hw' (fun _ _ _ _ _ _ h => h) (fun _ _ => rfl)⟩
        · exact h.elim
      · exact h.elim
    · exact h.elim
  · exact h.elim
end Go.Vc
