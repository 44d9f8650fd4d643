/- Rows of rows of the call's own: they are made, their inner rows grow, and are put back. No condition. -/
import Derived.Test.YtohfemfgnohhdaaVc16
namespace Go.Vc
set_option linter.unusedVariables false
set_option linter.unusedSimpArgs false

/-- Does a value name more of key k than the outer header? -/
def AV.leafI (k : Nat) : AV → Bool
  | .own k' => Nat.beq k' k
  | .oadr k' _ _ _ => Nat.beq k' k
  | .padr k' _ => Nat.beq k' k
  | .inn k' _ => Nat.beq k' k
  | .iadr k' _ _ _ _ => Nat.beq k' k
  | _ => false
def anyI (k : Nat) : List AV → Bool
  | [] => false
  | A :: r => A.leafI k || anyI k r
def AV.iM (k : Nat) : AV → Bool
  | .strct l => anyI k l
  | A => A.leafI k
def anyIM (k : Nat) : List AV → Bool
  | [] => false
  | A :: r => A.iM k || anyIM k r
def AV.i2 (k : Nat) : AV → Bool
  | .tup l => anyIM k l
  | .fn _ l => anyI k l
  | A => A.iM k
def anyI2 (k : Nat) : List AV → Bool
  | [] => false
  | A :: r => A.i2 k || anyI2 k r
def AV.iH (k : Nat) : AV → Bool
  | .gd _ A => A.i2 k
  | A => A.i2 k
theorem anyI_no {k : Nat} : ∀ {l : List AV}, anyI k l = false → ∀ B ∈ l, B.leafI k = false
  | A :: r, h, B, hB => by
    simp only [anyI, Bool.or_eq_false_iff] at h
    rcases List.mem_cons.1 hB with rfl | hB
    · exact h.1
    · exact anyI_no h.2 B hB
theorem anyIM_no {k : Nat} : ∀ {l : List AV}, anyIM k l = false → ∀ B ∈ l, B.iM k = false
  | A :: r, h, B, hB => by
    simp only [anyIM, Bool.or_eq_false_iff] at h
    rcases List.mem_cons.1 hB with rfl | hB
    · exact h.1
    · exact anyIM_no h.2 B hB
theorem anyI2_no {k : Nat} : ∀ {l : List AV}, anyI2 k l = false → ∀ B ∈ l, B.i2 k = false
  | A :: r, h, B, hB => by
    simp only [anyI2, Bool.or_eq_false_iff] at h
    rcases List.mem_cons.1 hB with rfl | hB
    · exact h.1
    · exact anyI2_no h.2 B hB
section same
variable {g : Nat → Value} {k : Nat} {v' : Value} (hh : hd v' = hd (g k))
include hh
theorem updg_hd (j : Nat) : hd (updg g k v' j) = hd (g j) := by
  unfold updg
  split
  · rename_i e; rw [e]; exact hh
  · rfl
theorem leafI_same {A : AV} (h : A.leafI k = false) : A.same1 g (updg g k v') := by
  cases A <;> simp only [AV.same1, AV.leafI] at h ⊢ <;> first
    | trivial
    | exact updg_hd hh _
    | (unfold updg; rw [if_neg (Nat.ne_of_beq_eq_false h)])
theorem iM_same {A : AV} (h : A.iM k = false) : A.sameM g (updg g k v') := by
  cases A with
  | strct l => exact fun B hB => leafI_same hh (anyI_no h B hB)
  | _ => simp only [AV.sameM]; exact leafI_same hh h
theorem i2_same {A : AV} (h : A.i2 k = false) : A.same2 g (updg g k v') := by
  cases A with
  | tup l => exact fun B hB => iM_same hh (anyIM_no h B hB)
  | fn m l => exact fun B hB => leafI_same hh (anyI_no h B hB)
  | _ => simp only [AV.same2]; exact iM_same hh h
theorem iH_same {A : AV} (h : A.iH k = false) : A.same g (updg g k v') := by
  cases A with
  | gd p A => exact i2_same hh h
  | _ => simp only [AV.same]; exact i2_same hh h
end same
def AV.purgeI (k : Nat) (A : AV) : AV := match A.iH k with
  | true => .any
  | false => A
theorem AV.purgeI_key (k : Nat) (A : AV) : A.purgeI k = .any ∨ (A.purgeI k = A ∧ A.iH k = false) := by
  unfold AV.purgeI
  cases A.iH k <;> simp
theorem AV.purgeI_no (k : Nat) (A : AV) : (A.purgeI k).iH k = false := by
  rcases AV.purgeI_key k A with h | ⟨h, h'⟩
  · rw [h]; rfl
  · rw [h]; exact h'
/-- No boxed variable names more of k than the outer header. -/
def ownNoI (k : Nat) : List (Nat × Ob) → Bool
  | [] => true
  | (_, o) :: r => (match o with
    | .box l => !(anyI2 k l)
    | .box1 A => !(A.i2 k)
    | _ => true) && ownNoI k r
theorem ownNoI_same {g : Nat → Value} {k : Nat} {v' : Value} (hh : hd v' = hd (g k)) : ∀ {l : List (Nat × Ob)} {j : Nat} {o : Ob}, ownNoI k l = true → get? l j = some o → o.same g (updg g k v')
  | [], j, o, _, h => by cases h
  | (k', o') :: r, j, o, hl, h => by
    simp only [ownNoI, Bool.and_eq_true] at hl
    simp only [get?] at h
    split at h
    · cases h
      have h1 := hl.1
      cases o' with
      | row => trivial
      | mat => trivial
      | box l => exact fun B hB => i2_same hh (anyI2_no (by simpa using h1) B hB)
      | box1 A => exact i2_same hh (by simpa using h1)
    · exact ownNoI_same hh hl.2 h

theorem St.purgeI {c : Cx} {Γ : Sy} {g : Nat → Value} {a : Act} {w : World} (k : Nat) (h : St c Γ g a w) : St c ⟨mapv (AV.purgeI k) Γ.tmps, Γ.own⟩ g a w := by
  refine h.change h.keep (fun b x e fz hb hn => ⟨hb, hn⟩) (fun t A hA => ?_) h.hp
  simp only [get?_mapv] at hA
  obtain ⟨A0, h1, rfl⟩ := Option.map_eq_some_iff.1 hA
  rcases AV.purgeI_key k A0 with h' | ⟨h', _⟩
  · exact .inl h'
  · rw [h']; exact .inr ⟨h1, fun _ _ => rfl⟩

/-- A row of rows is written: the outer header stays. -/
theorem St.mwrite {c : Cx} {Γ : Sy} {g : Nat → Value} {a : Act} {w w' : World} (h : St c Γ g a w) {k : Nat} {o o' : Ob} (hko : get? Γ.own k = some o) {v' : Value} (hh : hd v' = hd (g k)) (hn : ownNoI k Γ.own = true)
    (h1 : w'.os = w.os) (h2 : w'.tape = w.tape) (h3 : w'.output = w.output) (h4 : w.heap.size ≤ w'.heap.size) (hw : ∀ b, b < w.heap.size → ¬ Blk (g k) b → w'.heap[b]? = w.heap[b]?)
    (hv : ∀ b, Blk v' b → Blk (g k) b ∨ w.heap.size ≤ b)
    (ho : OwnOk w' c.w0.heap.size (Oset (set Γ.own k o') (updg g k v')) c.O0 (updg g k v') v' o') : St c ⟨mapv (AV.purgeI k) Γ.tmps, set Γ.own k o'⟩ (updg g k v') a w' := by
  refine (h.purgeI k).writeB (Γ := ⟨mapv (AV.purgeI k) Γ.tmps, Γ.own⟩) hko h1 h2 h3 h4 hw ⟨fun t A hA => ?_, fun j o _ hj => ownNoI_same hh hn hj⟩ hv ho
  simp only [get?_mapv] at hA
  obtain ⟨A0, _, rfl⟩ := Option.map_eq_some_iff.1 hA
  exact iH_same hh (AV.purgeI_no k A0)

/-- The ghost with another inner header. -/
theorem setSub (v : Value) (i : Nat) (u : Value) : ∃ v', hd v' = hd v ∧ sub v' i = u ∧ ∀ j, j ≠ i → sub v' j = sub v j := by
  have mk : ∀ (n : Nat), i < n → (∀ j, n ≤ j → sub v j = .slice none 0 0) → ∃ v', hd v' = hd v ∧ sub v' i = u ∧ ∀ j, j ≠ i → sub v' j = sub v j := by
    intro n hi hn
    refine ⟨.tuple (#[hd v] ++ (Array.range n).map fun j => if j = i then u else sub v j), ?_, ?_, fun j hj => ?_⟩
    · have h1 : ∀ (x : Value) (l : Array Value), hd (.tuple (#[x] ++ l)) = x := fun x l => by
        simp [hd, Array.getD_eq_getD_getElem?, Array.getElem?_append]
      exact h1 _ _
    · simp [sub, Array.getD_eq_getD_getElem?, Array.getElem?_append, hi]
    · show Array.getD _ (j + 1) _ = _
      rw [Array.getD_eq_getD_getElem?, Array.getElem?_append_right (by simp)]
      by_cases hjn : j < n
      · simp [hjn, hj]
      · simp only [List.size_toArray, List.length_cons, List.length_nil, Nat.zero_add, Nat.add_sub_cancel, Array.getElem?_map, Array.getElem?_range]
        rw [if_neg hjn]
        exact (hn j (by omega)).symm
  cases v with
  | tuple cs =>
    refine mk (max cs.size (i + 1)) (by omega) fun j hj => ?_
    simp only [sub, Array.getD_eq_getD_getElem?]
    rw [Array.getElem?_eq_none (by omega)]
    rfl
  | _ => exact mk (i + 1) (by omega) fun j _ => rfl

theorem getD_set {α : Type} {xs : List α} {i j : Nat} {y d : α} (hi : i < xs.length) : (xs.set i y).getD j d = if j = i then y else xs.getD j d := by
  simp only [List.getD_eq_getElem?_getD, List.getElem?_set]
  by_cases h : i = j
  · subst h; simp [hi]
  · simp [h, Ne.symm h]

/-- append to an inner row. -/
def iappendVC (T : List (Nat × TE)) (Γ : Sy) (n : Nat) (t : TypeId) (k i : Nat) (B : AV) (D : Nat) (K : Sy → Prop) : Prop := match get? T t with
  | some { kind := .sl e, .. } => match get? T e with
    | some { ty := some τ, .. } => match get? Γ.own k with
      | some (.mat e1 e2 τ' fr xs none) => match srcOf Γ.own τ' B, ownNoI k Γ.own with
        | some (ys, b), true => (e2 = e ∧ τ' = τ ∧ D < n ∧ i < xs.length ∧ (xs.getD i []).length + ys.length ≤ 4294967296) ∧
            K ⟨set (mapv (AV.purgeI k) Γ.tmps) D (.inn k i), set Γ.own k (.mat e1 e2 τ' (fr && b) (xs.set i (xs.getD i [] ++ ys)) (some i))⟩
        | _, _ => False
      | _ => False
    | _ => False
  | _ => False

theorem iappendVC.sound {P : Program} {T : List (Nat × TE)} (hT : TOk P T) {c : Cx} {o : Oper} {Γ : Sy} {t : TypeId} {s x : Operand} {k i : Nat} {B : AV} {D : Nat} {K : Sy → Prop}
    (ho : o.op = .call { callee := .builtin .append, args := #[s, x], argTypes := #[t, t] }) (hd0 : o.dst = some D) (hs : Ev c Γ [] s (.inn k i)) (hx : Ev c Γ [] x B) (h : iappendVC T Γ c.n t k i B D K) : ∃ Γ', Seq P c o Γ Γ' ∧ K Γ' := by
  unfold iappendVC at h
  split at h
  · rename_i e sz by_ ze ty ht
    have hu := (hT _ _ ht).sl rfl
    split at h
    · rename_i ke se be zz τ hte
      have he := hT _ _ hte
      split at h
      · rename_i e1 e2 τ' fr xs hk
        split at h
        · rename_i ys b hsrc hnoI
          obtain ⟨⟨rfl, rfl, hD, hi, hlen⟩, hK⟩ := h
          refine ⟨_, ?_, hK⟩
          intro g a w next Q hst hkk
          have hA : a.eval s = sub (g k) i := hs trivial Γ g a w rfl hst
          have hB := hx trivial Γ g a w rfl hst
          obtain ⟨⟨cells, c1, c2, c3⟩, hin, hdist, hdo⟩ := hst.hp.ok k _ hk
          obtain ⟨zs, hown, hone, hcells⟩ := hin i
          obtain ⟨u, w', news, g1, g2, g3, g4, g5, g6⟩ := append_run (P := P) (O' := fun _ => False) (ty := o.type) hT hu he rfl hown (srcOf_ok hst hsrc hB) hlen hst.keep.size
          unfold Oper.wp
          have hrun : (execOp a.eval o).run P w = .ok (.value u) w' := by
            rw [← hA] at g1
            simp [execOp, ho, resolve, invoke, builtin, g1]
          rw [hrun]
          obtain ⟨v', v1, v2, v3⟩ := setSub (g k) i u
          have hub : ∀ b', blk u = some b' → Blk (g k) b' ∨ w.heap.size ≤ b' := fun b' hb' => (g4 b' hb').imp (fun h => .inr ⟨i, h⟩) id
          have hvb : ∀ b', Blk v' b' → Blk (g k) b' ∨ w.heap.size ≤ b' := by
            rintro b' (h1 | ⟨j, h1⟩)
            · rw [v1] at h1; exact .inl (.inl h1)
            · by_cases hj : j = i
              · rw [hj, v2] at h1; exact hub b' h1
              · rw [v3 j hj] at h1; exact .inl (.inr ⟨j, h1⟩)
          have hw : ∀ b', b' < w.heap.size → ¬ Blk (g k) b' → w'.heap[b']? = w.heap[b']? := fun b' hb' hn => g3.block b' hb' (fun h => hn (.inr ⟨i, h.symm⟩))
          have hO : ∀ b', Oset (set Γ.own k (.mat e1 e2 τ' (fr && b) (xs.set i (xs.getD i [] ++ ys)) (some i))) (updg g k v') b' → Oset Γ.own g b' ∨ w.heap.size ≤ b' := by
            rintro b' ⟨j, o', h1, h2⟩
            rw [get?_set] at h1
            by_cases hj : j = k
            · subst hj
              simp only [updg, if_true] at h2
              rcases hvb b' h2 with h3 | h3
              · exact .inl ⟨j, _, hk, h3⟩
              · exact .inr h3
            · rw [if_neg hj] at h1
              simp only [updg, hj, if_false] at h2
              exact .inl ⟨j, o', h1, h2⟩
          have hm : ∀ (φ : Bool), ((fr && b) = true → φ = true) → ∀ v A, RpS w (Av (Oset Γ.own g) c.O0 φ) v A →
              RpS w' (Av (Oset (set Γ.own k (.mat e1 e2 τ' (fr && b) (xs.set i (xs.getD i [] ++ ys)) (some i))) (updg g k v')) c.O0 (fr && b)) v A := by
            intro φ hφ v A h
            refine h.mono fun b' y e2 fz hb' hn => ⟨?_, fun h' => ?_⟩
            · rw [g3.block b' (heap_lt hb') (fun h' => hn (.inl ⟨k, _, hk, .inr ⟨i, h'.symm⟩⟩))]; exact hb'
            · rcases h' with h' | ⟨h', h''⟩
              · rcases hO b' h' with h' | h'
                · exact hn (.inl h')
                · exact absurd (heap_lt hb') (by omega)
              · exact hn (.inr ⟨hφ h', h''⟩)
          have frl : (fr && b) = true → fr = true := fun h => by simp at h; exact h.1
          have frr : (fr && b) = true → b = true := fun h => by simp at h; exact h.2
          have keepRow : ∀ {base e0 size n : Nat} {v : Value} {xs0 : List Value}, w.ownsRow base e0 size v n xs0 → blk v ≠ blk (sub (g k) i) ∨ blk v = none → w'.ownsRow base e0 size v n xs0 := by
            intro base e0 size n v xs0 h hne
            refine ownsRow_mono (fun b' hb' => ?_) h
            have hlt := (ownsRow_lt h hb').2
            refine g3.block b' hlt (fun e => ?_)
            rcases hne with hne | hne
            · exact hne (hb'.trans e)
            · rw [hne] at hb'; cases hb'
          have key := hst.mwrite (k := k) (o' := .mat e1 e2 τ' (fr && b) (xs.set i (xs.getD i [] ++ ys)) (some i)) (v' := v') (w' := w') hk v1 hnoI g3.os g3.tape g3.output g3.size hw hvb
            ⟨⟨cells, ?_, c2, fun j hj hji => ?_⟩, fun j => ?_, fun j j' b' h1 h2 => ?_, fun j b' h1 h2 => ?_⟩
          · refine hkk (updg g k v') (a.put o.dst u) w' ?_
            rw [hd0]
            exact key.put (t := D) (A := .inn k i) hD (show u = sub (updg g k v' k) i by simp [updg, v2])
          · rw [List.length_set, v1]
            refine keepRow c1 ?_
            cases hb : blk (hd (g k)) with
            | none => exact .inr rfl
            | some b' => exact .inl fun e => hdo i b' e.symm hb
          · rw [List.length_set] at hj
            have hne : j ≠ i := fun e => hji (by rw [e])
            rw [v3 j hne]
            exact c3 j hj (by simp)
          · show RowOk _ _ _ _ _ _ _ _ ((xs.set i (xs.getD i [] ++ ys)).getD j [])
            rw [getD_set hi]
            by_cases hj : j = i
            · subst hj
              rw [if_pos rfl, v2]
              refine ⟨zs ++ news, by rw [List.length_append]; exact g2, fun u hu => (List.mem_append.1 hu).elim (hone u) (g5 u), Cells.append hown.1 hcells g6 (hm fr frl) (hm b frr)⟩
            · rw [if_neg hj, v3 j hj]
              obtain ⟨zs', hown', hone', f, hf1, hf2⟩ := hin j
              refine ⟨zs', keepRow hown' ?_, hone', f, hf1, fun p x hx => hm fr frl _ _ (hf2 p x hx)⟩
              cases hb : blk (sub (g k) j) with
              | none => exact .inr rfl
              | some b' => exact .inl fun e => hj (hdist j i b' hb e.symm)
          · -- the inner rows stay apart
            have old : ∀ p, p ≠ i → blk (sub v' p) = some b' → b' < w.heap.size := fun p hp hb => by
              rw [v3 p hp] at hb
              obtain ⟨zs', hown', _⟩ := hin p
              exact (ownsRow_lt hown' hb).2
            by_cases hj : j = i <;> by_cases hj' : j' = i
            · rw [hj, hj']
            · subst hj
              have hlt := old j' hj' h2
              rw [v2] at h1
              rw [v3 j' hj'] at h2
              rcases g4 b' h1 with h3 | h3
              · exact hdist j j' b' h3 h2
              · omega
            · subst hj'
              have hlt := old j hj h1
              rw [v2] at h2
              rw [v3 j hj] at h1
              rcases g4 b' h2 with h3 | h3
              · exact hdist j j' b' h1 h3
              · omega
            · rw [v3 j hj] at h1
              rw [v3 j' hj'] at h2
              exact hdist j j' b' h1 h2
          · rw [v1] at h2
            have hlt := (ownsRow_lt c1 h2).2
            by_cases hj : j = i
            · subst hj
              rw [v2] at h1
              rcases g4 b' h1 with h3 | h3
              · exact hdo j b' h3 h2
              · omega
            · rw [v3 j hj] at h1
              exact hdo j b' h1 h2
        · exact h.elim
      · exact h.elim
    · exact h.elim
  · exact h.elim
end Go.Vc
