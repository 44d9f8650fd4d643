/- Rows of rows of the call's own: a row is put into one; one is made. No condition. -/
import Derived.Test.YtohfemfgnohhdaaVc16m
namespace Go.Vc
set_option linter.unusedVariables false
set_option linter.unusedSimpArgs false

/-- A store into the outer row. -/
theorem outer_store {P : Program} {w : World} {base : Nat} {e : TypeId} {hv : Value} {n : Nat} {cells : List Value} (h : w.ownsRow base e 1 hv n cells) (hc : ∀ x ∈ cells, x.oneCell' = true) {b m cp : Nat} (hg : hv = .slice (some ⟨b, 0, none⟩) m cp) {i : Nat} (hi : i < n)
    {u : Value} (hu : u.oneCell' = true) : ∃ cs cells', (storeCells ⟨b, i, none⟩ [u]).run P w = .ok () (w.setRow b cs) ∧ (w.setRow b cs).ownsRow base e 1 hv n cells' ∧ (∀ x ∈ cells', x.oneCell' = true) ∧ ∀ j, cells'[j]? = if j = i then some u else cells[j]? := by
  rcases h.2 with ⟨h1, _⟩ | ⟨b', cap, cur, h1, h2, h3, h4, h5, h6, h7⟩
  · rw [hg] at h1; cases h1
  · rw [hg] at h1
    cases h1
    have hlen := h.1
    have hrun := run_storeCells_at P b i e [u] 0 cur w h3 (by simp; omega) (by simpa using hu)
    simp only [Nat.add_zero] at hrun
    have hl : i + [u].length ≤ cur.toList.length := by simp; omega
    have hi' : i < cells.length := by rw [hlen]; omega
    refine ⟨_, cells.set i u, hrun, ⟨by rw [List.length_set]; exact hlen, .inr ⟨b, cp, _, hg, h2, setRow_heap w b cur _ e (0, 0) h3, h4, h5, ?_, ?_⟩⟩, fun x hx => ?_, fun j => ?_⟩
    · have := splice_len cur.toList [u] i hl
      rw [List.size_toArray, this]; simpa using h6
    · apply List.ext_getElem?
      intro j
      show ((cur.toList.take i ++ [u] ++ cur.toList.drop (i + [u].length)).toArray.toList.take (n * 1))[j]? = (cells.set i u)[j]?
      rw [List.getElem?_take, List.toList_toArray, splice_get _ _ _ hl, List.getElem?_set]
      by_cases hji : j = i
      · subst hji
        rw [if_pos (by omega), if_pos (by simp), if_pos rfl, if_pos hi']
        simp
      · rw [if_neg (show ¬ (i ≤ j ∧ j < i + [u].length) by simp; omega), if_neg (Ne.symm hji), ← h7, List.getElem?_take]
    · rcases List.mem_or_eq_of_mem_set hx with h8 | h8
      · exact hc x h8
      · rw [h8]; exact hu
    · rw [List.getElem?_set]
      by_cases hji : j = i
      · subst hji; simp [hi']
      · simp [hji, Ne.symm hji]

theorem Oset.set_sub {own : List (Nat × Ob)} {g : Nat → Value} {k : Nat} {o o' : Ob} (hk : get? own k = some o) {b : Nat} (h : Oset (set own k o') g b) : Oset own g b := by
  obtain ⟨j, o2, h1, h2⟩ := h
  rw [get?_set] at h1
  split at h1
  · rename_i e; exact ⟨j, o, by rw [e]; exact hk, h2⟩
  · exact ⟨j, o2, h1, h2⟩

/-- An own row is put into a row of rows: the two become one. -/
theorem St.absorb {c : Cx} {Γ : Sy} {g : Nat → Value} {a : Act} {w w' : World} (h : St c Γ g a w) {k k' : Nat} (hkk : k ≠ k') {o o2 o' : Ob} (hko : get? Γ.own k = some o) (hko2 : get? Γ.own k' = some o2) {v' : Value} (hh : hd v' = hd (g k)) (hn : ownNoI k Γ.own = true)
    (h1 : w'.os = w.os) (h2 : w'.tape = w.tape) (h3 : w'.output = w.output) (h4 : w.heap.size ≤ w'.heap.size) (hw : ∀ b, b < w.heap.size → ¬ Blk (g k) b → w'.heap[b]? = w.heap[b]?)
    (hv : ∀ b, Blk v' b → Blk (g k) b ∨ Blk (g k') b)
    (ho : OwnOk w' c.w0.heap.size (Oset (set (mapv (Ob.purge k') (del Γ.own k')) k o') (updg g k v')) c.O0 (updg g k v') v' o') :
    St c ⟨mapv (AV.purgeI k) (mapv (AV.purge k') Γ.tmps), set (mapv (Ob.purge k') (del Γ.own k')) k o'⟩ (updg g k v') a w' := by
  have back : ∀ j o3, j ≠ k → get? (set (mapv (Ob.purge k') (del Γ.own k')) k o') j = some o3 → j ≠ k' ∧ ∃ o4, get? Γ.own j = some o4 ∧ o3 = o4.purge k' := by
    intro j o3 hj h5
    rw [get?_set, if_neg hj, get?_mapv, get?_del] at h5
    split at h5
    · cases h5
    · rename_i hjk
      obtain ⟨o4, h6, h7⟩ := Option.map_eq_some_iff.1 h5
      exact ⟨hjk, o4, h6, h7.symm⟩
  have hgk : ∀ j, j ≠ k → updg g k v' j = g j := fun j hj => by simp [updg, hj]
  have hO : ∀ b, Oset (set (mapv (Ob.purge k') (del Γ.own k')) k o') (updg g k v') b → Oset Γ.own g b := by
    rintro b ⟨j, o3, h5, h6⟩
    by_cases hj : j = k
    · subst hj
      simp only [updg, if_true] at h6
      rcases hv b h6 with h7 | h7
      · exact ⟨j, o, hko, h7⟩
      · exact ⟨k', o2, hko2, h7⟩
    · obtain ⟨_, o4, h7, _⟩ := back j o3 hj h5
      rw [hgk j hj] at h6
      exact ⟨j, o4, h7, h6⟩
  have hmono : ∀ b x e fz, w.heap[b]? = some (.cells x e fz) → ¬ Oset Γ.own g b → w'.heap[b]? = some (.cells x e fz) ∧ ¬ Oset (set (mapv (Ob.purge k') (del Γ.own k')) k o') (updg g k v') b :=
    fun b x e fz hb hn => ⟨(hw b (heap_lt hb) (fun h' => hn ⟨k, o, hko, h'⟩)).trans hb, fun h' => hn (hO b h')⟩
  have hd' := h.drop k'
  refine ⟨h.defers, h.size, ⟨h1.trans h.keep.os, h2.trans h.keep.tape, h3.trans h.keep.output, Nat.le_trans h.keep.size h4, fun b hb _ => ?_⟩, h.o0, fun t A hA => ?_, fun b x hb => hmono b _ _ _ (h.kept b x hb).1 (h.kept b x hb).2, ⟨fun j o'' hj => ?_, fun j j' o3 o4 b hj hj' hb hb' => ?_⟩⟩
  · refine (hw b (Nat.lt_of_lt_of_le hb h.keep.size) (fun h' => ?_)).trans (h.keep.b b hb)
    have := ((h.hp.ok k o hko).lt h').1
    omega
  · simp only [get?_mapv] at hA
    obtain ⟨A0, hA0, rfl⟩ := Option.map_eq_some_iff.1 hA
    obtain ⟨A1, hA1, rfl⟩ := Option.map_eq_some_iff.1 hA0
    have h5 := h.tmps t A1 hA1
    rcases AV.purgeI_key k (A1.purge k') with h6 | ⟨h6, h7⟩
    · rw [h6]; trivial
    · rw [h6]
      rcases AV.purge_key k' A1 with h8 | ⟨h8, h9⟩
      · rw [h8]; trivial
      · rw [h8] at h7 ⊢
        exact h5.monoS hmono (fun _ _ _ _ _ _ h => h) (iH_same hh h7)
  · by_cases e : j = k
    · subst e
      rw [get?_set, if_pos rfl] at hj
      cases hj
      simpa [updg] using ho
    · obtain ⟨hjk, o4, h5, rfl⟩ := back j o'' e hj
      have h6 := h.hp.ok j o4 h5
      rw [hgk j e]
      exact (h6.monoS hmono (fun _ _ _ _ _ _ h => h) (fun b hb => hw b (h6.lt hb).2 (fun h' => e (h.hp.inj j k _ _ b h5 hko hb h'))) (ownNoI_same hh hn h5)).purge
  · by_cases e : j = k <;> by_cases e' : j' = k
    · rw [e, e']
    · subst e
      obtain ⟨hjk, o5, h5, _⟩ := back j' o4 e' hj'
      rw [hgk j' e'] at hb'
      simp only [updg, if_true] at hb
      rcases hv b hb with h6 | h6
      · exact absurd (h.hp.inj j j' _ _ b hko h5 h6 hb').symm e'
      · exact absurd (h.hp.inj k' j' _ _ b hko2 h5 h6 hb').symm hjk
    · subst e'
      obtain ⟨hjk, o5, h5, _⟩ := back j o3 e hj
      rw [hgk j e] at hb
      simp only [updg, if_true] at hb'
      rcases hv b hb' with h6 | h6
      · exact absurd (h.hp.inj j j' _ _ b h5 hko hb h6) e
      · exact absurd (h.hp.inj j k' _ _ b h5 hko2 hb h6) hjk
    · obtain ⟨_, o5, h5, _⟩ := back j o3 e hj
      obtain ⟨_, o6, h6, _⟩ := back j' o4 e' hj'
      rw [hgk j e] at hb
      rw [hgk j' e'] at hb'
      exact h.hp.inj j j' _ _ b h5 h6 hb hb'

/-- A store into a row of rows. -/
def mstoreVC (T : List (Nat × TE)) (Γ : Sy) (t : TypeId) (k i : Nat) (B : AV) (K : Sy → Prop) : Prop := match get? T t with
  | some te => match te.kind.isAgg with
    | false => match get? Γ.own k with
      | some (.mat e1 e2 τ fr xs st) => match B with
        | .inn k' i' => (k' = k ∧ i' = i ∧ te.size = 1 ∧ i < xs.length ∧ (st = none ∨ st = some i)) ∧ K ⟨Γ.tmps, set Γ.own k (.mat e1 e2 τ fr xs none)⟩
        | .own k' => match get? Γ.own k' with
          | some (.row e' τ' fr' ys) => match Ty.cast τ' τ ys, Nat.beq k k', ownNoI k Γ.own with
            | some zs, false, true => (e' = e2 ∧ te.size = 1 ∧ i < xs.length ∧ (st = none ∨ st = some i)) ∧
                K ⟨mapv (AV.purgeI k) (mapv (AV.purge k') Γ.tmps), set (mapv (Ob.purge k') (del Γ.own k')) k (.mat e1 e2 τ (fr && fr') (xs.set i zs) none)⟩
            | _, _, _ => False
          | _ => False
        | .lit (.slice none 0 0) => match ownNoI k Γ.own with
          | true => (te.size = 1 ∧ i < xs.length ∧ (st = none ∨ st = some i)) ∧ K ⟨mapv (AV.purgeI k) Γ.tmps, set Γ.own k (.mat e1 e2 τ fr (xs.set i []) none)⟩
          | false => False
        | _ => False
      | _ => False
    | true => False
  | none => False

theorem mstoreVC.sound {P : Program} {T : List (Nat × TE)} (hT : TOk P T) {c : Cx} {o : Oper} {Γ : Sy} {t : TypeId} {x y : Operand} {k i : Nat} {B : AV} {K : Sy → Prop} (ho : o.op = .store t x y) (hd0 : o.dst = none)
    (hx : Ev c Γ [] x (.madr k i)) (hy : Ev c Γ [] y B) (h : mstoreVC T Γ t k i B K) : ∃ Γ', Seq P c o Γ Γ' ∧ K Γ' := by
  unfold mstoreVC at h
  split at h
  · rename_i te hte
    have ht := hT _ _ hte
    split at h
    · split at h
      · rename_i hagg e1 e2 τ fr xs st hk
        -- the step
        have fin : ∀ Γ', te.size = 1 → i < xs.length → (∀ g a w, St c Γ g a w → Rp2 w (Oset Γ.own g) c.O0 g (a.eval y) B → (a.eval y).oneCell' = true ∧ ∀ b cs cells cells', w.ownsRow c.w0.heap.size e1 1 (hd (g k)) xs.length cells → (∀ j, j < xs.length → st ≠ some j → cells[j]? = some (sub (g k) j)) → blk (hd (g k)) = some b →
            (w.setRow b cs).ownsRow c.w0.heap.size e1 1 (hd (g k)) xs.length cells' → (∀ x ∈ cells', x.oneCell' = true) → (∀ j, cells'[j]? = if j = i then some (a.eval y) else cells[j]?) → ∃ g', St c Γ' g' a (w.setRow b cs)) → Seq P c o Γ Γ' := by
          intro Γ' h1 h2 hf g a w next Q hst hkk
          obtain ⟨b, n, cp, h3, h4⟩ := hx trivial Γ g a w rfl hst
          obtain ⟨⟨cells, c1, c2, c3⟩, _⟩ := hst.hp.ok k _ hk
          obtain ⟨h5, h6⟩ := hf g a w hst (hy trivial Γ g a w rfl hst)
          obtain ⟨cs, cells', g1, g2, g3, g4⟩ := outer_store (P := P) c1 c2 h3 h2 h5
          obtain ⟨g', h7⟩ := h6 b cs cells cells' c1 c3 (by rw [h3]; rfl) g2 g3 g4
          unfold Oper.wp
          have hc : (a.eval y).cells = #[a.eval y] := cells_one h5
          have : (execOp a.eval o).run P w = .ok .skip (w.setRow b cs) := by
            have h8 := run_storeVar (P := P) ht (w := w) (b := b) (p := i) (v := a.eval y) (by rw [hc, h1]; rfl)
            rw [hc] at h8
            simp [execOp, ho, h4, h8, g1]
          rw [this]
          simp only [Oper.upon, hd0, Act.put]
          exact hkk g' a _ h7
        -- what stays
        have stay : ∀ {g : Nat → Value} {w : World} {b : Nat} {cs : Array Value} {own' : List (Nat × Ob)} {g' : Nat → Value} {fr' : Bool}, blk (hd (g k)) = some b → (∀ b', Oset own' g' b' → Oset Γ.own g b') → (fr' = true → fr = true) →
            (∀ v A, RpS w (Av (Oset Γ.own g) c.O0 fr) v A → RpS (w.setRow b cs) (Av (Oset own' g') c.O0 fr') v A) := by
          intro g w b cs own' g' fr' hb hO hfr v A h
          refine h.mono fun b' y e2 fz hb' hn => ⟨?_, fun h' => ?_⟩
          · rw [setRow_other _ _ _ _ (fun e => hn (.inl ⟨k, _, hk, .inl (by rw [e, hb])⟩))]; exact hb'
          · rcases h' with h' | ⟨h', h''⟩
            · exact hn (.inl (hO b' h'))
            · exact hn (.inr ⟨hfr h', h''⟩)
        have other : ∀ {g : Nat → Value} {w : World} {b b' : Nat} {cs : Array Value}, blk (hd (g k)) = some b → ¬ Blk (g k) b' → (w.setRow b cs).heap[b']? = w.heap[b']? := by
          intro g w b b' cs hb hn
          exact setRow_other _ _ _ _ (fun e => hn (.inl (by rw [e, hb])))
        split at h
        · rename_i k' i'
          obtain ⟨⟨rfl, rfl, h1, h2, h3⟩, hK⟩ := h
          refine ⟨_, fin _ h1 h2 fun g a w hst hB => ?_, hK⟩
          have hB' : a.eval y = sub (g k') i' := hB
          obtain ⟨_, hin, hdist, hdo⟩ := hst.hp.ok k' _ hk
          have hone : (sub (g k') i').oneCell' = true := by
            obtain ⟨zs, hown, _⟩ := hin i'
            rcases hown.2 with ⟨h5, _⟩ | ⟨_, _, _, h5, _⟩ <;> rw [h5] <;> rfl
          refine ⟨by rw [hB']; exact hone, fun b cs cells cells' c1 c3 hb g2 g3 g4 => ⟨updg g k' (g k'), ?_⟩⟩
          refine hst.writeB (k := k') (o' := .mat e1 e2 τ fr xs none) (v' := g k') hk rfl rfl rfl (by simp [World.setRow]) (fun b' _ hn => other hb hn) ⟨fun t A hA => same_of fun j _ => by rw [updg_self], fun j o _ hj => Ob.same_of fun j _ => by rw [updg_self]⟩ (fun b' h => .inl h) ?_
          rw [updg_self]
          have hO : ∀ b', Oset (set Γ.own k' (.mat e1 e2 τ fr xs none)) g b' → Oset Γ.own g b' := fun b' h => Oset.set_sub hk h
          refine ⟨⟨cells', g2, g3, fun j hj _ => ?_⟩, fun j => ?_, hdist, hdo⟩
          · rw [g4]
            split
            · rename_i e; rw [e, hB']
            · rename_i e
              refine c3 j hj ?_
              rcases h3 with h3 | h3 <;> rw [h3]
              · simp
              · exact fun e' => e (by cases e'; rfl)
          · obtain ⟨zs', hown', hone', f, hf1, hf2⟩ := hin j
            refine ⟨zs', ownsRow_mono (fun b' hb' => setRow_other _ _ _ _ (fun e => hdo j b' hb' (by rw [e, hb]))) hown', hone', f, hf1, fun p x hx => stay hb hO (fun h => h) _ _ (hf2 p x hx)⟩
        · rename_i k'
          split at h
          · rename_i e' τ' fr' ys hk'
            split at h
            · rename_i zs hcast hbeq hnoI
              obtain ⟨⟨rfl, h1, h2, h3⟩, hK⟩ := h
              have hkk : k ≠ k' := Nat.ne_of_beq_eq_false hbeq
              unfold Ty.cast at hcast
              split at hcast
              · rename_i hτ
                subst hτ
                cases hcast
                refine ⟨_, fin _ h1 h2 fun g a w hst hB => ?_, hK⟩
                have hB' : a.eval y = g k' := hB
                obtain ⟨_, hin, hdist, hdo⟩ := hst.hp.ok k _ hk
                have hrow := hst.hp.ok k' _ hk'
                have hone : (g k').oneCell' = true := by
                  obtain ⟨zs, hown, _⟩ := hrow
                  rcases hown.2 with ⟨h5, _⟩ | ⟨_, _, _, h5, _⟩ <;> rw [h5] <;> rfl
                refine ⟨by rw [hB']; exact hone, fun b cs cells cells' c1 c3 hb g2 g3 g4 => ?_⟩
                obtain ⟨v', v1, v2, v3⟩ := setSub (g k) i (g k')
                refine ⟨updg g k v', ?_⟩
                have hvb : ∀ b', Blk v' b' → Blk (g k) b' ∨ Blk (g k') b' := by
                  rintro b' (h5 | ⟨j, h5⟩)
                  · rw [v1] at h5; exact .inl (.inl h5)
                  · by_cases hj : j = i
                    · rw [hj, v2] at h5; exact .inr (.of h5)
                    · rw [v3 j hj] at h5; exact .inl (.inr ⟨j, h5⟩)
                have apart : ∀ b' j, blk (g k') = some b' → ¬ blk (sub (g k) j) = some b' := fun b' j h5 h6 => hkk (hst.hp.inj k k' _ _ b' hk hk' (.inr ⟨j, h6⟩) (.of h5))
                have apart' : ∀ b', blk (g k') = some b' → ¬ blk (hd (g k)) = some b' := fun b' h5 h6 => hkk (hst.hp.inj k k' _ _ b' hk hk' (.inl h6) (.of h5))
                refine hst.absorb hkk hk hk' v1 hnoI rfl rfl rfl (by simp [World.setRow]) (fun b' _ hn => other hb hn) hvb ?_
                have hO : ∀ b', Oset (set (mapv (Ob.purge k') (del Γ.own k')) k (.mat e1 e' τ' (fr && fr') (xs.set i ys) none)) (updg g k v') b' → Oset Γ.own g b' := by
                  rintro b' ⟨j, o3, h5, h6⟩
                  by_cases hj : j = k
                  · subst hj
                    simp only [updg, if_true] at h6
                    rcases hvb b' h6 with h7 | h7
                    · exact ⟨j, _, hk, h7⟩
                    · exact ⟨k', _, hk', h7⟩
                  · rw [get?_set, if_neg hj, get?_mapv, get?_del] at h5
                    simp only [updg, hj, if_false] at h6
                    split at h5
                    · cases h5
                    · obtain ⟨o4, h7, _⟩ := Option.map_eq_some_iff.1 h5
                      exact ⟨j, o4, h7, h6⟩
                have hlen : (xs.set i ys).length = xs.length := List.length_set
                refine ⟨⟨cells', by rw [hlen, v1]; exact g2, g3, fun j hj _ => ?_⟩, fun j => ?_, fun j j' b' h5 h6 => ?_, fun j b' h5 h6 => ?_⟩
                · rw [hlen] at hj
                  rw [g4]
                  split
                  · rename_i e; rw [e, hB', v2]
                  · rename_i e
                    rw [v3 j e]
                    refine c3 j hj ?_
                    rcases h3 with h3 | h3 <;> rw [h3]
                    · simp
                    · exact fun e' => e (by cases e'; rfl)
                · show RowOk _ _ _ _ _ _ _ _ ((xs.set i ys).getD j [])
                  rw [getD_set h2]
                  by_cases hj : j = i
                  · subst hj
                    rw [if_pos rfl, v2]
                    obtain ⟨zs', hown', hone', f, hf1, hf2⟩ := hrow
                    refine ⟨zs', ownsRow_mono (fun b' hb' => setRow_other _ _ _ _ (fun e => apart' b' hb' (by rw [e, hb]))) hown', hone', f, hf1, fun p x hx => ?_⟩
                    refine (hf2 p x hx).mono fun b' y e2 fz hb' hn => ⟨?_, fun h' => ?_⟩
                    · rw [setRow_other _ _ _ _ (fun e => hn (.inl ⟨k, _, hk, .inl (by rw [e, hb])⟩))]; exact hb'
                    · rcases h' with h' | ⟨h', h''⟩
                      · exact hn (.inl (hO b' h'))
                      · exact hn (.inr ⟨by simp at h'; exact h'.2, h''⟩)
                  · rw [if_neg hj, v3 j hj]
                    obtain ⟨zs', hown', hone', f, hf1, hf2⟩ := hin j
                    exact ⟨zs', ownsRow_mono (fun b' hb' => setRow_other _ _ _ _ (fun e => hdo j b' hb' (by rw [e, hb]))) hown', hone', f, hf1, fun p x hx => stay hb hO (fun h => by simp at h; exact h.1) _ _ (hf2 p x hx)⟩
                · by_cases hj : j = i <;> by_cases hj' : j' = i
                  · rw [hj, hj']
                  · subst hj
                    rw [v2] at h5
                    rw [v3 j' hj'] at h6
                    exact (apart b' j' h5 h6).elim
                  · subst hj'
                    rw [v2] at h6
                    rw [v3 j hj] at h5
                    exact (apart b' j h6 h5).elim
                  · rw [v3 j hj] at h5
                    rw [v3 j' hj'] at h6
                    exact hdist j j' b' h5 h6
                · rw [v1] at h6
                  by_cases hj : j = i
                  · subst hj
                    rw [v2] at h5
                    exact apart' b' h5 h6
                  · rw [v3 j hj] at h5
                    exact hdo j b' h5 h6
              · cases hcast
            · exact h.elim
          · exact h.elim
        · split at h
          · rename_i hnoI
            obtain ⟨⟨h1, h2, h3⟩, hK⟩ := h
            refine ⟨_, fin _ h1 h2 fun g a w hst hB => ?_, hK⟩
            have hB' : a.eval y = .slice none 0 0 := hB.1
            obtain ⟨_, hin, hdist, hdo⟩ := hst.hp.ok k _ hk
            refine ⟨by rw [hB']; rfl, fun b cs cells cells' c1 c3 hb g2 g3 g4 => ?_⟩
            obtain ⟨v', v1, v2, v3⟩ := setSub (g k) i (.slice none 0 0)
            have hsub : ∀ j b', blk (sub v' j) = some b' → j ≠ i ∧ blk (sub (g k) j) = some b' := by
              intro j b' h5
              by_cases hj : j = i
              · rw [hj, v2] at h5; cases h5
              · rw [v3 j hj] at h5; exact ⟨hj, h5⟩
            have hvb : ∀ b', Blk v' b' → Blk (g k) b' ∨ w.heap.size ≤ b' := by
              rintro b' (h5 | ⟨j, h5⟩)
              · rw [v1] at h5; exact .inl (.inl h5)
              · exact .inl (.inr ⟨j, (hsub j b' h5).2⟩)
            refine ⟨updg g k v', hst.mwrite (k := k) (o' := .mat e1 e2 τ fr (xs.set i []) none) (v' := v') hk v1 hnoI rfl rfl rfl (by simp [World.setRow]) (fun b' _ hn => other hb hn) hvb ?_⟩
            have hO : ∀ b', Oset (set Γ.own k (.mat e1 e2 τ fr (xs.set i []) none)) (updg g k v') b' → Oset Γ.own g b' := by
              rintro b' ⟨j, o3, h5, h6⟩
              rw [get?_set] at h5
              by_cases hj : j = k
              · subst hj
                simp only [updg, if_true] at h6
                rcases h6 with h6 | ⟨p, h6⟩
                · rw [v1] at h6; exact ⟨j, _, hk, .inl h6⟩
                · exact ⟨j, _, hk, .inr ⟨p, (hsub p b' h6).2⟩⟩
              · rw [if_neg hj] at h5
                simp only [updg, hj, if_false] at h6
                exact ⟨j, o3, h5, h6⟩
            have hlen : (xs.set i []).length = xs.length := List.length_set
            refine ⟨⟨cells', by rw [hlen, v1]; exact g2, g3, fun j hj _ => ?_⟩, fun j => ?_, fun j j' b' h5 h6 => hdist j j' b' (hsub j b' h5).2 (hsub j' b' h6).2, fun j b' h5 h6 => ?_⟩
            · rw [hlen] at hj
              rw [g4]
              split
              · rename_i e; rw [e, hB', v2]
              · rename_i e
                rw [v3 j e]
                refine c3 j hj ?_
                rcases h3 with h3 | h3 <;> rw [h3]
                · simp
                · exact fun e' => e (by cases e'; rfl)
            · show RowOk _ _ _ _ _ _ _ _ ((xs.set i []).getD j [])
              rw [getD_set h2]
              by_cases hj : j = i
              · subst hj
                rw [if_pos rfl, v2]
                exact ⟨[], World.ownsRow_nil _ _ _ _, by simp, fun _ => undef, fun i hi => by simp at hi, fun i x hx => by simp at hx⟩
              · rw [if_neg hj, v3 j hj]
                obtain ⟨zs', hown', hone', f, hf1, hf2⟩ := hin j
                exact ⟨zs', ownsRow_mono (fun b' hb' => setRow_other _ _ _ _ (fun e => hdo j b' hb' (by rw [e, hb]))) hown', hone', f, hf1, fun p x hx => stay hb hO (fun h => h) _ _ (hf2 p x hx)⟩
            · rw [v1] at h6
              exact hdo j b' (hsub j b' h5).2 h6
          · exact h.elim
        · exact h.elim
      · exact h.elim
    · exact h.elim
  · exact h.elim

/-- A new row of rows, all nil. -/
def mmakeVC (T : List (Nat × TE)) (Γ : Sy) (n : Nat) (d : Nat) (t : TypeId) (L C : AV) (D : Nat) (K : Sy → Prop) : Prop := match get? T t with
  | some { kind := .sl e, .. } => match get? T e with
    | some { kind := .sl e', ty := some (.sl τ), .. } => match L, C with
      | .lit (.int _ l), .lit (.int _ m) => (D < n ∧ 0 ≤ l ∧ l ≤ m ∧ m ≤ 4294967296) ∧ K ⟨set (Γ.drop d).tmps D (.mown d), set (Γ.drop d).own d (.mat e e' τ true (List.replicate l.toNat []) none)⟩
      | _, _ => False
    | _ => False
  | _ => False
theorem mmakeVC.sound {P : Program} {T : List (Nat × TE)} (hT : TOk P T) {c : Cx} {o : Oper} {Γ : Sy} {d : Nat} {t : TypeId} {x y : Operand} {L C : AV} {D : Nat} {K : Sy → Prop}
    (ho : o.op = .makeSlice t x y) (hd0 : o.dst = some D) (hx : Ev c Γ [] x L) (hy : Ev c Γ [] y C) (h : mmakeVC T Γ c.n d t L C D K) : ∃ Γ', Seq P c o Γ Γ' ∧ K Γ' := by
  unfold mmakeVC at h
  split at h
  · rename_i e sz by_ ze ty ht
    have hu := (hT _ _ ht).sl rfl
    split at h
    · rename_i e' se be zz τ hte
      have he := hT _ _ hte
      obtain ⟨h1, h2, h3, h4, h5, h6⟩ := he.2.2 (.sl τ) rfl
      obtain ⟨i, hi, hz, hs, hb⟩ := he.info
      split at h
      · rename_i kl l km m
        obtain ⟨⟨hD, hl0, hlm, hm⟩, hK⟩ := h
        refine ⟨_, ?_, hK⟩
        intro g a w next Q hst hkk
        have hxv := hx trivial Γ g a w rfl hst
        have hyv := hy trivial Γ g a w rfl hst
        simp only [Rp2, Rp1] at hxv hyv
        dsimp only at h1 h2 h5 hz hs hb
        have hbytes : (i.bytes : Int) * m ≤ 281474976710656 := by
          rw [hb]
          have : (be : Int) * m ≤ 4096 * 4294967296 := Int.mul_le_mul (by omega) hm (by omega) (by omega)
          omega
        have hrun := run_make (P := P) w t e i zz hu hi hz kl km l m hl0 hlm hbytes (by omega)
        have hst1 := hst.drop d
        have hf := Γ.drop_free d
        have one : ∀ k o', get? [(d, Ob.mat e e' τ true (List.replicate l.toNat []) none)] k = some o' → k = d ∧ o' = .mat e e' τ true (List.replicate l.toNat []) none := by
          intro k o' hkb
          simp only [get?] at hkb
          split at hkb
          · rename_i hb; cases hkb; exact ⟨(Nat.eq_of_beq_eq_true hb).symm, rfl⟩
          · cases hkb
        have hsubv : ∀ j, sub (.tuple #[.slice (some ⟨w.heap.size, 0, none⟩) l.toNat m.toNat]) j = .slice none 0 0 := fun j => by simp [sub, Array.getD_eq_getD_getElem?]
        have hhdv : hd (.tuple #[.slice (some ⟨w.heap.size, 0, none⟩) l.toNat m.toNat]) = .slice (some ⟨w.heap.size, 0, none⟩) l.toNat m.toNat := rfl
        have hfresh : ∀ b', Blk (.tuple #[.slice (some ⟨w.heap.size, 0, none⟩) l.toNat m.toNat]) b' → w.heap.size ≤ b' := by
          rintro b' (h7 | ⟨j, h7⟩)
          · rw [hhdv] at h7; cases h7; exact Nat.le_refl _
          · rw [hsubv] at h7; cases h7
        have key := hst1.adopt (N := [(d, .mat e e' τ true (List.replicate l.toNat []) none)]) (gN := fun _ => .tuple #[.slice (some ⟨w.heap.size, 0, none⟩) l.toNat m.toNat]) (w' := w.alloc (.cells (madeCells zz.cells (m.toNat * i.size)) e))
          (Keep.alloc w _) (fun k o' hk => by rw [(one k o' hk).1]; exact hf) (fun k o' b' hk hb' => hfresh b' hb') (fun k k' o1 o2 b' h1 h2 _ _ => by rw [(one k o1 h1).1, (one k' o2 h2).1]) (fun k o' hk => ?_)
        · unfold Oper.wp
          have : (execOp a.eval o).run P w = .ok (.value (.slice (some ⟨w.heap.size, 0, none⟩) l.toNat m.toNat)) (w.alloc (.cells (madeCells zz.cells (m.toNat * i.size)) e)) := by simp [execOp, ho, hxv.1, hyv.1, hrun]
          rw [this]
          refine hkk (mg [(d, .mat e e' τ true (List.replicate l.toNat []) none)] (fun _ => .tuple #[.slice (some ⟨w.heap.size, 0, none⟩) l.toNat m.toNat]) g) (a.put o.dst _) _ ?_
          rw [hd0]
          refine (key.put (t := D) (A := .mown d) hD (show _ = hd (mg _ _ g d) by simp [mg, get?]; rfl)).congr (fun _ => rfl) (fun k => ?_)
          rw [get?_set]
          simp only [get?_append, get?]
          by_cases hkd : k = d
          · subst hkd; simp
          · have : Nat.beq d k = false := by
              cases hb : Nat.beq d k with
              | false => rfl
              | true => exact absurd (Nat.eq_of_beq_eq_true hb).symm hkd
            simp [hkd, this]
        · rw [(one k o' hk).2]
          have hlen : (List.replicate l.toNat ([] : List τ.T)).length = l.toNat := by simp
          have hsz1 : i.size = 1 := by rw [hs, h2]; rfl
          have hzc : zz.cells = #[.slice none 0 0] := by
            have : zz.cells.toList = [.slice none 0 0] := h1
            rw [← Array.toArray_toList (xs := zz.cells), this]
          have cell : ∀ p, p < l.toNat → (madeCells zz.cells (m.toNat * i.size))[p]? = some (.slice none 0 0) := by
            intro p hp
            rw [madeCells_get _ _ _ (by rw [hsz1]; omega) (by rw [hzc]; simp), hzc]
            simp [Nat.mod_one]
          refine ⟨⟨List.replicate l.toNat (.slice none 0 0), ?_, fun x hx => ?_, fun j hj _ => ?_⟩, fun j => ?_, fun j j' b' h7 _ => ?_, fun j b' h7 _ => ?_⟩
          · rw [hlen]
            refine ⟨by simp, .inr ⟨w.heap.size, m.toNat, madeCells zz.cells (m.toNat * i.size), rfl, hst.keep.size, heap_alloc_new w _, by omega, by unfold maxLen; omega, by rw [size_madeCells, hsz1], ?_⟩⟩
            apply List.ext_getElem?
            intro p
            rw [List.getElem?_take, List.getElem?_replicate, Nat.mul_one]
            split
            · rename_i hp; simpa using cell p hp
            · rfl
          · rw [List.eq_of_mem_replicate hx]; rfl
          · rw [hlen] at hj
            rw [List.getElem?_replicate, if_pos hj, hsubv]
          · have : (List.replicate l.toNat ([] : List τ.T)).getD j [] = [] := by
              rw [List.getD_eq_getElem?_getD, List.getElem?_replicate]; split <;> rfl
            rw [this, hsubv]
            exact ⟨[], World.ownsRow_nil _ _ _ _, by simp, fun _ => undef, fun i hi => by simp at hi, fun i x hx => by simp at hx⟩
          · rw [hsubv] at h7; cases h7
          · rw [hsubv] at h7; cases h7
      · exact h.elim
    · exact h.elim
  · exact h.elim
end Go.Vc
