/- Composite literals, zero variables. No condition. -/
import Derived.Test.YtohfemfgnohhdaaVc11
namespace Go.Vc
set_option linter.unusedVariables false
set_option linter.unusedSimpArgs false

theorem fill_seq (size : Nat) : ∀ (vs : List Value) (k : Nat) (cells : Array Value), (∀ v ∈ vs, v.cells.size = size) → (k + vs.length) * size ≤ cells.size →
    ∃ res, Instr.fill (fun i => some (i * size, size)) cells (vs.zipIdx k |>.map fun x => (x.2, x.1)) = some res ∧ res.size = cells.size ∧
      (∀ p, p < k * size → res[p]? = cells[p]?) ∧ ∀ i v j, vs[i]? = some v → j < size → res[(k + i) * size + j]? = v.cells[j]?
  | [], k, cells, _, _ => ⟨cells, rfl, rfl, fun _ _ => rfl, fun i v j h => by simp at h⟩
  | v :: vs, k, cells, hv, hb => by
    have h1 : v.cells.size = size := hv v (by simp)
    have hk : (k + 1) * size ≤ cells.size := Nat.le_trans (Nat.mul_le_mul_right _ (by simp)) hb
    have hk' : k * size + size = (k + 1) * size := by rw [Nat.add_mul, Nat.one_mul]
    obtain ⟨res, h2, h3, h4, h5⟩ := fill_seq size vs (k + 1) (lay cells (k * size) v.cells) (fun u hu => hv u (by simp [hu])) (by rw [lay_size]; simp at hb; rw [show k + 1 + vs.length = k + (vs.length + 1) from by omega]; exact hb)
    refine ⟨res, ?_, by rw [h3, lay_size], fun p hp => ?_, fun i u j hu hj => ?_⟩
    · simp only [List.zipIdx_cons, List.map_cons]
      rw [fill_cons rfl h1 (by rw [h1]; omega)]
      exact h2
    · rw [h4 p (by omega), lay_get]
      rw [if_neg (by omega)]
    · cases i with
      | zero =>
        simp at hu
        subst hu
        rw [Nat.add_zero, h4 _ (by omega), lay_get, if_pos (by rw [h1]; omega)]
        congr 1
        omega
      | succ i =>
        have := h5 i u j (by simpa using hu) hj
        rwa [show k + 1 + i = k + (i + 1) from by omega] at this

def seqIdx : Nat → List (Nat × Operand) → Bool
  | _, [] => true
  | k, (i, _) :: r => Nat.beq i k && seqIdx (k + 1) r
theorem seqIdx_eq (ρ : Operand → Value) : ∀ (l : List (Nat × Operand)) (k : Nat), seqIdx k l = true → l.map (fun x => (x.1, ρ x.2)) = ((l.map fun x => ρ x.2).zipIdx k).map fun x => (x.2, x.1)
  | [], _, _ => rfl
  | (i, x) :: r, k, h => by
    simp only [seqIdx, Bool.and_eq_true] at h
    have := Nat.eq_of_beq_eq_true h.1
    subst this
    simp [seqIdx_eq ρ r _ h.2]

/-- A composite literal of a row. -/
def litVC (T : List (Nat × TE)) (fz : Bool) (G : Path) (d : Nat) (t : TypeId) (len : Nat) (parts : List (Nat × Operand)) (l : List AV) (K : AV → List (Nat × Ob) → Prop) : Prop := match get? T t with
  | some { kind := .sl e, .. } => match get? T e with
    | some { ty := some τ, .. } => match decs τ l with
      | some (xs, fr) => (seqIdx 0 parts = true ∧ len = parts.length ∧ Nat.ble (len * τ.size) 16777216 = true) ∧ (match fz, G with
        | false, [] => K (.own d) [(d, .row e τ fr xs)]
        | _, _ => K (.st fr (.arr τ xs)) [])
      | none => False
    | _ => False
  | _ => False

theorem litVC.sound {P : Program} {T : List (Nat × TE)} (hT : TOk P T) {c : Cx} {o : Oper} {Γ : Sy} {fz : Bool} {G : Path} {d : Nat} {t : TypeId} {len : Nat} {parts : Array (Nat × Operand)} {l : List AV} {K : AV → List (Nat × Ob) → Prop}
    (ho : o.op = .buildSlice t len parts) (hl : l.length = parts.toList.length) (hx : ∀ (i : Nat) (x : Operand) (A : AV), (parts.toList.map (·.2))[i]? = some x → l[i]? = some A → Ev c Γ G x A)
    (h : litVC T fz G d t len parts.toList l K) : ∃ R N, (G.ok → Does P c o Γ R N) ∧ (G ≠ [] ∨ fz = true → N = []) ∧ K R N := by
    unfold litVC at h
    split at h
    · rename_i e sz by_ ze ty ht
      have hu := (hT _ _ ht).sl rfl
      split at h
      · rename_i ke se be zz τ hte
        have he := hT _ _ hte
        obtain ⟨h1, h2, h3, h4, h5, h6⟩ := he.2.2 τ rfl
        obtain ⟨i0, hi, hz, hs, hb⟩ := he.info
        split at h
        · rename_i xs fr hdec
          obtain ⟨⟨hseq, hlen, hsmall⟩, hK⟩ := h
          obtain ⟨hd1, hd2⟩ := decs_ok hdec
          have core : G.ok → ∀ (d : Nat) (Γ' : Sy) (g : Nat → Value) (a : Act) (w : World), (∀ x ∈ o.op.operands, look Γ' x = look Γ x) → (∀ k b, get? Γ.own k = some b → get? Γ'.own k = some b) → St c Γ' g a w →
              ∃ v w', (execOp a.eval o).run P w = .ok (.value v) w' ∧ Keep w w' ∧ blk v = some w.heap.size ∧
                OwnOk w' c.w0.heap.size (Oset ([(d, .row e τ fr xs)] ++ Γ'.own) (mg [(d, .row e τ fr xs)] (fun _ => v) g)) c.O0 (mg [(d, .row e τ fr xs)] (fun _ => v) g) v (.row e τ fr xs) := by
            intro hG d Γ' g a w hlk hown hst
            dsimp only at h1 h2 h5 hz hs hb
            have hsz : i0.size = τ.size := by rw [hs]; exact h2
            have hzs : zz.cells.size = τ.size := by rw [← zcells_len τ h3, ← h1]; simp
            -- the parts' values
            have hev : ∀ (i : Nat) (x : Operand) (A : AV), (parts.toList.map (·.2))[i]? = some x → l[i]? = some A → Rp2 w (Oset Γ'.own g) c.O0 g (a.eval x) A := fun i x A h7 h8 =>
              hx i x A h7 h8 hG Γ' g a w (hlk x (by
                obtain ⟨q, hq, hq2⟩ := List.mem_map.1 (List.mem_of_getElem? h7)
                simp [ho, Op.operands]
                exact ⟨q.1, by rw [← hq2]; simpa using hq⟩)) hst
            let vs := parts.toList.map fun x => a.eval x.2
            have hvs : ∀ i (hi : i < vs.length), ∃ (A : AV) (x : τ.T) (b : Bool), xs[i]? = some x ∧ dec τ A = some (x, b) ∧ (fr = true → b = true) ∧ Rp2 w (Oset Γ'.own g) c.O0 g vs[i] A := by
              intro i hi
              have hi2 : i < parts.toList.length := by simpa [vs] using hi
              have hA : l[i]? = some l[i] := List.getElem?_eq_getElem (by omega)
              have hxx : xs[i]? = some xs[i] := List.getElem?_eq_getElem (by omega)
              obtain ⟨b, h7, h8⟩ := hd2 i _ _ hA hxx
              refine ⟨_, _, b, hxx, h7, h8, ?_⟩
              have := hev i (parts.toList[i]).2 _ (by rw [List.getElem?_map, List.getElem?_eq_getElem hi2]; rfl) hA
              simpa [vs] using this
            have hvsz : ∀ v ∈ vs, v.cells.size = τ.size := by
              intro v hv
              obtain ⟨i, hi, rfl⟩ := List.mem_iff_getElem.1 hv
              obtain ⟨A, x, b, _, h8, h9, h10⟩ := hvs i hi
              exact (dec_ok (φ := false) h8 (fun h => by cases h) h3 h10).2.1
            have hvl : vs.length = len := by simp [vs, hlen]
            let cells0 : Array Value := (Array.range (len * i0.size)).map fun k => (if len * i0.size = 0 then (#[] : Array Value) else zz.cells)[k % (if len * i0.size = 0 then (#[] : Array Value) else zz.cells).size]!
            have hc0 : cells0.size = len * τ.size := by simp [cells0, hsz]
            obtain ⟨res, hr1, hr2, _, hr3⟩ := fill_seq τ.size vs 0 cells0 hvsz (by rw [hc0, hvl]; simp)
            have hparts : (parts.map fun x => (x.1, a.eval x.2)).toList = (vs.zipIdx 0).map fun x => (x.2, x.1) := by
              rw [Array.toList_map]
              exact seqIdx_eq a.eval parts.toList 0 hseq
            have hble : ¬ (len * i0.size > 2 ^ 24) := by
              have := Nat.le_of_ble_eq_true hsmall
              rw [hsz]
              omega
            have hrun : (Instr.buildSlice t len (parts.map fun x => (x.1, a.eval x.2))).run P w = .ok (.slice (some ⟨w.heap.size, 0, none⟩) len len) (w.alloc (.cells res e)) := by
              have hfill : Instr.fill (fun i => some (i * i0.size, i0.size)) cells0 (parts.map fun x => (x.1, a.eval x.2)).toList = some res := by rw [hsz, hparts]; exact hr1
              unfold Instr.buildSlice
              by_cases hz0 : len * i0.size = 0
              · simp only [cells0, hz0, if_true] at hfill
                simp only [Sem.run_bind, run_underlying hu, Result.andThen_ok, sizeOf, typeInfo, run_program, hi, Sem.run_pure, hz0]
                simp at hfill ⊢
                rw [hfill]
                simp [newRow]
              · simp only [cells0, hz0, if_false] at hfill
                simp only [Sem.run_bind, run_underlying hu, Result.andThen_ok, sizeOf, typeInfo, run_program, hi, Sem.run_pure, hble, hz0, if_false, zeroValue, hz]
                rw [hfill]
                simp [newRow]
            refine ⟨.slice (some ⟨w.heap.size, 0, none⟩) len len, w.alloc (.cells res e), ?_, Keep.alloc w _, rfl, ?_⟩
            · simp only [execOp, ho, Sem.run_bind]
              have : (parts.map fun (i, x) => (i, a.eval x)) = parts.map fun x => (x.1, a.eval x.2) := rfl
              rw [this, hrun]
              rfl
            · have hxl : xs.length = len := by omega
              have cell : ∀ i j, i < xs.length → j < τ.size → ∀ (hi : i < vs.length), res[i * τ.size + j]? = vs[i].cells[j]? := fun i j hi hj hi' => by
                have := hr3 i vs[i] j (List.getElem?_eq_getElem hi') hj
                simpa using this
              refine ⟨res.toList, ⟨by simp [hr2, hc0, hxl], .inr ⟨w.heap.size, len, res, by rw [hxl], hst.keep.size, heap_alloc_new w _, by omega, ?_, by rw [hr2, hc0], by
                rw [List.take_of_length_le (by simp [hr2, hc0, hxl])]⟩⟩, fun v hv => ?_, fun i => vs.getD i undef, fun i hi => ?_, fun i x hx' => ?_⟩
              · have := Nat.le_of_ble_eq_true hsmall
                have h9 : len ≤ len * τ.size := Nat.le_mul_of_pos_right _ h4
                unfold maxLen
                omega
              · obtain ⟨p, hp, rfl⟩ := List.mem_iff_getElem.1 hv
                have hp' : p < len * τ.size := by simpa [hr2, hc0] using hp
                have hi' : p / τ.size < vs.length := by rw [hvl]; exact Nat.div_lt_of_lt_mul (by rw [Nat.mul_comm]; exact hp')
                have hj' : p % τ.size < τ.size := Nat.mod_lt _ h4
                have := cell (p / τ.size) (p % τ.size) (by omega) hj' hi'
                rw [Nat.mul_comm, Nat.div_add_mod] at this
                obtain ⟨A, x, b, _, h8, _, h10⟩ := hvs _ hi'
                have h11 := (dec_ok (φ := false) h8 (fun h => by cases h) h3 h10).2.2
                have h12 : res.toList[p]? = vs[p / τ.size].cells[p % τ.size]? := by simpa using this
                rw [List.getElem?_eq_getElem hp] at h12
                exact h11 _ (List.mem_of_getElem? (by simpa using h12.symm))
              · have hi' : i < vs.length := by omega
                have hg : vs.getD i undef = vs[i] := by simp [List.getD, hi']
                dsimp only
                rw [hg]
                refine ⟨hvsz _ (List.getElem_mem _), fun j hj => ?_⟩
                have := cell i j hi hj hi'
                simpa using this
              · have hi : i < xs.length := (List.getElem?_eq_some_iff.1 hx').1
                have hi' : i < vs.length := by omega
                have hg : vs.getD i undef = vs[i] := by simp [List.getD, hi']
                dsimp only
                rw [hg]
                obtain ⟨A, y, b, h7, h8, h9, h10⟩ := hvs i hi'
                rw [hx'] at h7
                cases h7
                have := (dec_ok h8 h9 h3 h10).1
                exact this.mono' (hst.hp.new_mono rfl) (fun _ _ _ _ _ _ h => h)
          cases fz with
          | true => exact ⟨_, _, Does.newF core, fun _ => rfl, hK⟩
          | false =>
            cases G with
            | cons _ _ => exact ⟨_, _, Does.newF core, fun _ => rfl, hK⟩
            | nil =>
              refine ⟨_, _, Does.new (d := d) fun hG Γ' g a w hlk hown _ hst => ?_, fun h => by simp at h, hK⟩
              obtain ⟨v, w', h11, h12, h13, h14⟩ := core hG d Γ' g a w hlk hown hst
              exact ⟨v, w', h11, h12, h13, h14, .inl rfl⟩
        · exact h.elim
      · exact h.elim
    · exact h.elim
end Go.Vc
