/- Zero variables, struct literals, copy, freezing. No condition. -/
import Derived.Test.YtohfemfgnohhdaaVc14
namespace Go.Vc
set_option linter.unusedVariables false
set_option linter.unusedSimpArgs false

def lits : List Value → List AV
  | [] => []
  | v :: r => .lit v :: lits r
def allOne : List Value → Bool
  | [] => true
  | v :: r => v.oneCell' && allOne r
theorem lits_get : ∀ {l : List Value} {i : Nat}, (lits l)[i]? = (l[i]?).map AV.lit
  | [], i => by simp [lits]
  | v :: r, i => by
    cases i with
    | zero => simp [lits]
    | succ i => simp [lits, lits_get (l := r) (i := i)]
theorem lits_len : ∀ {l : List Value}, (lits l).length = l.length
  | [] => rfl
  | v :: r => by simp [lits, lits_len (l := r)]
theorem allOne_get : ∀ {l : List Value} {i : Nat} {v : Value}, allOne l = true → l[i]? = some v → v.oneCell' = true
  | [], i, v, _, h => by simp at h
  | u :: r, i, v, hl, h => by
    simp only [allOne, Bool.and_eq_true] at hl
    cases i with
    | zero => simp at h; subst h; exact hl.1
    | succ i => exact allOne_get hl.2 (by simpa using h)

/-- A zero variable. -/
def allocVC (T : List (Nat × TE)) (G : Path) (d : Nat) (t : TypeId) (K : AV → List (Nat × Ob) → Prop) : Prop := match G with
  | [] => match get? T t with
    | some te => match te.kind.isAgg with
      | true => allOne te.zero.cells.toList = true ∧ K (.padr d 0) [(d, .box (lits te.zero.cells.toList))]
      | false => te.zero.oneCell' = true ∧ K (.padr d 0) [(d, .box1 (.lit te.zero))]
    | none => False
  | _ => False
theorem allocVC.sound {P : Program} {T : List (Nat × TE)} (hT : TOk P T) {c : Cx} {o : Oper} {Γ : Sy} {G : Path} {d : Nat} {t : TypeId} {K : AV → List (Nat × Ob) → Prop} (ho : o.op = .alloc t)
    (h : allocVC T G d t K) : ∃ R N, (G.ok → Does P c o Γ R N) ∧ (G ≠ [] → N = []) ∧ K R N := by
  cases G with
  | cons _ _ => exact h.elim
  | nil =>
    unfold allocVC at h
    simp only at h
    split at h
    · rename_i te hte
      obtain ⟨i, hi, hz, _, _⟩ := (hT _ _ hte).info
      have go : ∀ ob : Ob, (∀ (w : World) (O O0 : Nat → Prop) (g : Nat → Value) (base : Nat), base ≤ w.heap.size → OwnOk (w.alloc (.cells te.zero.cells t)) base O O0 g (.pointer (some ⟨w.heap.size, 0, none⟩)) ob) → (Path.ok [] → Does P c o Γ (.padr d 0) [(d, ob)]) := by
        intro ob hob
        refine Does.new fun hG Γ' g a w hl hown hf hst => ⟨.pointer (some ⟨w.heap.size, 0, none⟩), w.alloc (.cells te.zero.cells t), ?_, Keep.alloc w _, rfl, hob w _ _ _ _ hst.keep.size, .inr ⟨rfl, _, rfl⟩⟩
        simp [execOp, ho, Instr.alloc, zeroValue, typeInfo, hi, hz, newVar, newRow]
      split at h
      · refine ⟨_, _, go _ fun w O O0 g base hb => ?_, fun h => absurd rfl h, h.2⟩
        refine ⟨_, _, t, rfl, hb, heap_alloc_new w _, by rw [lits_len]; simp, fun q B hB => ?_⟩
        rw [lits_get] at hB
        obtain ⟨v, hv, rfl⟩ := Option.map_eq_some_iff.1 hB
        exact ⟨v, by simpa using hv, allOne_get h.1 hv, rfl, allOne_get h.1 hv⟩
      · refine ⟨_, _, go _ fun w O O0 g base hb => ?_, fun h => absurd rfl h, h.2⟩
        exact ⟨_, te.zero, t, rfl, hb, by rw [← cells_one h.1]; exact heap_alloc_new w _, h.1, rfl, h.1⟩
    · exact h.elim

/-- A struct literal. -/
def layAll (T : List (Nat × TE)) (own : List (Nat × Ob)) (offs : List (Nat × TypeId)) : List (Nat × AV) → List AV → Option (List AV)
  | [], l => some l
  | (i, A) :: r, l => match offs[i]? with
    | some (off, ft) => match get? T ft with
      | some te => match Nat.beq (leaves A).length te.size && Nat.ble (off + te.size) l.length && lv1 (leaves A) && (isStrct A || oneOk own A) with
        | true => layAll T own offs r (l.take off ++ leaves A ++ l.drop (off + te.size))
        | false => none
      | none => none
    | none => none
def allTys (T : List (Nat × TE)) : List (Nat × TypeId) → Bool
  | [] => true
  | (_, t) :: r => (get? T t).isSome && allTys T r
def buildVC (T : List (Nat × TE)) (own : List (Nat × Ob)) (t : TypeId) (parts : List (Nat × Operand)) (l : List AV) (K : AV → Prop) : Prop := match get? T t with
  | some { kind := .strct offs, zero := z, .. } => match layAll T own offs ((parts.map (·.1)).zip l) (lits z.cells.toList) with
    | some m => (allOne z.cells.toList = true ∧ allTys T offs = true) ∧ K (.strct m)
    | none => False
  | _ => False

theorem run_mapM_list {α β : Type} {P : Program} {w : World} {f : α → Sem β} {h : α → β} : ∀ (l : List α), (∀ x ∈ l, (f x).run P w = .ok (h x) w) → (l.mapM f).run P w = .ok (l.map h) w
  | [], _ => by simp [List.mapM_nil]
  | x :: r, hx => by
    simp only [List.mapM_cons, Sem.run_bind, hx x (by simp), Result.andThen_ok, run_mapM_list r (fun y hy => hx y (by simp [hy])), Sem.run_pure, List.map_cons]
theorem run_mapM_arr {α β : Type} {P : Program} {w : World} {f : α → Sem β} {h : α → β} (l : Array α) (hx : ∀ x ∈ l, (f x).run P w = .ok (h x) w) : (l.mapM f).run P w = .ok (l.map h) w := by
  have h1 : (l.mapM f) = List.toArray <$> l.toList.mapM f := by
    rw [Array.mapM_eq_mapM_toList]
  rw [h1, Sem.run_map, run_mapM_list l.toList (fun x hx' => hx x (by simpa using hx'))]
  simp only [Result.andThen_ok]
  congr 1
  apply Array.ext'
  simp

theorem leaves_single {A : AV} (h : isStrct A = false) : leaves A = [A] := by
  cases A with
  | strct => cases h
  | st fr S => cases S <;> first | rfl | (cases h; done)
  | _ => rfl
theorem layAll_ok {T : List (Nat × TE)} {c : Cx} {Γ Γ' : Sy} {g : Nat → Value} {a : Act} {w : World} (hst : St c Γ' g a w) (hown : ∀ k b, get? Γ.own k = some b → get? Γ'.own k = some b) {offs : List (Nat × TypeId)} {place : Nat → Option (Nat × Nat)}
    (hplace : ∀ (i off ft : Nat) (te : TE), offs[i]? = some (off, ft) → get? T ft = some te → place i = some (off, te.size)) :
    ∀ (parts : List (Nat × AV)) (vs : List (Nat × Value)) (l m : List AV) (cells : Array Value), layAll T Γ.own offs parts l = some m → vs.length = parts.length →
      (∀ (q : Nat) (p : Nat × AV) (u : Nat × Value), parts[q]? = some p → vs[q]? = some u → u.1 = p.1 ∧ Rp2 w (Oset Γ'.own g) c.O0 g u.2 p.2) →
      cells.size = l.length → (∀ (q : Nat) (B : AV), l[q]? = some B → ∃ x, cells[q]? = some x ∧ x.oneCell' = true ∧ Rp1 w (Oset Γ'.own g) c.O0 g x B) →
      ∃ res, Instr.fill place cells vs = some res ∧ res.size = m.length ∧ ∀ (q : Nat) (B : AV), m[q]? = some B → ∃ x, res[q]? = some x ∧ x.oneCell' = true ∧ Rp1 w (Oset Γ'.own g) c.O0 g x B := by
  intro parts
  induction parts with
  | nil =>
    intro vs l m cells h hl hv hs hc
    cases h
    have : vs = [] := List.eq_nil_of_length_eq_zero hl
    subst this
    exact ⟨cells, rfl, hs, hc⟩
  | cons p r ih =>
    intro vs l m cells h hl hv hs hc
    obtain ⟨i, A⟩ := p
    cases vs with
    | nil => simp at hl
    | cons u vs =>
      obtain ⟨h1, h2⟩ := hv 0 (i, A) u rfl rfl
      obtain ⟨i', v⟩ := u
      dsimp only at h1 h2
      subst h1
      simp only [layAll] at h
      split at h
      · rename_i off ft hoff
        split at h
        · rename_i te hte
          split at h
          · rename_i hb
            simp only [Bool.and_eq_true] at hb
            obtain ⟨⟨⟨hb1, hb2⟩, hb3⟩, hb4⟩ := hb
            have hb1 := Nat.eq_of_beq_eq_true hb1
            have hb2 := Nat.le_of_ble_eq_true hb2
            -- the leaves of the value
            have hv2 : v.cells.size = (leaves A).length ∧ ∀ (q : Nat) (B : AV) (x : Value), (leaves A)[q]? = some B → v.cells[q]? = some x → Rp1 w (Oset Γ'.own g) c.O0 g x B ∧ x.oneCell' = true := by
              cases hsa : isStrct A with
              | true =>
                obtain ⟨cs, rfl, h5, h6⟩ := leaves_ok hsa h2
                exact ⟨h5, h6⟩
              | false =>
                have hla : leaves A = [A] := leaves_single hsa
                simp only [hsa, Bool.false_or] at hb4
                have hone' : oneOk Γ'.own A = true := by
                  cases A <;> simp only [oneOk] at hb4 ⊢ <;> first | exact hb4 | skip
                  split at hb4
                  · rename_i hk; rw [hown _ _ hk]
                  · cases hb4
                have hov := oneOk_ok hst hone' h2
                rw [cells_one hov, hla]
                refine ⟨rfl, fun q B x hB hx => ?_⟩
                cases q with
                | succ q => simp at hB
                | zero =>
                  simp at hB hx
                  subst hB; subst hx
                  refine ⟨lv1_get (l := [A]) (i := 0) (by rw [← hla]; exact hb3) rfl h2, hov⟩
            obtain ⟨h3, h4⟩ := hv2
            have hfill : Instr.fill place cells ((i', v) :: vs) = Instr.fill place (lay cells off v.cells) vs := fill_cons (hplace _ _ _ _ hoff hte) (by omega) (by omega)
            rw [hfill]
            refine ih vs _ m (lay cells off v.cells) h (by simpa using hl) (fun q p u hp hu => hv (q + 1) p u (by simpa using hp) (by simpa using hu)) (by rw [lay_size, hs]; simp; omega) (fun q B hB => ?_)
            rw [lay_get]
            by_cases hq : off ≤ q ∧ q < off + v.cells.size ∧ q < cells.size
            · rw [if_pos hq]
              have hB' : (leaves A)[q - off]? = some B := by
                rw [List.append_assoc, List.getElem?_append_right (by simp; omega), List.getElem?_append_left (by simp; omega)] at hB
                rw [← hB]; congr 1; simp; omega
              have hx' : v.cells[q - off]? = some (v.cells[q - off]'(by omega)) := by simp
              obtain ⟨h5, h6⟩ := h4 _ B _ hB' hx'
              exact ⟨_, hx', h6, h5⟩
            · rw [if_neg hq]
              apply hc
              rw [← hB]
              by_cases hlo : q < off
              · rw [List.append_assoc, List.getElem?_append_left (by simp; omega), List.getElem?_take, if_pos hlo]
              · have hql : q < l.length → off + te.size ≤ q := by omega
                by_cases hql' : q < l.length
                · rw [List.getElem?_append_right (by simp; omega), List.getElem?_drop]
                  congr 1
                  simp; omega
                · rw [List.getElem?_eq_none (l := List.take off l ++ leaves A ++ List.drop (off + te.size) l) (by simp only [List.length_append, List.length_take, List.length_drop]; omega), List.getElem?_eq_none (l := l) (by omega)]
          · cases h
        · cases h
      · cases h

theorem allTys_get {T : List (Nat × TE)} : ∀ {l : List (Nat × TypeId)} {x : Nat × TypeId}, allTys T l = true → x ∈ l → ∃ te, get? T x.2 = some te
  | [], x, _, h => by simp at h
  | y :: r, x, hl, h => by
    obtain ⟨o, t⟩ := y
    simp only [allTys, Bool.and_eq_true] at hl
    rcases List.mem_cons.1 h with rfl | h
    · exact Option.isSome_iff_exists.1 hl.1
    · exact allTys_get hl.2 h

theorem buildVC.sound {P : Program} {T : List (Nat × TE)} (hT : TOk P T) {c : Cx} {o : Oper} {Γ : Sy} {G : Path} {t : TypeId} {parts : Array (Nat × Operand)} {l : List AV} {K : AV → Prop}
    (ho : o.op = .build t parts) (hl : l.length = parts.toList.length) (hx : ∀ (i : Nat) (x : Operand) (A : AV), (parts.toList.map (·.2))[i]? = some x → l[i]? = some A → Ev c Γ G x A)
    (h : buildVC T Γ.own t parts.toList l K) : ∃ R, (G.ok → Does P c o Γ R []) ∧ K R := by
  unfold buildVC at h
  split at h
  · rename_i offs sz by_ z ty ht
    obtain ⟨fs, hu, hfs⟩ := (hT _ _ ht).strct rfl
    obtain ⟨i0, hi, hz, _, _⟩ := (hT _ _ ht).info
    split at h
    · rename_i m hm
      obtain ⟨⟨hone, htys⟩, hK⟩ := h
      refine ⟨_, fun hG => Does.value fun Γ' g a w hlk hown hst => ?_, hK⟩
      have hsz : ∀ f ∈ fs, ∃ te, get? T f.type = some te := by
        intro f hf
        exact allTys_get htys (x := (f.offset, f.type)) (by rw [← hfs]; exact List.mem_map.2 ⟨f, by simpa using hf, rfl⟩)
      let sof : Field → Nat := fun f => ((get? T f.type).map (·.size)).getD 0
      have hmap : (fs.mapM fun (f : Field) => do pure (f.offset, ← sizeOf f.type)).run P w = .ok (fs.map fun f => (f.offset, sof f)) w := by
        refine run_mapM_arr fs fun f hf => ?_
        obtain ⟨te, hte⟩ := hsz f hf
        obtain ⟨j, hj, _, hs, _⟩ := (hT _ _ hte).info
        simp [sizeOf, typeInfo, hj, hs, sof, hte]
      have hplace : ∀ (i off ft : Nat) (te : TE), offs[i]? = some (off, ft) → get? T ft = some te → ((fs.map fun f => (f.offset, sof f))[i]?) = some (off, te.size) := by
        intro i off ft te h1 h2
        rw [← hfs, List.getElem?_map] at h1
        obtain ⟨f, h3, h4⟩ := Option.map_eq_some_iff.1 h1
        simp only [Prod.mk.injEq] at h4
        have : fs[i]? = some f := by simpa using h3
        simp [this, h4.1, sof, h4.2, h2]
      obtain ⟨res, g1, g2, g3⟩ := layAll_ok hst hown (place := fun i => (fs.map fun f => (f.offset, sof f))[i]?) hplace _ ((parts.map fun x => (x.1, a.eval x.2)).toList) _ m z.cells hm (by simp [hl]) (fun q p u hp hu => by
        have hq : q < parts.size := by
          have := (List.getElem?_eq_some_iff.1 hu).1
          simpa using this
        have hq2 : q < l.length := by rw [hl]; simpa using hq
        have hp' : p = (parts[q].1, l[q]) := by
          have : ((parts.toList.map (·.1)).zip l)[q]? = some (parts[q].1, l[q]) := by
            simp [List.getElem?_zip_eq_some, hq, hq2]
          rw [this] at hp
          cases hp; rfl
        have hu' : u = (parts[q].1, a.eval parts[q].2) := by
          have : ((parts.map fun x => (x.1, a.eval x.2)).toList)[q]? = some (parts[q].1, a.eval parts[q].2) := by simp [hq]
          rw [this] at hu
          cases hu; rfl
        rw [hp', hu']
        refine ⟨rfl, hx q parts[q].2 l[q] (by simp [hq]) (List.getElem?_eq_getElem hq2) hG Γ' g a w (hlk _ ?_) hst⟩
        simp [ho, Op.operands]
        exact ⟨parts[q].1, Array.getElem_mem hq⟩) (by rw [lits_len]; simp) (fun q B hB => by
        rw [lits_get] at hB
        obtain ⟨v, hv, rfl⟩ := Option.map_eq_some_iff.1 hB
        exact ⟨v, by simpa using hv, allOne_get hone hv, rfl, allOne_get hone hv⟩)
      refine ⟨.agg res, ?_, fun q => res.getD q undef, res, rfl, g2, fun q B hB => ?_⟩
      · have hrun : (Instr.build t (parts.map fun x => (x.1, a.eval x.2))).run P w = .ok (.agg res) w := by
          unfold Instr.build
          simp only [Sem.run_bind, run_underlying hu, Result.andThen_ok, zeroValue, typeInfo, run_program, hi, hz, Sem.run_pure, hmap]
          rw [g1]
          simp
        simp only [execOp, ho, Sem.run_bind]
        have : (parts.map fun (i, x) => (i, a.eval x)) = parts.map fun x => (x.1, a.eval x.2) := rfl
        rw [this, hrun]
        rfl
      · obtain ⟨x, h1, h2, h3⟩ := g3 q B hB
        have : res.getD q undef = x := by simp [Array.getD_eq_getD_getElem?, h1]
        dsimp only
        rw [this]
        exact ⟨⟨h1, h2⟩, h3⟩
    · exact h.elim
  · exact h.elim
end Go.Vc
