/- What an operation does to the symbolic state of Vc1: addresses, lengths, parts, cuts. No condition. -/
import Derived.Test.YtohfemfgnohhdaaVc4
namespace Go.Vc
set_option linter.unusedVariables false
set_option linter.unusedSimpArgs false

/-- The address of an element. -/
def indexVC (T : List (Nat × TE)) (own : List (Nat × Ob)) (G : Path) (t : TypeId) (A I : AV) (K : AV → Prop) : Prop := match I with
  | .lit (.int _ n) => match get? T t with
    | some { kind := .sl e, .. } => match get? T e with
      | some te => match A with
        | .st fr (.arr τ xs) => te.size = τ.size ∧ G.imp (0 ≤ n ∧ n.toNat < xs.length) ∧ K (.st fr (.sadr (τ.enc (xs.getD n.toNat τ.dflt))))
        | .st fr (.narr τ xs) => te.size = τ.size ∧ G.imp (0 ≤ n ∧ n.toNat < xs.length) ∧ K (.st fr (.sadr (τ.enc (xs.getD n.toNat τ.dflt))))
        | .own k => match get? own k with
          | some (.row _ τ _ xs) => te.size = τ.size ∧ G.imp (0 ≤ n ∧ n.toNat < xs.length) ∧ K (.oadr k τ.size n.toNat 0)
          | _ => False
        | .mown k => match get? own k with
          | some (.mat _ _ _ _ xs _) => te.size = 1 ∧ G.imp (0 ≤ n ∧ n.toNat < xs.length) ∧ K (.madr k n.toNat)
          | _ => False
        | .inn k i => match get? own k with
          | some (.mat _ _ τ _ xs _) => te.size = τ.size ∧ G.imp (0 ≤ n ∧ n.toNat < (xs.getD i []).length) ∧ K (.iadr k i τ.size n.toNat 0)
          | _ => False
        | _ => False
      | none => False
    | _ => False
  | _ => False

theorem run_indexAt {P : Program} {t e : TypeId} {te : TE} (hu : P.underlying t = some (.slice e)) (he : te.ok P e) {w : World} {b off n cp : Nat} {k : IntKind} {i : Int} (h0 : 0 ≤ i) (hi : i.toNat < n) :
    (Instr.indexAt t (.slice (some ⟨b, off, none⟩) n cp) (.int k i)).run P w = .ok (.pointer (some ⟨b, off + i.toNat * te.size, none⟩)) w := by
  obtain ⟨j, hj, _, hs, _⟩ := he.info
  have h1 : 0 ≤ i ∧ i < (n : Int) := ⟨h0, by omega⟩
  simp [Instr.indexAt, asIntOf, run_underlying hu, h1, sizeOf, typeInfo, hj, hs, Addr.add_lit]

theorem RpS.arr_elem {w : World} {O : Nat → Prop} {v : Value} {τ : Ty} {xs : List τ.T} (h : RpS w O v (.arr τ xs)) {i : Nat} (hi : i < xs.length) :
    ∃ b off cp, v = .slice (some ⟨b, off, none⟩) xs.length cp ∧ RpS w O (.pointer (some ⟨b, off + i * τ.size, none⟩)) (.sadr (τ.enc (xs.getD i τ.dflt))) := by
  cases h with
  | nil => simp at hi
  | emp a cap => simp at hi
  | arr b off cap n _ _ arr e fz f hb hO hn hc hm hf hr =>
    subst hn
    refine ⟨b, off, cap, rfl, .sadr b _ _ (f i) arr e fz hb hO (fun j hj => ?_) (hr i _ (by simp [List.getD, hi]))⟩
    rw [← (hf i hi).2 j (by rw [← (hf i hi).1]; exact hj)]
    congr 1
    omega

theorem indexVC.any {P : Program} {T : List (Nat × TE)} (hT : TOk P T) {c : Cx} {o : Oper} {Γ : Sy} {G : Path} {t : TypeId} {x y : Operand} {A I : AV} {K : AV → Prop} (ho : o.op = .indexAddr t x y)
    (hx : Ev c Γ G x A) (hy : Ev c Γ G y I) (h : indexVC T Γ.own G t A I K) : ∃ R, (G.ok → Still0 P c o Γ R) ∧ K R := by
  unfold indexVC at h
  split at h
  · rename_i ki n
    split at h
    · rename_i e sz by_ ze ty ht
      have hu := (hT _ _ ht).sl rfl
      split at h
      · rename_i te hte
        have he := hT _ _ hte
        have fin : ∀ R, (∀ Γ' g a w, G.ok → (∀ k b, get? Γ.own k = some b → get? Γ'.own k = some b) → St c Γ' g a w → Rp2 w (Oset Γ'.own g) c.O0 g (a.eval x) A →
            ∃ v, (∀ w', (Instr.indexAt t (a.eval x) (.int ki n)).run P w' = .ok v w') ∧ Rp2 w (Oset Γ'.own g) c.O0 g v R) → (G.ok → Still0 P c o Γ R) := by
          intro R hR hG
          intro Γ' g a w hl hown hst
          obtain ⟨v, h1, h2⟩ := hR Γ' g a w hG hown hst (hx hG Γ' g a w (hl x (by simp [ho, Op.operands])) hst)
          have h3 := hy hG Γ' g a w (hl y (by simp [ho, Op.operands])) hst
          simp only [Rp2, Rp1] at h3
          exact ⟨v, fun w' => by simp [execOp, ho, h3.1, h1], h2⟩
        split at h
        · rename_i fr τ xs
          obtain ⟨h1, h2, hK⟩ := h
          refine ⟨_, fin _ fun Γ' g a w hG hown hst h3 => ?_, hK⟩
          obtain ⟨h4, h5⟩ := Path.imp_ok h2 hG
          obtain ⟨b, off, cp, h6, h7⟩ := RpS.arr_elem (h3 : RpS _ _ _ _) h5
          rw [h6]
          exact ⟨_, fun w' => run_indexAt hu he h4 h5, by rw [h1]; exact h7⟩
        · rename_i fr τ xs
          obtain ⟨h1, h2, hK⟩ := h
          refine ⟨_, fin _ fun Γ' g a w hG hown hst h3 => ?_, hK⟩
          obtain ⟨h4, h5⟩ := Path.imp_ok h2 hG
          have h3' : RpS w (Av (Oset Γ'.own g) c.O0 fr) (a.eval x) (.narr τ xs) := h3
          generalize a.eval x = v at h3'
          cases h3' with
          | narr _ _ _ h3' _ =>
            obtain ⟨b, off, cp, h6, h7⟩ := RpS.arr_elem h3' h5
            rw [h6]
            exact ⟨_, fun w' => run_indexAt hu he h4 h5, by rw [h1]; exact h7⟩
        · rename_i k
          split at h
          · rename_i e' τ fr xs hk
            obtain ⟨h1, h2, hK⟩ := h
            refine ⟨_, fin _ fun Γ' g a w hG hown hst h3 => ?_, hK⟩
            obtain ⟨h4, h5⟩ := Path.imp_ok h2 hG
            have hok := hst.hp.ok k _ (hown k _ hk)
            have h6 : a.eval x = g k := h3
            obtain ⟨ys, ho', _⟩ := hok
            rcases ho'.2 with ⟨_, h7⟩ | ⟨b, cap, cur, h7, h8, h9, h10⟩
            · simp [h7] at h5
            · rw [h6, h7]
              exact ⟨_, fun w' => run_indexAt hu he h4 h5, b, xs.length, cap, h7, by rw [h1]; simp⟩
          · exact h.elim
        · rename_i k
          split at h
          · rename_i e1 e2 τ fr xs st hk
            obtain ⟨h1, h2, hK⟩ := h
            refine ⟨_, fin _ fun Γ' g a w hG hown hst h3 => ?_, hK⟩
            obtain ⟨h4, h5⟩ := Path.imp_ok h2 hG
            obtain ⟨⟨ys, ho', _⟩, _⟩ := hst.hp.ok k _ (hown k _ hk)
            have h6 : a.eval x = hd (g k) := h3
            rcases ho'.2 with ⟨_, h7⟩ | ⟨b, cap, cur, h7, h8, h9, h10⟩
            · simp [h7] at h5
            · rw [h6, h7]
              exact ⟨_, fun w' => run_indexAt hu he h4 h5, b, xs.length, cap, h7, by rw [h1]; simp⟩
          · exact h.elim
        · rename_i k i
          split at h
          · rename_i e1 e2 τ fr xs st hk
            obtain ⟨h1, h2, hK⟩ := h
            refine ⟨_, fin _ fun Γ' g a w hG hown hst h3 => ?_, hK⟩
            obtain ⟨h4, h5⟩ := Path.imp_ok h2 hG
            obtain ⟨ys, ho', _⟩ := (hst.hp.ok k _ (hown k _ hk)).2.1 i
            have h6 : a.eval x = sub (g k) i := h3
            rcases ho'.2 with ⟨_, h7⟩ | ⟨b, cap, cur, h7, h8, h9, h10⟩
            · rw [h7] at h5; exact absurd h5 (by omega)
            · rw [h6, h7]
              exact ⟨_, fun w' => run_indexAt hu he h4 h5, b, _, cap, h7, by rw [h1]; simp⟩
          · exact h.elim
        · exact h.elim
      · exact h.elim
    · exact h.elim
  · exact h.elim

theorem indexVC.sound {P : Program} {T : List (Nat × TE)} (hT : TOk P T) {c : Cx} {o : Oper} {Γ : Sy} {G : Path} {t : TypeId} {x y : Operand} {A I : AV} {K : AV → Prop} (ho : o.op = .indexAddr t x y)
    (hx : Ev c Γ G x A) (hy : Ev c Γ G y I) (h : indexVC T Γ.own G t A I K) : ∃ R, (G.ok → Does P c o Γ R []) ∧ K R :=
  let ⟨R, h1, h2⟩ := indexVC.any hT ho hx hy h
  ⟨R, fun hG => (h1 hG).does, h2⟩

/-- The address of a field. -/
def fieldVC (T : List (Nat × TE)) (s : TypeId) (f : Nat) (A : AV) (K : AV → Prop) : Prop := match get? T s with
  | some { kind := .strct offs, .. } => match offs[f]? with
    | some (off, ft) => match get? T ft with
      | some te => Nat.beq te.size 0 = false ∧ match A with
        | .st fr (.sadr (.agg l)) => match te.kind.isAgg with
          | false => match l[off]? with
            | some B => B.isAgg = false ∧ K (.st fr (.sadr B))
            | none => False
          | true => off + te.size ≤ l.length ∧ K (.st fr (.sadr (.agg ((l.drop off).take te.size))))
        | .oadr k es i j => K (.oadr k es i (j + off))
        | .iadr k ii es i j => K (.iadr k ii es i (j + off))
        | .padr k j => K (.padr k (j + off))
        | _ => False
      | none => False
    | none => False
  | _ => False
theorem fieldVC.any {P : Program} {T : List (Nat × TE)} (hT : TOk P T) {c : Cx} {o : Oper} {Γ : Sy} {G : Path} {s : TypeId} {f : Nat} {x : Operand} {A : AV} {K : AV → Prop} (ho : o.op = .fieldAddr s x f)
    (hx : Ev c Γ G x A) (h : fieldVC T s f A K) : ∃ R, (G.ok → Still0 P c o Γ R) ∧ K R := by
  unfold fieldVC at h
  split at h
  · rename_i offs sz by_ ze ty ht
    obtain ⟨fs, hu, hfs⟩ := (hT _ _ ht).strct rfl
    split at h
    · rename_i off ft hoff
      rw [← hfs, List.getElem?_map] at hoff
      obtain ⟨fd, h1, h2⟩ := Option.map_eq_some_iff.1 hoff
      simp only [Prod.mk.injEq] at h2
      obtain ⟨rfl, rfl⟩ := h2
      have hfd : fs[f]? = some fd := by simpa using h1
      split at h
      · rename_i te hte
        obtain ⟨hsz, h⟩ := h
        obtain ⟨i, hi, _, hs, _⟩ := (hT _ _ hte).info
        have hne : i.size ≠ 0 := by rw [hs]; exact Nat.ne_of_beq_eq_false hsz
        have run : ∀ (w : World) b p, (Instr.fieldAt s (.pointer (some ⟨b, p, none⟩)) f).run P w = .ok (.pointer (some ⟨b, p + fd.offset, none⟩)) w := by
          intro w b p
          simp [Instr.fieldAt, run_underlying hu, hfd, Instr.sureAddr, fieldPlace, sizeOf, typeInfo, hi, hne, Addr.add_lit]
        have fin : ∀ R, (∀ Γ' g a w, St c Γ' g a w → Rp2 w (Oset Γ'.own g) c.O0 g (a.eval x) A →
            ∃ b p, a.eval x = .pointer (some ⟨b, p, none⟩) ∧ Rp2 w (Oset Γ'.own g) c.O0 g (.pointer (some ⟨b, p + fd.offset, none⟩)) R) → (G.ok → Still0 P c o Γ R) := by
          intro R hR hG
          intro Γ' g a w hl hown hst
          obtain ⟨b, p, h1, h2⟩ := hR Γ' g a w hst (hx hG Γ' g a w (hl x (by simp [ho, Op.operands])) hst)
          exact ⟨_, fun w' => by simp [execOp, ho, h1, run], h2⟩
        split at h
        · rename_i fr l
          split at h
          · split at h
            · rename_i B hB
              refine ⟨_, fin _ fun Γ' g a w hst h3 => ?_, h.2⟩
              have h3' : RpS w (Av (Oset Γ'.own g) c.O0 fr) (a.eval x) (.sadr (.agg l)) := h3
              generalize a.eval x = v at h3'
              cases h3' with
              | sadr b p _ y arr e fz hb hO hf hr =>
                obtain ⟨cs, rfl, h4, h5⟩ := hr.aggc
                obtain ⟨z, h6, h7, h8⟩ := h5 _ B hB
                refine ⟨b, p, rfl, RpS.sadr b _ B z arr e fz hb hO (fun j hj => ?_) h8⟩
                have hc := h8.cells1 h.1
                rw [hc] at hj ⊢
                simp at hj
                subst hj
                have := hf fd.offset (by simp only [Value.cells]; exact (Array.getElem?_eq_some_iff.1 h6).1)
                simp only [Value.cells] at this
                rw [Nat.add_zero, this, h6]
                simp
            · exact h.elim
          · refine ⟨_, fin _ fun Γ' g a w hst h3 => ?_, h.2⟩
            have h3' : RpS w (Av (Oset Γ'.own g) c.O0 fr) (a.eval x) (.sadr (.agg l)) := h3
            generalize a.eval x = v at h3'
            cases h3' with
            | sadr b p _ y arr e fz hb hO hf hr =>
              obtain ⟨cs, rfl, h4, h5⟩ := hr.aggc
              have hlen := h.1
              refine ⟨b, p, rfl, RpS.sadr b _ _ (.agg (cs.extract fd.offset (fd.offset + te.size))) arr e fz hb hO (fun j hj => ?_) ?_⟩
              · simp only [Value.cells] at hj hf ⊢
                simp only [Array.size_extract] at hj
                rw [Array.getElem?_extract]
                rw [Nat.add_assoc, hf _ (by omega)]
                simp only [show j < min (fd.offset + te.size) cs.size - fd.offset from by omega, if_true]
              · refine RpS.agg _ _ (fun j => cs.getD (fd.offset + j) undef) ?_ (fun j hj => ?_) (fun j B hB => ?_)
                · simp only [Array.size_extract, List.length_take, List.length_drop]; omega
                · simp only [List.length_take, List.length_drop] at hj
                  obtain ⟨z, h6, h7, h8⟩ := h5 (fd.offset + j) l[fd.offset + j] (by rw [List.getElem?_eq_getElem])
                  rw [Array.getElem?_extract]
                  simp only [show j < min (fd.offset + te.size) cs.size - fd.offset from by omega, if_true]
                  simp [Array.getD_eq_getD_getElem?, h6, h7]
                · rw [List.getElem?_take] at hB
                  split at hB
                  · rw [List.getElem?_drop] at hB
                    obtain ⟨z, h6, h7, h8⟩ := h5 _ B hB
                    simpa [Array.getD_eq_getD_getElem?, h6] using h8
                  · cases hB
        · rename_i k es i j
          refine ⟨_, fin _ fun Γ' g a w hst h3 => ?_, h⟩
          obtain ⟨b, n, cp, h4, h5⟩ := h3
          exact ⟨b, _, h5, b, n, cp, h4, by rw [Nat.add_assoc]⟩
        · rename_i k ii es i j
          refine ⟨_, fin _ fun Γ' g a w hst h3 => ?_, h⟩
          obtain ⟨b, n, cp, h4, h5⟩ := h3
          exact ⟨b, _, h5, b, n, cp, h4, by rw [Nat.add_assoc]⟩
        · rename_i k j
          refine ⟨_, fin _ fun Γ' g a w hst h3 => ?_, h⟩
          obtain ⟨b, h4, h5⟩ := h3
          exact ⟨b, _, h5, b, h4, rfl⟩
        · exact h.elim
      · exact h.elim
    · exact h.elim
  · exact h.elim

theorem fieldVC.sound {P : Program} {T : List (Nat × TE)} (hT : TOk P T) {c : Cx} {o : Oper} {Γ : Sy} {G : Path} {s : TypeId} {f : Nat} {x : Operand} {A : AV} {K : AV → Prop} (ho : o.op = .fieldAddr s x f)
    (hx : Ev c Γ G x A) (h : fieldVC T s f A K) : ∃ R, (G.ok → Does P c o Γ R []) ∧ K R :=
  let ⟨R, h1, h2⟩ := fieldVC.any hT ho hx h
  ⟨R, fun hG => (h1 hG).does, h2⟩

/-- A component of a tuple. -/
def extractVC (A : AV) (i : Nat) (K : AV → Prop) : Prop := match A with
  | .tup l => match l[i]? with
    | some B => K B
    | none => False
  | _ => False
theorem Rp1.mid {w : World} {O O0 : Nat → Prop} {g : Nat → Value} {v : Value} {A : AV} (h : Rp1 w O O0 g v A) : RpM w O O0 g v A := by
  cases A <;> first | exact h | exact h.elim
theorem RpM.two {w : World} {O O0 : Nat → Prop} {g : Nat → Value} {v : Value} {A : AV} (h : RpM w O O0 g v A) : Rp2 w O O0 g v A := by
  cases A <;> first | exact h | exact h.elim
theorem Rp1.two {w : World} {O O0 : Nat → Prop} {g : Nat → Value} {v : Value} {A : AV} (h : Rp1 w O O0 g v A) : Rp2 w O O0 g v A := h.mid.two
theorem extractVC.sound {P : Program} {c : Cx} {o : Oper} {Γ : Sy} {G : Path} {i : Nat} {x : Operand} {A : AV} {K : AV → Prop} (ho : o.op = .extract x i) (hx : Ev c Γ G x A) (h : extractVC A i K) :
    ∃ R, (G.ok → Does P c o Γ R []) ∧ K R := by
  unfold extractVC at h
  split at h
  · rename_i l
    split at h
    · rename_i B hB
      refine ⟨B, fun hG => Does.value fun Γ' g a w hl _ hst => ?_, h⟩
      obtain ⟨f, vs, h1, h2, h3⟩ := hx hG Γ' g a w (hl x (by simp [ho, Op.operands])) hst
      obtain ⟨h4, h5⟩ := h3 _ B hB
      exact ⟨f i, by simp [execOp, ho, h1, Instr.extract, h4], h5.two⟩
    · exact h.elim
  · exact h.elim

/-- The length of a row. -/
def lenVC (T : List (Nat × TE)) (own : List (Nat × Ob)) (t : TypeId) (A : AV) (K : AV → Prop) : Prop := match get? T t with
  | some { kind := .sl _, .. } => match A with
    | .st _ (.arr _ xs) => K (.lit (.int .i64 xs.length))
    | .st _ (.narr _ xs) => K (.lit (.int .i64 xs.length))
    | .lit (.slice none 0 0) => K (.lit (.int .i64 0))
    | .own k => match get? own k with
      | some (.row _ _ _ xs) => K (.lit (.int .i64 xs.length))
      | _ => False
    | .mown k => match get? own k with
      | some (.mat _ _ _ _ xs _) => K (.lit (.int .i64 xs.length))
      | _ => False
    | .inn k i => match get? own k with
      | some (.mat _ _ _ _ xs _) => K (.lit (.int .i64 (xs.getD i []).length))
      | _ => False
    | _ => False
  | _ => False
theorem RpS.arr_len {w : World} {O : Nat → Prop} {v : Value} {τ : Ty} {xs : List τ.T} (h : RpS w O v (.arr τ xs)) : ∃ a cp, v = .slice a xs.length cp := by
  cases h with
  | nil => exact ⟨_, _, rfl⟩
  | emp a cap => exact ⟨_, _, rfl⟩
  | arr b off cap n _ _ arr e fz f hb hO hn => subst hn; exact ⟨_, _, rfl⟩
theorem lenVC.sound {P : Program} {T : List (Nat × TE)} (hT : TOk P T) {c : Cx} {o : Oper} {Γ : Sy} {G : Path} {t : TypeId} {x : Operand} {A : AV} {K : AV → Prop}
    (ho : o.op = .call { callee := .builtin .len, args := #[x], argTypes := #[t] }) (hx : Ev c Γ G x A) (h : lenVC T Γ.own t A K) : ∃ R, (G.ok → Does P c o Γ R []) ∧ K R := by
  unfold lenVC at h
  split at h
  · rename_i e sz by_ ze ty ht
    have hu := (hT _ _ ht).sl rfl
    have fin : ∀ n : Nat, (∀ Γ' g a w, (∀ k b, get? Γ.own k = some b → get? Γ'.own k = some b) → St c Γ' g a w → Rp2 w (Oset Γ'.own g) c.O0 g (a.eval x) A →
        ∃ ad cp, a.eval x = .slice ad n cp) → (G.ok → Does P c o Γ (.lit (.int .i64 n)) []) := by
      intro n hR hG
      refine Does.value fun Γ' g a w hl hown hst => ?_
      obtain ⟨ad, cp, h1⟩ := hR Γ' g a w hown hst (hx hG Γ' g a w (hl x (by simp [ho, Op.operands, Call.operands])) hst)
      exact ⟨.int .i64 n, by simp [execOp, ho, resolve, invoke, builtin, Builtin.len_, h1, run_underlying hu, goInt], rfl, rfl⟩
    split at h
    · exact ⟨_, fin _ fun Γ' g a w _ hst h3 => RpS.arr_len (h3 : RpS _ _ _ _), h⟩
    · rename_i fr τ xs
      refine ⟨_, fin _ fun Γ' g a w _ hst h3 => ?_, h⟩
      have h3' : RpS w (Av (Oset Γ'.own g) c.O0 fr) (a.eval x) (.narr τ xs) := h3
      generalize a.eval x = v at h3'
      cases h3' with
      | narr _ _ _ h3' _ => exact RpS.arr_len h3'
    · exact ⟨_, fin 0 fun Γ' g a w _ hst h3 => ⟨none, 0, h3.1⟩, h⟩
    · rename_i k
      split at h
      · rename_i e' τ fr xs hk
        refine ⟨_, fin _ fun Γ' g a w hown hst h3 => ?_, h⟩
        obtain ⟨ys, ho', _⟩ := hst.hp.ok k _ (hown k _ hk)
        have h6 : a.eval x = g k := h3
        rw [h6]
        rcases ho'.2 with ⟨h7, h8⟩ | ⟨b, cap, cur, h7, _⟩
        · exact ⟨none, 0, by rw [h7, h8]⟩
        · exact ⟨_, _, h7⟩
      · exact h.elim
    · rename_i k
      split at h
      · rename_i e1 e2 τ fr xs st hk
        refine ⟨_, fin _ fun Γ' g a w hown hst h3 => ?_, h⟩
        obtain ⟨⟨ys, ho', _⟩, _⟩ := hst.hp.ok k _ (hown k _ hk)
        have h6 : a.eval x = hd (g k) := h3
        rw [h6]
        rcases ho'.2 with ⟨h7, h8⟩ | ⟨b, cap, cur, h7, _⟩
        · exact ⟨none, 0, by rw [h7, h8]⟩
        · exact ⟨_, _, h7⟩
      · exact h.elim
    · rename_i k i
      split at h
      · rename_i e1 e2 τ fr xs st hk
        refine ⟨_, fin _ fun Γ' g a w hown hst h3 => ?_, h⟩
        obtain ⟨ys, ho', _⟩ := (hst.hp.ok k _ (hown k _ hk)).2.1 i
        have h6 : a.eval x = sub (g k) i := h3
        rw [h6]
        rcases ho'.2 with ⟨h7, h8⟩ | ⟨b, cap, cur, h7, _⟩
        · exact ⟨none, 0, by rw [h7, h8]⟩
        · exact ⟨_, _, h7⟩
      · exact h.elim
    · exact h.elim
  · exact h.elim

/-- The least, or the greatest, of integers. -/
def minL (x : Int) : List Int → Int
  | [] => x
  | y :: r => minL (min x y) r
def maxL (x : Int) : List Int → Int
  | [] => x
  | y :: r => maxL (max x y) r
def intsOf (k : IntKind) : List AV → Option (List Int)
  | [] => some []
  | .lit (.int k' n) :: r => match eqKind k k', intsOf k r with
    | true, some l => some (n :: l)
    | _, _ => none
  | _ => none
def minmaxVC (b : Builtin) (l : List AV) (K : AV → Prop) : Prop := match l with
  | .lit (.int k n) :: r => match intsOf k r, b with
    | some ns, .min => K (.lit (.int k (minL n ns)))
    | some ns, .max => K (.lit (.int k (maxL n ns)))
    | _, _ => False
  | _ => False
theorem intsOf_vals {w : World} {O O0 : Nat → Prop} {g : Nat → Value} {k : IntKind} : ∀ {l : List AV} {ns : List Int} {vs : List Value}, intsOf k l = some ns → vs.length = l.length →
    (∀ (i : Nat) (A : AV) (v : Value), l[i]? = some A → vs[i]? = some v → Rp2 w O O0 g v A) → vs = ns.map (Value.int k)
  | [], ns, vs, h, hl, _ => by cases h; simpa using hl
  | A :: r, ns, vs, h, hl, hr => by
    cases vs with
    | nil => simp at hl
    | cons v vs =>
      unfold intsOf at h
      split at h
      · rename_i heq
        cases heq
      · rename_i k' n r' heq
        cases heq
        split at h
        · rename_i l' h1 h2
          cases h
          have := intsOf_vals h2 (by simpa using hl) (fun i A v hA hv => hr (i + 1) A v (by simpa using hA) (by simpa using hv))
          have h3 := hr 0 (.lit (.int k' n)) v rfl rfl
          simp only [Rp2, Rp1] at h3
          have hk : k = k' := by simpa [eqKind] using h1
          simp [this, h3.1, hk]
        · cases h
      · cases h
theorem run_min_ints {P : Program} (k : IntKind) (w : World) : ∀ (ns : List Int) (n : Int), ((ns.map (Value.int k)).foldlM Builtin.min2 (.int k n)).run P w = .ok (.int k (minL n ns)) w
  | [], n => rfl
  | m :: r, n => by
    simp only [List.map_cons, List.foldlM_cons, Sem.run_bind, Builtin.min2, Sem.run_pure, Result.andThen_ok, minL]
    rw [run_min_ints k w r]
    congr 3
    rw [Int.min_def]
    split <;> split <;> omega
theorem run_max_ints {P : Program} (k : IntKind) (w : World) : ∀ (ns : List Int) (n : Int), ((ns.map (Value.int k)).foldlM Builtin.max2 (.int k n)).run P w = .ok (.int k (maxL n ns)) w
  | [], n => rfl
  | m :: r, n => by
    simp only [List.map_cons, List.foldlM_cons, Sem.run_bind, Builtin.max2, Sem.run_pure, Result.andThen_ok, maxL]
    rw [run_max_ints k w r]
    congr 3
    rw [Int.max_def]
    split <;> split <;> omega
theorem minmaxVC.sound {P : Program} {c : Cx} {o : Oper} {Γ : Sy} {G : Path} {b : Builtin} {xs : Array Operand} {ts : Array TypeId} {l : List AV} {K : AV → Prop}
    (ho : o.op = .call { callee := .builtin b, args := xs, argTypes := ts }) (hl : l.length = xs.toList.length) (hx : ∀ (i : Nat) (x : Operand) (A : AV), xs.toList[i]? = some x → l[i]? = some A → Ev c Γ G x A)
    (h : minmaxVC b l K) : ∃ R, (G.ok → Does P c o Γ R []) ∧ K R := by
  unfold minmaxVC at h
  split at h
  · rename_i k n r
    have key : ∀ ns, intsOf k r = some ns → G.ok → ∀ Γ' g a w, (∀ x ∈ o.op.operands, look Γ' x = look Γ x) → St c Γ' g a w → xs.toList.map a.eval = .int k n :: ns.map (Value.int k) := by
      intro ns hns hG Γ' g a w hlk hst
      have hev : ∀ (i : Nat) (x : Operand) (A : AV), xs.toList[i]? = some x → (AV.lit (.int k n) :: r)[i]? = some A → Rp2 w (Oset Γ'.own g) c.O0 g (a.eval x) A := fun i x A h1 h2 =>
        hx i x A h1 h2 hG Γ' g a w (hlk x (by
          have := List.mem_of_getElem? h1
          simp [ho, Op.operands, Call.operands]; simpa using this)) hst
      cases hxs : xs.toList with
      | nil => rw [hxs] at hl; simp at hl
      | cons x0 xr =>
        rw [hxs] at hev hl
        have h0 := hev 0 x0 (.lit (.int k n)) rfl rfl
        simp only [Rp2, Rp1] at h0
        have := intsOf_vals (w := w) (O := Oset Γ'.own g) (O0 := c.O0) (g := g) (vs := xr.map a.eval) hns (by simpa using hl.symm) (fun i A v hA hv => by
          rw [List.getElem?_map] at hv
          obtain ⟨x, hx1, rfl⟩ := Option.map_eq_some_iff.1 hv
          exact hev (i + 1) x A (by simpa using hx1) (by simpa using hA))
        simp [h0.1, this]
    split at h
    · rename_i ns hns
      refine ⟨.lit (.int k (minL n ns)), fun hG => Does.value fun Γ' g a w hlk _ hst => ⟨.int k (minL n ns), ?_, rfl, rfl⟩, h⟩
      have h1 := key ns hns hG Γ' g a w hlk hst
      simp [execOp, ho, resolve, invoke, builtin, Builtin.min_, h1, run_min_ints]
    · rename_i ns hns
      refine ⟨.lit (.int k (maxL n ns)), fun hG => Does.value fun Γ' g a w hlk _ hst => ⟨.int k (maxL n ns), ?_, rfl, rfl⟩, h⟩
      have h1 := key ns hns hG Γ' g a w hlk hst
      simp [execOp, ho, resolve, invoke, builtin, Builtin.max_, h1, run_max_ints]
    · exact h.elim
  · exact h.elim
end Go.Vc
