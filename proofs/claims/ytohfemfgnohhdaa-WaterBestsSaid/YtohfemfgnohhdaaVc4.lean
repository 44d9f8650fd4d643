/- What an operation does to the symbolic state of Vc1: moves, loads, addresses, lengths, parts. No condition. -/
import Derived.Test.YtohfemfgnohhdaaVc3
namespace Go.Vc
set_option linter.unusedVariables false
set_option linter.unusedSimpArgs false

/-- An operation that yields, of operands that are known, one value in the very world. -/
theorem Does.move {P : Program} {c : Cx} {o : Oper} {Γ : Sy} {G : Path} {x : Operand} {A : AV} (ho : o.op = .move x ∨ o.op = .assign x) (hx : Ev c Γ G x A) : G.ok → Does P c o Γ A [] := by
  intro hG
  refine Does.value fun Γ' g a w hl _ hst => ⟨a.eval x, ?_, hx hG Γ' g a w (hl x ?_) hst⟩
  · rcases ho with ho | ho <;> simp [execOp, ho]
  · rcases ho with ho | ho <;> simp [ho, Op.operands]

/-- A choice by a bool: each side under its own path. -/
def pickB (c : Bool) (x y : Operand) (a b : Bool) : Bool := match x, y with
  | .const (.bool true), _ => c || b
  | _, .const (.bool false) => c && a
  | _, _ => cond c a b
def pickVC (Γ : Sy) (G : Path) (c x y : Operand) (K : AV → Prop) : Prop := withOp Γ G c fun C => match C with
  | .lit (.bool b) => withOp Γ ((b, true) :: G) x fun A => withOp Γ ((b, false) :: G) y fun B => match A, B with
    | .lit (.bool p), .lit (.bool q) => K (.lit (.bool (pickB b x y p q)))
    | _, _ => False
  | _ => False
theorem pickVC.sound {P : Program} {c : Cx} {o : Oper} {Γ : Sy} {G : Path} {z x y : Operand} {K : AV → Prop} (ho : o.op = .pick z x y) (h : pickVC Γ G z x y K) : ∃ R, (G.ok → Does P c o Γ R []) ∧ K R := by
  obtain ⟨C, hC, h⟩ := withOp.ev (c := c) h
  split at h
  · rename_i b
    obtain ⟨A, hA, h2⟩ := withOp.ev (c := c) h
    obtain ⟨B, hB, h3⟩ := withOp.ev (c := c) h2
    clear h h2
    split at h3
    · rename_i p q
      have h := h3
      clear h3
      refine ⟨.lit (.bool (pickB b x y p q)), fun hG => Does.value fun Γ' g a w hl _ hst => ⟨.bool (cond b p q), ?_, ?_⟩, h⟩
      · have h1 := hC hG Γ' g a w (hl z (by simp [ho, Op.operands])) hst
        simp only [Rp2, Rp1] at h1
        cases b with
        | true =>
          have h2 := hA ⟨rfl, hG⟩ Γ' g a w (hl x (by simp [ho, Op.operands])) hst
          simp only [Rp2, Rp1] at h2
          simp [execOp, ho, h1.1, asBool, h2.1]
        | false =>
          have h2 := hB ⟨rfl, hG⟩ Γ' g a w (hl y (by simp [ho, Op.operands])) hst
          simp only [Rp2, Rp1] at h2
          simp [execOp, ho, h1.1, asBool, h2.1]
      · refine ⟨?_, rfl⟩
        congr 1
        unfold pickB
        split
        · cases b with
          | true => 
            have h2 := hA ⟨rfl, hG⟩ Γ' g a w (hl _ (by simp [ho, Op.operands])) hst
            simp only [Rp2, Rp1, Act.eval] at h2
            have := h2.1
            simp at this
            simp [← this]
          | false => rfl
        · cases b with
          | true => rfl
          | false => 
            have h2 := hB ⟨rfl, hG⟩ Γ' g a w (hl _ (by simp [ho, Op.operands])) hst
            simp only [Rp2, Rp1, Act.eval] at h2
            have := h2.1
            simp at this
            simp [← this]
        · rfl
    · exact h3.elim
  · exact h.elim

def notVC (op : UnOp) (G : Path) (A : AV) (K : AV → Prop) : Prop := match op, A with
  | .not, .lit (.bool b) => K (.lit (.bool (!b)))
  | .neg, .lit (.int k n) => G.imp (InK k (0 - n)) ∧ K (.lit (.int k (-n)))
  | _, _ => False
theorem notVC.sound {P : Program} {c : Cx} {o : Oper} {Γ : Sy} {G : Path} {op : UnOp} {t : TypeId} {x : Operand} {A : AV} {K : AV → Prop} (ho : o.op = .unOp op t x) (hx : Ev c Γ G x A) (h : notVC op G A K) :
    ∃ R, (G.ok → Does P c o Γ R []) ∧ K R := by
  unfold notVC at h
  split at h
  · rename_i b
    refine ⟨.lit (.bool (!b)), fun hG => Does.value fun Γ' g a w hl _ hst => ⟨.bool (!b), ?_, rfl, rfl⟩, h⟩
    have h1 := hx hG Γ' g a w (hl x (by simp [ho, Op.operands])) hst
    simp only [Rp2, Rp1] at h1
    simp [execOp, ho, h1.1, Op.unary]
  · rename_i k n
    refine ⟨.lit (.int k (-n)), fun hG => Does.value fun Γ' g a w hl _ hst => ⟨.int k (-n), ?_, rfl, rfl⟩, h.2⟩
    have h1 := hx hG Γ' g a w (hl x (by simp [ho, Op.operands])) hst
    have h2 := (Path.imp_ok h.1 hG).wrap
    simp only [Rp2, Rp1] at h1
    simp only [Int.zero_sub] at h2
    simp [execOp, ho, h1.1, Op.unary, Op.intArith, h2]
  · exact h.elim

def convVC (T : List (Nat × TE)) (G : Path) (d : TypeId) (A : AV) (K : AV → Prop) : Prop := match A, get? T d with
  | .lit (.int _ n), some { kind := .int k, .. } => G.imp (InK k n) ∧ K (.lit (.int k n))
  | _, _ => False
theorem convVC.sound {P : Program} {T : List (Nat × TE)} (hT : TOk P T) {c : Cx} {o : Oper} {Γ : Sy} {G : Path} {s d : TypeId} {x : Operand} {A : AV} {K : AV → Prop} (ho : o.op = .convert s d x)
    (hs : ∃ y, get? T s = some y) (hx : Ev c Γ G x A) (h : convVC T G d A K) : ∃ R, (G.ok → Does P c o Γ R []) ∧ K R := by
  unfold convVC at h
  split at h
  · rename_i k' n k sz by_ ze ty hty
    have hu := (hT _ _ hty).int rfl
    obtain ⟨y, hy⟩ := hs
    obtain ⟨d1, hd1, _⟩ := (hT _ _ hy).under
    refine ⟨.lit (.int k n), fun hG => Does.value fun Γ' g a w hl _ hst => ⟨.int k n, ?_, rfl, rfl⟩, h.2⟩
    have h1 := hx hG Γ' g a w (hl x (by simp [ho, Op.operands])) hst
    have h2 := (Path.imp_ok h.1 hG).wrap
    simp only [Rp2, Rp1] at h1
    simp [execOp, ho, h1.1, Go.convert, run_underlying hu, run_underlying hd1, Conv.intToInt, h2]
  · exact h.elim

/-- Loads. -/
theorem run_load_scalar {P : Program} {t : TypeId} {x : TE} (hx : x.ok P t) (hk : x.kind.isAgg = false) {w : World} {b p : Nat} {arr : Array Value} {e : TypeId} {fz : Nat × Nat} {v : Value}
    (hb : w.heap[b]? = some (.cells arr e fz)) (hv : arr[p]? = some v) : (Instr.loadAt t (.pointer (some ⟨b, p, none⟩))).run P w = .ok v w := by
  have hc : w.cell? ⟨b, p, none⟩ = some v := by rw [cell_of_row w b p arr e fz hb]; exact hv
  simp [Instr.loadAt, Instr.sureAddr, loadVar, hx.isAgg, hk, hc]
theorem run_load_agg {P : Program} {t : TypeId} {x : TE} (hx : x.ok P t) (hk : x.kind.isAgg = true) {w : World} {b p : Nat} {arr cs : Array Value} {e : TypeId} {fz : Nat × Nat}
    (hb : w.heap[b]? = some (.cells arr e fz)) (hs : cs.size = x.size) (hv : ∀ j, j < cs.size → arr[p + j]? = cs[j]?) : (Instr.loadAt t (.pointer (some ⟨b, p, none⟩))).run P w = .ok (.agg cs) w := by
  obtain ⟨i, hi, _, hsz, _⟩ := hx.info
  have := run_loadCells_list (P := P) w ⟨b, p, none⟩ cs.toList (fun j v hj => by
    rw [Addr.add_lit, cell_of_row w b (p + j) arr e fz hb]
    have hjl : j < cs.size := by
      have := (List.getElem?_eq_some_iff.1 hj).1
      simpa using this
    rw [hv j hjl]
    simpa using hj)
  simp only [Array.length_toList] at this
  simp [Instr.loadAt, Instr.sureAddr, loadVar, hx.isAgg, hk, sizeOf, typeInfo, hi, hsz, ← hs, this]

def up (fr : Bool) : SV → AV
  | .lit v => .lit v
  | A => .st fr A
theorem RpS.up {w : World} {O O0 : Nat → Prop} {g : Nat → Value} {fr : Bool} {v : Value} {B : SV} (h : RpS w (Av O O0 fr) v B) : Rp2 w O O0 g v (up fr B) := by
  cases B with
  | lit u => cases h with | lit _ h => exact ⟨rfl, h⟩
  | _ => exact h
def SV.isAgg : SV → Bool
  | .agg _ => true
  | _ => false
theorem RpS.cells1 {w : World} {O : Nat → Prop} {v : Value} {B : SV} (h : RpS w O v B) (hB : B.isAgg = false) : v.cells = #[v] := by
  induction h with
  | lit v h => cases v <;> first | rfl | cases h
  | agg => cases hB
  | narr _ _ _ _ _ ih => exact ih rfl
  | _ => rfl
theorem RpS.aggc {w : World} {O : Nat → Prop} {v : Value} {l : List SV} (h : RpS w O v (.agg l)) : ∃ cs, v = .agg cs ∧ cs.size = l.length ∧ ∀ (i : Nat) (B : SV), l[i]? = some B → ∃ x, cs[i]? = some x ∧ x.oneCell' = true ∧ RpS w O x B := by
  cases h with
  | agg cs _ f hs hf hr =>
    refine ⟨cs, rfl, hs, fun i B hB => ?_⟩
    have hi := (List.getElem?_eq_some_iff.1 hB).1
    exact ⟨f i, (hf i hi).1, (hf i hi).2, hr i B hB⟩

/-- Loading a stable element B at a place of type t. -/
def loadS (T : List (Nat × TE)) (t : TypeId) (fr : Bool) (B : SV) (K : AV → Prop) : Prop := match get? T t with
  | some te => match te.kind.isAgg, B with
    | true, .agg l => te.size = l.length ∧ K (.st fr (.agg l))
    | false, .agg _ => False
    | true, _ => False
    | false, B => K (up fr B)
  | none => False
theorem loadS.sound {P : Program} {T : List (Nat × TE)} (hT : TOk P T) {t : TypeId} {fr : Bool} {B : SV} {K : AV → Prop} (h : loadS T t fr B K) :
    ∃ R, K R ∧ ∀ (w : World) (O O0 : Nat → Prop) (g : Nat → Value) (x : Value) (b p : Nat) (arr : Array Value) (e : TypeId) (fz : Nat × Nat),
      w.heap[b]? = some (.cells arr e fz) → (∀ j, j < x.cells.size → arr[p + j]? = x.cells[j]?) → RpS w (Av O O0 fr) x B →
      (Instr.loadAt t (.pointer (some ⟨b, p, none⟩))).run P w = .ok x w ∧ Rp2 w O O0 g x R := by
  unfold loadS at h
  cases ht : get? T t with
  | none => rw [ht] at h; exact h.elim
  | some te =>
    rw [ht] at h
    have hok := hT _ _ ht
    cases hk : te.kind.isAgg with
    | true =>
      simp only [hk] at h
      cases B with
      | agg l =>
        refine ⟨_, h.2, fun w O O0 g x b p arr e fz hb hf hr => ?_⟩
        obtain ⟨cs, rfl, h1, h2⟩ := hr.aggc
        refine ⟨run_load_agg hok hk hb (by rw [h.1]; exact h1) hf, hr⟩
      | _ => exact h.elim
    | false =>
      simp only [hk] at h
      cases B with
      | agg l => exact h.elim
      | _ =>
        refine ⟨_, h, fun w O O0 g x b p arr e fz hb hf hr => ?_⟩
        have h1 := hr.cells1 rfl
        have h2 := hf 0 (by rw [h1]; simp)
        rw [h1] at h2
        exact ⟨run_load_scalar hok hk hb (by simpa using h2), hr.up⟩

/-- A record's field, or the whole value. -/
def fieldOf (t : Ty) (x : t.T) (j : Nat) : Option SV := match t.leaf with
  | true => match j with
    | 0 => some (t.enc x)
    | _ => none
  | false => (t.encL x)[j]?

theorem enc_leaf : ∀ (t : Ty) (x : t.T), t.leaf = true → (t.enc x).isAgg = false
  | .int _, _, _ => rfl
  | .bool, _, _ => rfl
  | .str, _, _ => rfl
  | .sl _, _, _ => rfl
theorem enc_cons : ∀ (t : Ty) (x : t.T), t.leaf = false → t.enc x = .agg (t.encL x)
  | .nil, _, _ => rfl
  | .cons _ _, _, _ => rfl
theorem encL_len : ∀ (t : Ty) (x : t.T), t.good = true → t.leaf = false → (t.encL x).length = t.size
  | .nil, _, _, _ => rfl
  | .cons h t, x, hg, _ => by
    simp only [Ty.encL, List.length_cons, Ty.size]
    rw [encL_len t x.2]
    · simp only [Ty.good, Bool.and_eq_true] at hg; exact hg.1.2
    · simp only [Ty.good, Bool.and_eq_true] at hg
      cases t <;> first | rfl | (simp at hg)

/-- Loading from what the call owns: an element, or a field of it; a boxed variable, or a field of it. -/
def lv1 : List AV → Bool
  | [] => true
  | .tup _ :: _ => false
  | .strct _ :: _ => false
  | .fn _ _ :: _ => false
  | _ :: r => lv1 r
theorem lv1_get {w : World} {O O0 : Nat → Prop} {g : Nat → Value} {x : Value} : ∀ {l : List AV} {i : Nat} {B : AV}, lv1 l = true → l[i]? = some B → Rp2 w O O0 g x B → Rp1 w O O0 g x B
  | [], _, _, _, h, _ => by simp at h
  | A :: r, 0, B, hl, h, hr => by
    simp at h
    subst h
    cases A <;> first | exact hr | cases hl
  | A :: r, i + 1, B, hl, h, hr => lv1_get (l := r) (i := i) (by cases A <;> first | exact hl | cases hl) (by simpa using h) hr

def loadVC (T : List (Nat × TE)) (own : List (Nat × Ob)) (G : Path) (t : TypeId) (A : AV) (K : AV → Prop) : Prop := match A with
  | .st fr (.sadr B) => loadS T t fr B K
  | .oadr k es i j => match get? own k with
    | some (.row e τ fr xs) => match get? T t with
      | some te => match te.kind.isAgg with
        | false => match fieldOf τ (xs.getD i τ.dflt) j with
          | some B => es = τ.size ∧ τ.good = true ∧ G.imp (i < xs.length) ∧ K (up fr B)
          | none => False
        | true => match j with
          | 0 => es = τ.size ∧ G.imp (i < xs.length) ∧ loadS T t fr (τ.enc (xs.getD i τ.dflt)) K
          | _ => False
      | none => False
    | _ => False
  | .madr k i => match get? own k with
    | some (.mat _ _ _ _ xs none) => match get? T t with
      | some te => match te.kind.isAgg with
        | false => G.imp (i < xs.length) ∧ K (.inn k i)
        | true => False
      | none => False
    | _ => False
  | .iadr k ii es i j => match get? own k with
    | some (.mat _ _ τ fr xss _) => match get? T t with
      | some te => match te.kind.isAgg with
        | false => match fieldOf τ ((xss.getD ii []).getD i τ.dflt) j with
          | some B => es = τ.size ∧ τ.good = true ∧ G.imp (i < (xss.getD ii []).length) ∧ K (up fr B)
          | none => False
        | true => match j with
          | 0 => es = τ.size ∧ G.imp (i < (xss.getD ii []).length) ∧ loadS T t fr (τ.enc ((xss.getD ii []).getD i τ.dflt)) K
          | _ => False
      | none => False
    | _ => False
  | .padr k j => match get? own k with
    | some (.box l) => match get? T t with
      | some te => match te.kind.isAgg, j with
        | false, j => match l[j]? with
          | some B => K B
          | none => False
        | true, 0 => te.size = l.length ∧ lv1 l = true ∧ K (.strct l)
        | _, _ => False
      | none => False
    | some (.box1 B) => match get? T t, j with
      | some te, 0 => match te.kind.isAgg with
        | false => K B
        | true => False
      | _, _ => False
    | _ => False
  | _ => False

theorem ownRow {w : World} {base : Nat} {O O0 : Nat → Prop} {g : Nat → Value} {v : Value} {e : TypeId} {τ : Ty} {fr : Bool} {xs : List τ.T} {b n cp : Nat}
    (h : OwnOk w base O O0 g v (.row e τ fr xs)) (hv : v = .slice (some ⟨b, 0, none⟩) n cp) :
    ∃ (arr : Array Value) (f : Nat → Value), w.heap[b]? = some (.cells arr e (0, 0)) ∧ n = xs.length ∧ n ≤ cp ∧ cp ≤ maxLen ∧ arr.size = cp * τ.size ∧
      (∀ i, i < xs.length → (f i).cells.size = τ.size ∧ ∀ j, j < τ.size → arr[i * τ.size + j]? = (f i).cells[j]?) ∧ ∀ i x, xs[i]? = some x → RpS w (Av O O0 fr) (f i) (τ.enc x) := by
  obtain ⟨ys, ho, h1, f, h2, h3⟩ := h
  subst hv
  rcases ho.2 with ⟨h4, _⟩ | ⟨b', cap, cur, h4, h5, h6, h7, h8, h9, h10⟩
  · cases h4
  · cases h4
    refine ⟨cur, f, h6, rfl, h7, h8, h9, fun i hi => ⟨(h2 i hi).1, fun j hj => ?_⟩, h3⟩
    rw [← (h2 i hi).2 j hj]
    show _ = ys[i * τ.size + j]?
    rw [← h10, List.getElem?_take]
    have : i * τ.size + j < xs.length * τ.size := by
      have : (i + 1) * τ.size ≤ xs.length * τ.size := Nat.mul_le_mul_right _ hi
      rw [Nat.add_mul, Nat.one_mul] at this
      omega
    simp [this]

theorem getD_some {α : Type} {xs : List α} {i : Nat} {d : α} (hi : i < xs.length) : xs[i]? = some (xs.getD i d) := by simp [List.getD, hi]
theorem loadVC.sound {P : Program} {T : List (Nat × TE)} (hT : TOk P T) {c : Cx} {o : Oper} {Γ : Sy} {G : Path} {t : TypeId} {x : Operand} {A : AV} {K : AV → Prop} (ho : o.op = .load t x)
    (hx : Ev c Γ G x A) (h : loadVC T Γ.own G t A K) : ∃ R, (G.ok → Does P c o Γ R []) ∧ K R := by
  have fin : ∀ R, (∀ Γ' g a w, G.ok → (∀ k b, get? Γ.own k = some b → get? Γ'.own k = some b) → St c Γ' g a w → Rp2 w (Oset Γ'.own g) c.O0 g (a.eval x) A →
      ∃ v, (Instr.loadAt t (a.eval x)).run P w = .ok v w ∧ Rp2 w (Oset Γ'.own g) c.O0 g v R) → (G.ok → Does P c o Γ R []) := by
    intro R hR hG
    refine Does.value fun Γ' g a w hl hown hst => ?_
    obtain ⟨v, h1, h2⟩ := hR Γ' g a w hG hown hst (hx hG Γ' g a w (hl x (by simp [ho, Op.operands])) hst)
    exact ⟨v, by simp [execOp, ho, h1], h2⟩
  unfold loadVC at h
  split at h
  · rename_i fr B
    obtain ⟨R, hK, hR⟩ := loadS.sound hT h
    refine ⟨R, fin R fun Γ' g a w hG hown hst h1 => ?_, hK⟩
    simp only [Rp2, Rp1] at h1
    generalize a.eval x = v at h1
    cases h1 with
    | sadr b off _ y arr e fz hb hO hf hr => exact ⟨y, hR w _ _ g y b off arr e fz hb hf hr⟩
  · rename_i k es i j
    split at h
    · rename_i e τ fr xs hk
      split at h
      · rename_i te hte
        split at h
        · rename_i hagg
          split at h
          · rename_i B hB
            obtain ⟨h1, hg, h2, hK⟩ := h
            refine ⟨_, fin _ fun Γ' g a w hG hown hst h3 => ?_, hK⟩
            obtain ⟨b, n, cp, h4, h5⟩ := h3
            obtain ⟨arr, f, h6, h7, h8, h9, h10, h11, h12⟩ := ownRow (hst.hp.ok k _ (hown k _ hk)) h4
            have hi := Path.imp_ok h2 hG
            have hxi : xs[i]? = some (xs.getD i τ.dflt) := by simp [List.getD, hi]
            have hr := h12 i _ hxi
            rw [h5, h1]
            have hcell := (h11 i hi).2
            have hsz := (h11 i hi).1
            unfold fieldOf at hB
            cases hlf : τ.leaf with
            | true =>
              rw [hlf] at hB
              cases j with
              | succ j => cases hB
              | zero =>
                cases hB
                have hc := hr.cells1 (enc_leaf _ _ hlf)
                rw [hc] at hsz hcell
                have h0 := hcell 0 (by rw [← hsz]; simp)
                exact ⟨_, run_load_scalar (hT _ _ hte) hagg h6 (by simpa using h0), hr.up⟩
            | false =>
              rw [hlf] at hB
              rw [enc_cons _ _ hlf] at hr
              obtain ⟨cs, hcs, h13, h14⟩ := hr.aggc
              obtain ⟨y, h15, h16, h17⟩ := h14 j B hB
              have hj : j < τ.size := by
                have := (List.getElem?_eq_some_iff.1 hB).1
                rwa [encL_len τ _ hg hlf] at this
              have h0 := hcell j hj
              rw [hcs] at h0
              simp only [Value.cells] at h0
              rw [h15] at h0
              exact ⟨y, run_load_scalar (hT _ _ hte) hagg h6 h0, h17.up⟩
          · exact h.elim
        · rename_i hagg
          split at h
          · obtain ⟨h1, h2, h3⟩ := h
            obtain ⟨R, hK, hR⟩ := loadS.sound hT h3
            refine ⟨R, fin R fun Γ' g a w hG hown hst h3 => ?_, hK⟩
            obtain ⟨b, n, cp, h4, h5⟩ := h3
            obtain ⟨arr, f, h6, h7, h8, h9, h10, h11, h12⟩ := ownRow (hst.hp.ok k _ (hown k _ hk)) h4
            have hi := Path.imp_ok h2 hG
            have hxi : xs[i]? = some (xs.getD i τ.dflt) := by simp [List.getD, hi]
            rw [h5, h1]
            refine ⟨f i, hR w _ _ g (f i) b _ arr e (0, 0) h6 (fun j hj => ?_) (h12 i _ hxi)⟩
            rw [Nat.add_zero]
            exact (h11 i hi).2 j (by rw [← (h11 i hi).1]; exact hj)
          · exact h.elim
      · exact h.elim
    · exact h.elim
  · rename_i k i
    split at h
    · rename_i e0 e τ fr xs hk
      split at h
      · rename_i te hte
        split at h
        · rename_i hagg
          obtain ⟨h1, hK⟩ := h
          refine ⟨_, fin _ fun Γ' g a w hG hown hst h3 => ?_, hK⟩
          obtain ⟨b, n, cp, h4, h5⟩ := h3
          obtain ⟨⟨cells, g1, g2, g3⟩, _⟩ := hst.hp.ok k _ (hown k _ hk)
          have hi := Path.imp_ok h1 hG
          have g4 := g3 i hi (by simp)
          rcases g1.2 with ⟨g5, _⟩ | ⟨b', cap, cur, g5, g6, g7, g8, g9, g10, g11⟩
          · rw [h4] at g5; cases g5
          · rw [h4] at g5
            cases g5
            rw [h5]
            refine ⟨_, run_load_scalar (hT _ _ hte) hagg g7 (v := sub (g k) i) ?_, rfl⟩
            rw [← g11, List.getElem?_take] at g4
            split at g4
            · simpa using g4
            · cases g4
        · exact h.elim
      · exact h.elim
    · exact h.elim
  · rename_i k ii es i j
    split at h
    · rename_i e0 e τ fr xss st hk
      split at h
      · rename_i te hte
        split at h
        · rename_i hagg
          split at h
          · rename_i B hB
            obtain ⟨h1, hg, h2, hK⟩ := h
            refine ⟨_, fin _ fun Γ' g a w hG hown hst h3 => ?_, hK⟩
            obtain ⟨b, n, cp, h4, h5⟩ := h3
            obtain ⟨arr, f, h6, h7, h8, h9, h10, h11, h12⟩ := ownRow (g := g) (xs := xss.getD ii []) ((hst.hp.ok k _ (hown k _ hk)).2.1 ii) h4
            have hi := Path.imp_ok h2 hG
            have hxi : (xss.getD ii [])[i]? = some ((xss.getD ii []).getD i τ.dflt) := getD_some hi
            have hr := h12 i _ hxi
            rw [h5, h1]
            have hcell := (h11 i hi).2
            have hsz := (h11 i hi).1
            unfold fieldOf at hB
            cases hlf : τ.leaf with
            | true =>
              rw [hlf] at hB
              cases j with
              | succ j => cases hB
              | zero =>
                cases hB
                have hc := hr.cells1 (enc_leaf _ _ hlf)
                rw [hc] at hsz hcell
                have h0 := hcell 0 (by rw [← hsz]; simp)
                exact ⟨_, run_load_scalar (hT _ _ hte) hagg h6 (by simpa using h0), hr.up⟩
            | false =>
              rw [hlf] at hB
              rw [enc_cons _ _ hlf] at hr
              obtain ⟨cs, hcs, h13, h14⟩ := hr.aggc
              obtain ⟨y, h15, h16, h17⟩ := h14 j B hB
              have hj : j < τ.size := by
                have := (List.getElem?_eq_some_iff.1 hB).1
                rwa [encL_len τ _ hg hlf] at this
              have h0 := hcell j hj
              rw [hcs] at h0
              simp only [Value.cells] at h0
              rw [h15] at h0
              exact ⟨y, run_load_scalar (hT _ _ hte) hagg h6 h0, h17.up⟩
          · exact h.elim
        · rename_i hagg
          split at h
          · obtain ⟨h1, h2, h3⟩ := h
            obtain ⟨R, hK, hR⟩ := loadS.sound hT h3
            refine ⟨R, fin R fun Γ' g a w hG hown hst h3 => ?_, hK⟩
            obtain ⟨b, n, cp, h4, h5⟩ := h3
            obtain ⟨arr, f, h6, h7, h8, h9, h10, h11, h12⟩ := ownRow (g := g) (xs := xss.getD ii []) ((hst.hp.ok k _ (hown k _ hk)).2.1 ii) h4
            have hi := Path.imp_ok h2 hG
            have hxi : (xss.getD ii [])[i]? = some ((xss.getD ii []).getD i τ.dflt) := getD_some hi
            rw [h5, h1]
            refine ⟨f i, hR w _ _ g (f i) b _ arr e (0, 0) h6 (fun j hj => ?_) (h12 i _ hxi)⟩
            rw [Nat.add_zero]
            exact (h11 i hi).2 j (by rw [← (h11 i hi).1]; exact hj)
          · exact h.elim
      · exact h.elim
    · exact h.elim
  · rename_i k j
    split at h
    · rename_i l hk
      split at h
      · rename_i te hte
        split at h
        · rename_i hagg
          split at h
          · rename_i B hB
            refine ⟨B, fin B fun Γ' g a w hG hown hst h3 => ?_, h⟩
            obtain ⟨b, h4, h5⟩ := h3
            obtain ⟨b', arr, e, h6, h7, h8, h9, h10⟩ := hst.hp.ok k _ (hown k _ hk)
            rw [h4] at h6
            cases h6
            obtain ⟨y, h11, h12, h13⟩ := h10 _ B hB
            rw [h5]
            exact ⟨y, run_load_scalar (hT _ _ hte) hagg h8 h11, h13⟩
          · exact h.elim
        · rename_i hagg
          obtain ⟨h1, h2, hK⟩ := h
          refine ⟨_, fin _ fun Γ' g a w hG hown hst h3 => ?_, hK⟩
          obtain ⟨b, h4, h5⟩ := h3
          obtain ⟨b', arr, e, h6, h7, h8, h9, h10⟩ := hst.hp.ok k _ (hown k _ hk)
          rw [h4] at h6
          cases h6
          rw [h5]
          refine ⟨.agg arr, run_load_agg (hT _ _ hte) hagg h8 (by rw [h9, h1]) (fun j _ => by simp), fun i => arr.getD i undef, arr, rfl, h9, fun i B hB => ?_⟩
          obtain ⟨y, h11, h12, h13⟩ := h10 i B hB
          have : arr.getD i undef = y := by simp [Array.getD_eq_getD_getElem?, h11]
          dsimp only
          rw [this]
          exact ⟨⟨h11, h12⟩, lv1_get h2 hB h13⟩
        · exact h.elim
      · exact h.elim
    · rename_i B hk
      split at h
      · rename_i te hte
        split at h
        · rename_i hagg
          refine ⟨B, fin B fun Γ' g a w hG hown hst h3 => ?_, h⟩
          obtain ⟨b, h4, h5⟩ := h3
          obtain ⟨b', y, e, h6, h7, h8, h9, h10⟩ := hst.hp.ok k _ (hown k _ hk)
          rw [h4] at h6
          cases h6
          rw [h5]
          exact ⟨y, run_load_scalar (hT _ _ hte) hagg h8 (by simp), h10⟩
        · exact h.elim
      · exact h.elim
    · exact h.elim
  · exact h.elim
end Go.Vc
