/- What an operation does to the symbolic state of Vc1: operations that only compute, or read. No condition. -/
import Derived.Test.YtohfemfgnohhdaaVc2
import Derived.IntWalk
namespace Go.Vc
set_option linter.unusedVariables false
set_option linter.unusedSimpArgs false

/-- A row of the table of types. -/
inductive TK where
  | int (k : IntKind) | bool | str | sl (e : TypeId) | strct (l : List (Nat × TypeId)) | arr (n : Nat) (e : TypeId) | map (k e : TypeId) | oth
def TK.of : TypeDesc → TK
  | .int k => .int k
  | .bool => .bool
  | .string => .str
  | .slice e => .sl e
  | .struct fs => .strct (fs.toList.map fun f => (f.offset, f.type))
  | .array n e => .arr n e
  | .map k e => .map k e
  | _ => .oth
def TK.isAgg : TK → Bool
  | .strct _ => true
  | .arr _ _ => true
  | _ => false
structure TE where
  kind : TK
  size : Nat
  bytes : Nat
  zero : Value
  ty : Option Ty
def TE.ok (P : Program) (t : TypeId) (x : TE) : Prop :=
  (P.info? t).map (fun i => (i.zero, i.size, i.bytes)) = some (some x.zero, x.size, x.bytes) ∧ (P.underlying t).map TK.of = some x.kind ∧
  (∀ y, x.ty = some y → x.zero.cells.toList = y.zcells ∧ x.size = y.size ∧ y.good = true ∧ 0 < y.size ∧ x.bytes ≤ 4096 ∧ x.kind.isAgg = !y.leaf)
def TOk (P : Program) (T : List (Nat × TE)) : Prop := ∀ t x, get? T t = some x → x.ok P t
theorem TOk.nil (P : Program) : TOk P [] := fun _ _ h => by cases h
theorem TOk.cons {P : Program} {t : TypeId} {x : TE} {T : List (Nat × TE)} (h : x.ok P t) (hT : TOk P T) : TOk P ((t, x) :: T) := by
  intro t' y hy
  simp only [get?] at hy
  cases hb : Nat.beq t t' with
  | true =>
    rw [hb] at hy
    cases hy
    rw [← Nat.eq_of_beq_eq_true hb]
    exact h
  | false => rw [hb] at hy; exact hT t' y hy

theorem TE.ok.under {P : Program} {t : TypeId} {x : TE} (h : x.ok P t) : ∃ d, P.underlying t = some d ∧ TK.of d = x.kind := by
  have := h.2.1
  cases hd : P.underlying t with
  | none => rw [hd] at this; cases this
  | some d => rw [hd] at this; exact ⟨d, rfl, by simpa using this⟩
theorem TE.ok.info {P : Program} {t : TypeId} {x : TE} (h : x.ok P t) : ∃ i, P.info? t = some i ∧ i.zero = some x.zero ∧ i.size = x.size ∧ i.bytes = x.bytes := by
  have := h.1
  cases hd : P.info? t with
  | none => rw [hd] at this; cases this
  | some d => rw [hd] at this; simp at this; exact ⟨d, rfl, this.1, this.2.1, this.2.2⟩
theorem TE.ok.sl {P : Program} {t : TypeId} {x : TE} (h : x.ok P t) {e : TypeId} (hk : x.kind = .sl e) : P.underlying t = some (.slice e) := by
  obtain ⟨d, h1, h2⟩ := h.under
  rw [hk] at h2
  cases d <;> simp [TK.of] at h2
  subst h2; exact h1
theorem TE.ok.int {P : Program} {t : TypeId} {x : TE} (h : x.ok P t) {k : IntKind} (hk : x.kind = .int k) : P.underlying t = some (.int k) := by
  obtain ⟨d, h1, h2⟩ := h.under
  rw [hk] at h2
  cases d <;> simp [TK.of] at h2
  subst h2; exact h1
theorem TE.ok.strct {P : Program} {t : TypeId} {x : TE} (h : x.ok P t) {l : List (Nat × TypeId)} (hk : x.kind = .strct l) : ∃ fs, P.underlying t = some (.struct fs) ∧ fs.toList.map (fun f => (f.offset, f.type)) = l := by
  obtain ⟨d, h1, h2⟩ := h.under
  rw [hk] at h2
  cases d <;> simp only [TK.of] at h2 <;> first | (cases h2; done) | skip
  rename_i fs
  exact ⟨fs, h1, by simpa using h2⟩
theorem TE.ok.isAgg {P : Program} {t : TypeId} {x : TE} (h : x.ok P t) (w : World) : (Go.isAgg t).run P w = .ok x.kind.isAgg w := by
  obtain ⟨d, h1, h2⟩ := h.under
  rw [← h2]
  cases d <;> simp [Go.isAgg, run_underlying h1, TK.of, TK.isAgg]

/-- An operand, as the symbolic state has it. -/
def look (Γ : Sy) : Operand → Option AV
  | .tmp t => get? Γ.tmps t
  | .const v => match v.oneCell' with
    | true => some (.lit v)
    | false => none
  | .func f => some (.fn f [])
  | .global _ => none

theorem St.look {c : Cx} {Γ : Sy} {g : Nat → Value} {a : Act} {w : World} (h : St c Γ g a w) {x : Operand} {A : AV} (hx : Vc.look Γ x = some A) : Rp w (Oset Γ.own g) c.O0 g (a.eval x) A := by
  cases x with
  | tmp t => exact h.tmps t A hx
  | const v =>
    simp only [Vc.look] at hx
    cases hv : v.oneCell' with
    | false => rw [hv] at hx; cases hx
    | true => rw [hv] at hx; cases hx; exact ⟨rfl, hv⟩
  | func f => cases hx; exact ⟨fun _ => undef, #[], rfl, rfl, fun i B hB => by simp at hB⟩
  | global => cases hx

/-- Under the path G the operand x has the value A: in every state that looks the same there. -/
def Ev (c : Cx) (Γ : Sy) (G : Path) (x : Operand) (A : AV) : Prop :=
  G.ok → ∀ Γ' g a w, look Γ' x = look Γ x → St c Γ' g a w → Rp2 w (Oset Γ'.own g) c.O0 g (a.eval x) A

def withOp (Γ : Sy) (G : Path) (x : Operand) (K : AV → Prop) : Prop := match look Γ x with
  | some (.gd p A) => G.drop (G.length - p.length) = p ∧ K A
  | some A => K A
  | none => False

theorem Path.ok_drop : ∀ {G : Path} (n : Nat), G.ok → Path.ok (G.drop n)
  | _, 0, h => h
  | [], _ + 1, h => h
  | _ :: r, n + 1, h => Path.ok_drop (G := r) n h.2

theorem withOp.ev {c : Cx} {Γ : Sy} {G : Path} {x : Operand} {K : AV → Prop} (h : withOp Γ G x K) : ∃ A, Ev c Γ G x A ∧ K A := by
  unfold withOp at h
  cases hl : look Γ x with
  | none => rw [hl] at h; exact h.elim
  | some A =>
    rw [hl] at h
    cases A with
    | gd p A =>
      obtain ⟨h1, h2⟩ := h
      refine ⟨A, fun hG Γ' g a w hx hst => ?_, h2⟩
      rw [hl] at hx
      exact (hst.look hx).1 (h1 ▸ Path.ok_drop _ hG)
    | _ => exact ⟨_, fun hG Γ' g a w hx hst => by rw [hl] at hx; exact hst.look hx, h⟩

def withOps (Γ : Sy) (G : Path) : List Operand → (List AV → Prop) → Prop
  | [], K => K []
  | x :: r, K => withOp Γ G x fun A => withOps Γ G r fun l => K (A :: l)

theorem withOps.ev {c : Cx} {Γ : Sy} {G : Path} : ∀ {xs : List Operand} {K : List AV → Prop}, withOps Γ G xs K → ∃ l, l.length = xs.length ∧ (∀ (i : Nat) (x : Operand) (A : AV), xs[i]? = some x → l[i]? = some A → Ev c Γ G x A) ∧ K l
  | [], K, h => ⟨[], rfl, fun i x A hx => by simp at hx, h⟩
  | x :: r, K, h => by
    obtain ⟨A, h1, h2⟩ := withOp.ev (c := c) h
    obtain ⟨l, h3, h4, h5⟩ := withOps.ev (c := c) h2
    refine ⟨A :: l, by simp [h3], fun i y B hy hB => ?_, h5⟩
    cases i with
    | zero => simp at hy hB; subst hy; subst hB; exact h1
    | succ i => exact h4 i y B (by simpa using hy) (by simpa using hB)

/-- The operation o, in every state that agrees with Γ where it looks: it yields A, and adopts N. -/
def Does (P : Program) (c : Cx) (o : Oper) (Γ : Sy) (A : AV) (N : List (Nat × Ob)) : Prop :=
  ∀ (Γ' : Sy) (g : Nat → Value) (a : Act) (w : World) (next : Act → World → Prop) (Q : Exit → Act → World → Prop),
    (∀ x ∈ o.op.operands, look Γ' x = look Γ x) → (∀ k b, get? Γ.own k = some b → get? Γ'.own k = some b) → (∀ k b, get? N k = some b → Γ'.free k) → St c Γ' g a w →
    (∀ g' v w', St c ⟨Γ'.tmps, N ++ Γ'.own⟩ g' a w' → Rp2 w' (Oset (N ++ Γ'.own) g') c.O0 g' v A → next (a.put o.dst v) w') → o.wp P a w next Q

theorem Does.value {P : Program} {c : Cx} {o : Oper} {Γ : Sy} {A : AV}
    (h : ∀ (Γ' : Sy) (g : Nat → Value) (a : Act) (w : World), (∀ x ∈ o.op.operands, look Γ' x = look Γ x) → (∀ k b, get? Γ.own k = some b → get? Γ'.own k = some b) → St c Γ' g a w →
      ∃ v, (execOp a.eval o).run P w = .ok (.value v) w ∧ Rp2 w (Oset Γ'.own g) c.O0 g v A) : Does P c o Γ A [] := by
  intro Γ' g a w next Q hl ho _ hst hk
  obtain ⟨v, h1, h2⟩ := h Γ' g a w hl ho hst
  unfold Oper.wp
  rw [h1]
  exact hk g v w hst h2

/-- The world in which what is kept is there. -/
def Cx.S (c : Cx) (w : World) : Prop := ∀ b x, c.K b = some x → w.heap[b]? = some (.cells x.1 x.2.1 x.2.2)
theorem St.s {c : Cx} {Γ : Sy} {g : Nat → Value} {a : Act} {w : World} (h : St c Γ g a w) : c.S w := fun b x hb => (h.kept b x hb).1
/-- All that is not the call's own is kept. -/
def Cx.full (c : Cx) (w : World) (O : Nat → Prop) : Prop := ∀ b x e fz, w.heap[b]? = some (.cells x e fz) → ¬ O b → c.K b = some (x, e, fz)
/-- The operation yields a value that no world turns in which what is kept is there. -/
def Still (P : Program) (c : Cx) (o : Oper) (Γ : Sy) (A : AV) : Prop :=
  ∀ (Γ' : Sy) (g : Nat → Value) (a : Act) (w : World), (∀ x ∈ o.op.operands, look Γ' x = look Γ x) → (∀ k b, get? Γ.own k = some b → get? Γ'.own k = some b) → St c Γ' g a w →
      c.full w (Oset Γ'.own g) → ∃ v, (∀ w', c.S w' → (execOp a.eval o).run P w' = .ok (.value v) w') ∧ Rp2 w (Oset Γ'.own g) c.O0 g v A
def Still0 (P : Program) (c : Cx) (o : Oper) (Γ : Sy) (A : AV) : Prop :=
  ∀ (Γ' : Sy) (g : Nat → Value) (a : Act) (w : World), (∀ x ∈ o.op.operands, look Γ' x = look Γ x) → (∀ k b, get? Γ.own k = some b → get? Γ'.own k = some b) → St c Γ' g a w →
      ∃ v, (∀ w', (execOp a.eval o).run P w' = .ok (.value v) w') ∧ Rp2 w (Oset Γ'.own g) c.O0 g v A
theorem Still0.still {P : Program} {c : Cx} {o : Oper} {Γ : Sy} {A : AV} (h : Still0 P c o Γ A) : Still P c o Γ A :=
  fun Γ' g a w hl hown hst _ => let ⟨v, h1, h2⟩ := h Γ' g a w hl hown hst; ⟨v, fun w' _ => h1 w', h2⟩
theorem Still0.does {P : Program} {c : Cx} {o : Oper} {Γ : Sy} {A : AV} (h : Still0 P c o Γ A) : Does P c o Γ A [] :=
  Does.value fun Γ' g a w hl hown hst => let ⟨v, h1, h2⟩ := h Γ' g a w hl hown hst; ⟨v, h1 w, h2⟩
/-- Integers that fit. -/
def InK : IntKind → Int → Prop
  | .i64, n => -9223372036854775808 ≤ n ∧ n ≤ 9223372036854775807
  | .i32, n => -2147483648 ≤ n ∧ n ≤ 2147483647
  | .u8, n => 0 ≤ n ∧ n ≤ 255
  | .u32, n => 0 ≤ n ∧ n ≤ 4294967295
  | .u64, n => 0 ≤ n ∧ n ≤ 18446744073709551615
  | k, n => k.wrap n = n
theorem InK.wrap {k : IntKind} {n : Int} (h : InK k n) : k.wrap n = n := by
  cases k <;> first
    | exact IntWalk.i64_in n h
    | exact IntWalk.i32_in n h
    | exact IntWalk.u8_in n h
    | exact IntWalk.u32_in n h
    | exact IntWalk.u64_in n h
    | exact h

/-- A side condition under a path. -/
def Path.imp : Path → Prop → Prop
  | [], s => s
  | x :: r, s => x.1 = x.2 → Path.imp r s
theorem Path.imp_ok : ∀ {G : Path} {s : Prop}, G.imp s → G.ok → s
  | [], _, h, _ => h
  | _ :: _, _, h, hG => Path.imp_ok (h hG.1) hG.2

def eqKind (a b : IntKind) : Bool := decide (a = b)
/-- A binary operation on integers or bools. -/
def binVC (T : List (Nat × TE)) (G : Path) (op : BinOp) (t : TypeId) (A B : AV) (K : AV → Prop) : Prop := match A, B with
  | .lit (.int k a), .lit (.int k' b) => match eqKind k k' with
    | false => False
    | true => match op with
      | .add => G.imp (InK k (a + b)) ∧ K (.lit (.int k (a + b)))
      | .sub => G.imp (InK k (a - b)) ∧ K (.lit (.int k (a - b)))
      | .mul => G.imp (InK k (a * b)) ∧ K (.lit (.int k (a * b)))
      | .quo => G.imp (b ≠ 0 ∧ InK k (a.tdiv b)) ∧ K (.lit (.int k (a.tdiv b)))
      | .rem => G.imp (b ≠ 0) ∧ K (.lit (.int k (a.tmod b)))
      | .lss => K (.lit (.bool (decide (a < b))))
      | .leq => K (.lit (.bool (decide (a ≤ b))))
      | .gtr => K (.lit (.bool (decide (b < a))))
      | .geq => K (.lit (.bool (decide (b ≤ a))))
      | .eql => K (.lit (.bool (decide (a = b))))
      | .neq => K (.lit (.bool (!decide (a = b))))
      | _ => False
  | .lit (.bool a), .lit (.bool b) => match get? T t with
    | some { kind := .bool, .. } => match op with
      | .eql => K (.lit (.bool (a == b)))
      | .neq => K (.lit (.bool (a != b)))
      | _ => False
    | _ => False
  | .lit (.slice none _ _), .lit (.slice none _ _) => match get? T t with
    | some { kind := .sl _, .. } => match op with
      | .eql => K (.lit (.bool true))
      | .neq => K (.lit (.bool false))
      | _ => False
    | _ => False
  | .st _ (.narr _ xs), .lit (.slice none _ _) => match get? T t with
    | some { kind := .sl _, .. } => match op with
      | .eql => K (.lit (.bool xs.isEmpty))
      | .neq => K (.lit (.bool (!xs.isEmpty)))
      | _ => False
    | _ => False
  | _, _ => False

def isNilS : Value → Bool
  | .slice none _ _ => true
  | _ => false
theorem equalIn_bool {P : Program} {t : TypeId} (hu : P.underlying t = some .bool) (d : Nat) (a b : Bool) (w : World) : (Op.equalIn (d + 1) t (.bool a) (.bool b)).run P w = .ok (a == b) w := by
  rw [Op.equalIn]
  simp only [Sem.run_bind, run_underlying hu, Result.andThen_ok]
  rfl
theorem equal_bool {P : Program} {t : TypeId} (hu : P.underlying t = some .bool) (a b : Bool) (w : World) : (Op.equal t (.bool a) (.bool b)).run P w = .ok (a == b) w := equalIn_bool hu 9999 a b w
theorem equalIn_slice {P : Program} {t e : TypeId} (hu : P.underlying t = some (.slice e)) (d : Nat) (v : Value) (h : (∃ a n c, v = .slice a n c)) (n c : Nat) (w : World) :
    (Op.equalIn (d + 1) t v (.slice none n c)).run P w = .ok (isNilS v) w := by
  obtain ⟨a, n', c', rfl⟩ := h
  rw [Op.equalIn]
  simp only [Sem.run_bind, run_underlying hu, Result.andThen_ok]
  cases a <;> rfl
theorem equal_slice {P : Program} {t e : TypeId} (hu : P.underlying t = some (.slice e)) (v : Value) (h : (∃ a n c, v = .slice a n c)) (n c : Nat) (w : World) :
    (Op.equal t v (.slice none n c)).run P w = .ok (isNilS v) w := equalIn_slice hu 9999 v h n c w
theorem TE.ok.bool {P : Program} {t : TypeId} {x : TE} (h : x.ok P t) (hk : x.kind = .bool) : P.underlying t = some .bool := by
  obtain ⟨d, h1, h2⟩ := h.under
  rw [hk] at h2
  cases d <;> simp [TK.of] at h2
  exact h1
theorem RpS.narr_nil {w : World} {O : Nat → Prop} {v : Value} {t : Ty} {xs : List t.T} (h : RpS w O v (.narr t xs)) : (∃ a n c, v = .slice a n c) ∧ (isNilS v) = xs.isEmpty := by
  cases h with
  | narr _ _ _ h hn =>
    cases h with
    | nil => exact ⟨⟨_, _, _, rfl⟩, rfl⟩
    | emp a cap => have := hn rfl; cases this
    | arr b off cap n _ _ _ _ _ _ _ _ _ _ _ _ =>
      refine ⟨⟨_, _, _, rfl⟩, ?_⟩
      cases xs with
      | nil => simp at hn
      | cons => rfl

theorem binVC.any {P : Program} {T : List (Nat × TE)} (hT : TOk P T) {c : Cx} {o : Oper} {Γ : Sy} {G : Path} {op : BinOp} {t t' : TypeId} {x y : Operand} {A B : AV} {K : AV → Prop}
    (ho : o.op = .binOp op t x y t') (hx : Ev c Γ G x A) (hy : Ev c Γ G y B) (h : binVC T G op t A B K) : ∃ R, (G.ok → Still0 P c o Γ R) ∧ K R := by
  unfold binVC at h
  split at h
  · rename_i k a k' b
    cases hk : eqKind k k' with
    | false => rw [hk] at h; exact h.elim
    | true =>
      rw [hk] at h
      have hk' : k = k' := by simpa [eqKind] using hk
      subst hk'
      have go : ∀ r : Value, r.oneCell' = true → (G.ok → ∀ w, (Go.binOp op t (.int k a) (.int k b)).run P w = .ok r w) → (G.ok → Still0 P c o Γ (.lit r)) := by
        intro r hr hrun hG
        intro Γ' g ac w hl _ hst
        have h1 := hx hG Γ' g ac w (hl x (by simp [ho, Op.operands])) hst
        have h2 := hy hG Γ' g ac w (hl y (by simp [ho, Op.operands])) hst
        refine ⟨r, fun w => ?_, rfl, hr⟩
        simp only [Rp2, Rp1] at h1 h2
        simp [execOp, ho, h1.1, h2.1, eqGuard, hrun hG w]
        all_goals (split <;> simp [hrun hG w])
      cases op with
      | add => exact ⟨_, go _ rfl (fun hG w => by have := InK.wrap (Path.imp_ok h.1 hG); simp [Go.binOp, Op.intArith, this]), h.2⟩
      | sub => exact ⟨_, go _ rfl (fun hG w => by have := InK.wrap (Path.imp_ok h.1 hG); simp [Go.binOp, Op.intArith, this]), h.2⟩
      | mul => exact ⟨_, go _ rfl (fun hG w => by have := InK.wrap (Path.imp_ok h.1 hG); simp [Go.binOp, Op.intArith, this]), h.2⟩
      | quo => exact ⟨_, go _ rfl (fun hG w => by have h1 := Path.imp_ok h.1 hG; have h2 := InK.wrap h1.2; simp [Go.binOp, Op.intDiv, h1.1, h2]), h.2⟩
      | rem => exact ⟨_, go _ rfl (fun hG w => by have h1 := Path.imp_ok h.1 hG; simp [Go.binOp, Op.intDiv, h1]), h.2⟩
      | lss => exact ⟨_, go _ rfl (fun hG w => by simp [Go.binOp, Op.intCmp]), h⟩
      | leq => exact ⟨_, go _ rfl (fun hG w => by simp [Go.binOp, Op.intCmp]), h⟩
      | gtr => exact ⟨_, go _ rfl (fun hG w => by simp [Go.binOp, Op.intCmp]), h⟩
      | geq => exact ⟨_, go _ rfl (fun hG w => by simp [Go.binOp, Op.intCmp]), h⟩
      | eql => exact ⟨_, go _ rfl (fun hG w => by simp [Go.binOp, Op.intCmp]; cases hd : decide (a = b) <;> simp_all), h⟩
      | neq => exact ⟨_, go _ rfl (fun hG w => by simp [Go.binOp, Op.intCmp]; cases hd : decide (a = b) <;> simp_all), h⟩
      | _ => exact h.elim
  · rename_i a b
    split at h
    · rename_i sz by_ ze ty hty
      have hu := (hT _ _ hty).bool rfl
      have go : ∀ r : Bool, (G.ok → ∀ w, (Go.binOp op t (.bool a) (.bool b)).run P w = .ok (.bool r) w) → (G.ok → Still0 P c o Γ (.lit (.bool r))) := by
        intro r hrun hG
        intro Γ' g ac w hl _ hst
        have h1 := hx hG Γ' g ac w (hl x (by simp [ho, Op.operands])) hst
        have h2 := hy hG Γ' g ac w (hl y (by simp [ho, Op.operands])) hst
        refine ⟨.bool r, fun w => ?_, rfl, rfl⟩
        simp only [Rp2, Rp1] at h1 h2
        simp [execOp, ho, h1.1, h2.1, eqGuard, hrun hG w]
        all_goals (split <;> simp [hrun hG w])
      cases op with
      | eql => exact ⟨_, go _ (fun hG w => by simp [Go.binOp, equal_bool hu]), h⟩
      | neq => exact ⟨_, go _ (fun hG w => by simp [Go.binOp, equal_bool hu, bne]), h⟩
      | _ => exact h.elim
    · exact h.elim
  · split at h
    · rename_i sz by_ ze ty hty
      have hu := (hT _ _ hty).sl rfl
      have go : ∀ r : Bool, (∀ w n1 c1 n2 c2, (Go.binOp op t (.slice none n1 c1) (.slice none n2 c2)).run P w = .ok (.bool r) w) → (G.ok → Still0 P c o Γ (.lit (.bool r))) := by
        intro r hrun hG
        intro Γ' g ac w hl _ hst
        have h1 := hx hG Γ' g ac w (hl x (by simp [ho, Op.operands])) hst
        have h2 := hy hG Γ' g ac w (hl y (by simp [ho, Op.operands])) hst
        refine ⟨.bool r, fun w => ?_, rfl, rfl⟩
        simp only [Rp2, Rp1] at h1 h2
        simp [execOp, ho, h1.1, h2.1, eqGuard, hrun w]
        all_goals (split <;> simp [hrun w])
      cases op with
      | eql => exact ⟨_, go _ (fun w n1 c1 n2 c2 => by simp [Go.binOp, equal_slice hu, isNilS]), h⟩
      | neq => exact ⟨_, go _ (fun w n1 c1 n2 c2 => by simp [Go.binOp, equal_slice hu, isNilS]), h⟩
      | _ => exact h.elim
    · exact h.elim
  · split at h
    · rename_i sz by_ ze ty hty
      have hu := (hT _ _ hty).sl rfl
      rename_i xs _ _ _ _
      have go : ∀ r : Bool, (∀ v w n2 c2, (∃ a n c, v = .slice a n c) → (isNilS v) = xs.isEmpty → (Go.binOp op t v (.slice none n2 c2)).run P w = .ok (.bool r) w) → (G.ok → Still0 P c o Γ (.lit (.bool r))) := by
        intro r hrun hG
        intro Γ' g ac w hl _ hst
        have h1 := hx hG Γ' g ac w (hl x (by simp [ho, Op.operands])) hst
        have h2 := hy hG Γ' g ac w (hl y (by simp [ho, Op.operands])) hst
        refine ⟨.bool r, fun w => ?_, rfl, rfl⟩
        simp only [Rp2, Rp1] at h1 h2
        obtain ⟨h3, h4⟩ := h1.narr_nil
        have h5 := fun n2 c2 => hrun _ w n2 c2 h3 h4
        obtain ⟨av, nv, cv, hv⟩ := h3
        simp only [hv] at h5
        simp [execOp, ho, hv, h2.1, eqGuard, h5]
        all_goals (split <;> simp [h5])
      cases op with
      | eql => exact ⟨_, go _ (fun v w n2 c2 h1 h2 => by obtain ⟨a, n, c, rfl⟩ := h1; simp [Go.binOp, equal_slice hu, h2]), h⟩
      | neq => exact ⟨_, go _ (fun v w n2 c2 h1 h2 => by obtain ⟨a, n, c, rfl⟩ := h1; simp [Go.binOp, equal_slice hu, h2]), h⟩
      | _ => exact h.elim
    · exact h.elim
  · exact h.elim
theorem binVC.sound {P : Program} {T : List (Nat × TE)} (hT : TOk P T) {c : Cx} {o : Oper} {Γ : Sy} {G : Path} {op : BinOp} {t t' : TypeId} {x y : Operand} {A B : AV} {K : AV → Prop}
    (ho : o.op = .binOp op t x y t') (hx : Ev c Γ G x A) (hy : Ev c Γ G y B) (h : binVC T G op t A B K) : ∃ R, (G.ok → Does P c o Γ R []) ∧ K R :=
  let ⟨R, h1, h2⟩ := binVC.any hT ho hx hy h
  ⟨R, fun hG => (h1 hG).does, h2⟩
end Go.Vc
