/- What an operation does to the symbolic state of Vc1: what makes memory; structs; functions; cuts. No condition. -/
import Derived.Test.YtohfemfgnohhdaaVc7
namespace Go.Vc
set_option linter.unusedVariables false
set_option linter.unusedSimpArgs false

/-- Where an operand's value comes from. -/
def Src (Γ : Sy) (x : Operand) (A : AV) : Prop := look Γ x = some A ∨ ∃ p, look Γ x = some (.gd p A)
theorem withOp.ev2 {c : Cx} {Γ : Sy} {G : Path} {x : Operand} {K : AV → Prop} (h : withOp Γ G x K) : ∃ A, (Ev c Γ G x A ∧ Src Γ x A) ∧ K A := by
  unfold withOp at h
  cases hl : look Γ x with
  | none => rw [hl] at h; exact h.elim
  | some A =>
    rw [hl] at h
    cases A with
    | gd p A =>
      obtain ⟨h1, h2⟩ := h
      refine ⟨A, ⟨fun hG Γ' g a w hx hst => ?_, .inr ⟨p, hl⟩⟩, h2⟩
      rw [hl] at hx
      exact (hst.look hx).1 (h1 ▸ Path.ok_drop _ hG)
    | _ => exact ⟨_, ⟨fun hG Γ' g a w hx hst => by rw [hl] at hx; exact hst.look hx, .inl hl⟩, h⟩
theorem withOps.ev2 {c : Cx} {Γ : Sy} {G : Path} : ∀ {xs : List Operand} {K : List AV → Prop}, withOps Γ G xs K → ∃ l, l.length = xs.length ∧ (∀ (i : Nat) (x : Operand) (A : AV), xs[i]? = some x → l[i]? = some A → Ev c Γ G x A ∧ Src Γ x A) ∧ K l
  | [], K, h => ⟨[], rfl, fun i x A hx => by simp at hx, h⟩
  | x :: r, K, h => by
    obtain ⟨A, h1, h2⟩ := withOp.ev2 (c := c) h
    obtain ⟨l, h3, h4, h5⟩ := withOps.ev2 (c := c) h2
    refine ⟨A :: l, by simp [h3], fun i y B hy hB => ?_, h5⟩
    cases i with
    | zero => simp at hy hB; subst hy; subst hB; exact h1
    | succ i => exact h4 i y B (by simpa using hy) (by simpa using hB)
theorem Src.nokey {Γ Γ' : Sy} {x : Operand} {A : AV} {k : Nat} (h : Src Γ x A) (hl : look Γ' x = look Γ x) (hf : Γ'.free k) : A.key2 k = false := by
  have key : ∀ B, look Γ' x = some B → B.hasKey k = false := by
    intro B hB
    cases x with
    | tmp t => exact hf.1 t B hB
    | const v =>
      simp only [look] at hB
      split at hB
      · cases hB; rfl
      · cases hB
    | func f => cases hB; rfl
    | global => cases hB
  rcases h with h | ⟨p, h⟩
  · have := key A (hl.trans h)
    cases A <;> first | exact this | rfl
  · exact key _ (hl.trans h)

/-- A new thing of the call's own: its block is the next one. -/
theorem Does.new {P : Program} {c : Cx} {o : Oper} {Γ : Sy} {G : Path} {d : Nat} {ob : Ob} {A : AV}
    (h : G.ok → ∀ (Γ' : Sy) (g : Nat → Value) (a : Act) (w : World), (∀ x ∈ o.op.operands, look Γ' x = look Γ x) → (∀ k b, get? Γ.own k = some b → get? Γ'.own k = some b) → Γ'.free d → St c Γ' g a w →
      ∃ v w', (execOp a.eval o).run P w = .ok (.value v) w' ∧ Keep w w' ∧ blk v = some w.heap.size ∧
        OwnOk w' c.w0.heap.size (Oset ([(d, ob)] ++ Γ'.own) (mg [(d, ob)] (fun _ => v) g)) c.O0 (mg [(d, ob)] (fun _ => v) g) v ob ∧
        (A = .own d ∨ (A = .padr d 0 ∧ ∃ b, v = .pointer (some ⟨b, 0, none⟩)))) : G.ok → Does P c o Γ A [(d, ob)] := by
  intro hG Γ' g a w next Q hl hown hfree hst hk
  have hf := hfree d ob (by simp [get?])
  obtain ⟨v, w', h1, h2, h3, h4, h5⟩ := h hG Γ' g a w hl hown hf hst
  have one : ∀ k b, get? [(d, ob)] k = some b → k = d ∧ b = ob := by
    intro k b hkb
    simp only [get?] at hkb
    split at hkb
    · rename_i hb; cases hkb; exact ⟨(Nat.eq_of_beq_eq_true hb).symm, rfl⟩
    · cases hkb
  unfold Oper.wp
  rw [h1]
  refine hk _ v w' (hst.adopt (gN := fun _ => v) h2 hfree (fun k b bb hk1 hk2 => ?_) (fun k k' b b' bb hk1 hk2 _ _ => ?_) (fun k b hk1 => ?_)) ?_
  · have := (Blk.single h3).1 hk2; omega
  · rw [(one k b hk1).1, (one k' b' hk2).1]
  · rw [(one k b hk1).2]; exact h4
  · have hm : mg [(d, ob)] (fun _ => v) g d = v := by simp [mg, get?]
    rcases h5 with rfl | ⟨rfl, b, rfl⟩
    · exact hm.symm
    · exact ⟨b, hm, rfl⟩

/-- There is always a key that nothing names. -/
theorem fresh1 (A : AV) : ∃ B, ∀ k, B ≤ k → A.key1 k = false := by
  have nb : ∀ k' k : Nat, k' + 1 ≤ k → Nat.beq k' k = false := fun k' k h => by
    cases hb : Nat.beq k' k with
    | false => rfl
    | true => have := Nat.eq_of_beq_eq_true hb; omega
  cases A with
  | own k' => exact ⟨k' + 1, fun k h => nb k' k h⟩
  | oadr k' _ _ _ => exact ⟨k' + 1, fun k h => nb k' k h⟩
  | padr k' _ => exact ⟨k' + 1, fun k h => nb k' k h⟩
  | mown k' => exact ⟨k' + 1, fun k h => nb k' k h⟩
  | madr k' _ => exact ⟨k' + 1, fun k h => nb k' k h⟩
  | inn k' _ => exact ⟨k' + 1, fun k h => nb k' k h⟩
  | iadr k' _ _ _ _ => exact ⟨k' + 1, fun k h => nb k' k h⟩
  | _ => exact ⟨0, fun k _ => rfl⟩
theorem freshL : ∀ l : List AV, ∃ B, ∀ k, B ≤ k → anyKey k l = false
  | [] => ⟨0, fun _ _ => rfl⟩
  | A :: r => by
    obtain ⟨B, h⟩ := fresh1 A
    obtain ⟨C, h'⟩ := freshL r
    exact ⟨max B C, fun k hk => by simp [anyKey, h k (by omega), h' k (by omega)]⟩
theorem freshM (A : AV) : ∃ B, ∀ k, B ≤ k → A.keyM k = false := by
  obtain ⟨B, h⟩ := fresh1 A
  cases A with
  | strct l => exact freshL l
  | _ => exact ⟨B, h⟩
theorem freshML : ∀ l : List AV, ∃ B, ∀ k, B ≤ k → anyKeyM k l = false
  | [] => ⟨0, fun _ _ => rfl⟩
  | A :: r => by
    obtain ⟨B, h⟩ := freshM A
    obtain ⟨C, h'⟩ := freshML r
    exact ⟨max B C, fun k hk => by simp [anyKeyM, h k (by omega), h' k (by omega)]⟩
theorem fresh2 (A : AV) : ∃ B, ∀ k, B ≤ k → A.key2 k = false := by
  obtain ⟨B, h⟩ := freshM A
  cases A with
  | tup l => exact freshML l
  | fn f l => exact freshL l
  | _ => exact ⟨B, h⟩
theorem freshA (A : AV) : ∃ B, ∀ k, B ≤ k → A.hasKey k = false := by
  obtain ⟨B, h⟩ := fresh2 A
  cases A with
  | gd p A => exact fresh2 A
  | _ => exact ⟨B, h⟩
theorem fresh2L : ∀ l : List AV, ∃ B, ∀ k, B ≤ k → anyKey2 k l = false
  | [] => ⟨0, fun _ _ => rfl⟩
  | A :: r => by
    obtain ⟨B, h⟩ := fresh2 A
    obtain ⟨C, h'⟩ := fresh2L r
    exact ⟨max B C, fun k hk => by simp [anyKey2, h k (by omega), h' k (by omega)]⟩
theorem freshO (o : Ob) : ∃ B, ∀ k, B ≤ k → o.hasKey k = false := by
  cases o with
  | row e t fr xs => exact ⟨0, fun _ _ => rfl⟩
  | mat => exact ⟨0, fun _ _ => rfl⟩
  | box l => exact fresh2L l
  | box1 A => exact fresh2 A
theorem freshT {α : Type} (f : Nat → α → Bool) (h : ∀ A, ∃ B, ∀ k, B ≤ k → f k A = false) : ∀ l : List (Nat × α), ∃ B, ∀ k, B ≤ k → (∀ t A, get? l t = some A → f k A = false) ∧ (∀ t A, get? l t = some A → t < B)
  | [] => ⟨0, fun _ _ => ⟨fun t A h => by (cases h), fun t A h => by (cases h)⟩⟩
  | (t', A') :: r => by
    obtain ⟨B, h1⟩ := h A'
    obtain ⟨C, h2⟩ := freshT f h r
    refine ⟨max (max B C) (t' + 1), fun k hk => ⟨fun t A hA => ?_, fun t A hA => ?_⟩⟩
    · simp only [get?] at hA
      split at hA
      · cases hA; exact h1 k (by omega)
      · exact (h2 k (by omega)).1 t A hA
    · simp only [get?] at hA
      split at hA
      · rename_i hb; have := Nat.eq_of_beq_eq_true hb; omega
      · have := (h2 k (by omega)).2 t A hA; omega
theorem fresh (Γ : Sy) : ∃ d, Γ.free d := by
  obtain ⟨B, h1⟩ := freshT (fun k A => A.hasKey k) freshA Γ.tmps
  obtain ⟨C, h2⟩ := freshT (fun k A => A.hasKey k) freshO Γ.own
  refine ⟨max B C, (h1 _ (by omega)).1, (h2 _ (by omega)).1, ?_⟩
  cases hg : get? Γ.own (max B C) with
  | none => rfl
  | some o => have := (h2 (max B C) (by omega)).2 _ _ hg; omega

/-- A new row that is taken as stable at once. -/
theorem Does.newF {P : Program} {c : Cx} {o : Oper} {Γ : Sy} {G : Path} {e : TypeId} {τ : Ty} {fr : Bool} {xs : List τ.T}
    (h : G.ok → ∀ (d : Nat) (Γ' : Sy) (g : Nat → Value) (a : Act) (w : World), (∀ x ∈ o.op.operands, look Γ' x = look Γ x) → (∀ k b, get? Γ.own k = some b → get? Γ'.own k = some b) → St c Γ' g a w →
      ∃ v w', (execOp a.eval o).run P w = .ok (.value v) w' ∧ Keep w w' ∧ blk v = some w.heap.size ∧
        OwnOk w' c.w0.heap.size (Oset ([(d, .row e τ fr xs)] ++ Γ'.own) (mg [(d, .row e τ fr xs)] (fun _ => v) g)) c.O0 (mg [(d, .row e τ fr xs)] (fun _ => v) g) v (.row e τ fr xs)) : G.ok → Does P c o Γ (.st fr (.arr τ xs)) [] := by
  intro hG Γ' g a w next Q hl hown _ hst hk
  obtain ⟨d, hf⟩ := fresh Γ'
  obtain ⟨v, w', h1, h2, h3, h4⟩ := h hG d Γ' g a w hl hown hst
  unfold Oper.wp
  rw [h1]
  refine hk g v w' (hst.keepW h2) ?_
  show RpS w' (Av (Oset Γ'.own g) c.O0 fr) v (.arr τ xs)
  have hsub : ∀ b, Oset Γ'.own g b → Oset ([(d, Ob.row e τ fr xs)] ++ Γ'.own) (mg [(d, .row e τ fr xs)] (fun _ => v) g) b := by
    rintro b ⟨k, o', h5, h6⟩
    have hkd : k ≠ d := fun e => by subst e; rw [hf.2.2] at h5; cases h5
    have hn : get? [(d, Ob.row e τ fr xs)] k = none := by
      simp only [get?]
      have : Nat.beq d k = false := by
        cases hb : Nat.beq d k with
        | false => rfl
        | true => exact absurd (Nat.eq_of_beq_eq_true hb).symm hkd
      simp [this]
    exact ⟨k, o', by rw [get?_append, hn]; exact h5, by rw [mg_none hn]; exact h6⟩
  have h4' := h4
  obtain ⟨ys, ho, _⟩ := h4
  rcases ho.2 with ⟨h5, h6⟩ | ⟨b, cap, cur, h5, _⟩
  · rw [h5] at h3; cases h3
  · obtain ⟨arr, f, h6, h7, h8, h9, h10, h11, h12⟩ := ownRow h4' h5
    have hb : b = w.heap.size := by rw [h5] at h3; cases h3; rfl
    rw [h5]
    refine RpS.arr b 0 cap _ τ xs arr e (0, 0) f h6 (fun h' => ?_) rfl h8 h9 (fun i hi => ⟨(h11 i hi).1, fun j hj => by rw [Nat.zero_add]; exact (h11 i hi).2 j hj⟩) (fun i x hx => RpS.mono (fun b c e fz hb hn => ⟨hb, fun h' => hn ?_⟩) (h12 i x hx))
    · rcases h' with h' | ⟨_, h'⟩
      · have := (hst.hp.lt h').2; omega
      · have := hst.o0 b h'; have := hst.keep.size; omega
    · rcases h' with h' | h'
      · exact .inl (hsub _ h')
      · exact .inr h'

/-- The leaves of a value. -/
def upL (fr : Bool) : List SV → List AV
  | [] => []
  | A :: r => up fr A :: upL fr r
theorem upL_get {fr : Bool} : ∀ {l : List SV} {i : Nat}, (upL fr l)[i]? = (l[i]?).map (up fr)
  | [], i => by simp [upL]
  | A :: r, i => by
    cases i with
    | zero => simp [upL]
    | succ i => simp [upL, upL_get (l := r) (i := i)]
theorem upL_len {fr : Bool} : ∀ {l : List SV}, (upL fr l).length = l.length
  | [] => rfl
  | A :: r => by simp [upL, upL_len (l := r)]
def leaves : AV → List AV
  | .strct l => l
  | .st fr (.agg l) => upL fr l
  | A => [A]
def isStrct : AV → Bool
  | .strct _ => true
  | .st _ (.agg _) => true
  | _ => false
def isTup : AV → Bool
  | .tup _ => true
  | .any => true
  | .gd _ _ => true
  | _ => false
theorem up_key {k : Nat} {fr : Bool} {A : SV} : (up fr A).key2 k = false := by cases A <;> rfl
theorem up_one {w : World} {O O0 : Nat → Prop} {g : Nat → Value} {fr : Bool} {x : Value} {A : SV} (h : RpS w (Av O O0 fr) x A) : Rp1 w O O0 g x (up fr A) := by
  cases A with
  | lit u => cases h with | lit _ h => exact ⟨rfl, h⟩
  | _ => exact h
theorem lv1_key {k : Nat} : ∀ {l : List AV} {i : Nat} {B : AV}, lv1 l = true → l[i]? = some B → B.key2 k = true → anyKey k l = true
  | [], i, B, _, h, _ => by simp at h
  | A :: r, i, B, hl, h, hk => by
    cases i with
    | zero =>
      simp at h
      subst h
      have : A.key1 k = true := by cases A <;> first | exact hk | cases hl
      simp [anyKey, this]
    | succ i => simp [anyKey, lv1_key (l := r) (i := i) (B := B) (by cases A <;> first | exact hl | cases hl) (by simpa using h) hk]

theorem RpS.one {w : World} {O : Nat → Prop} {v : Value} {B : SV} (h : RpS w O v B) (hB : B.isAgg = false) : v.oneCell' = true := by
  induction h with
  | lit v h => exact h
  | agg => cases hB
  | narr _ _ _ _ _ ih => exact ih rfl
  | _ => rfl
/-- A variable is boxed. -/
def boxVC (own : List (Nat × Ob)) (G : Path) (d : Nat) (A : AV) (K : AV → List (Nat × Ob) → Prop) : Prop := match G with
  | [] => match A with
    | .strct l => lv1 l = true ∧ K (.padr d 0) [(d, .box l)]
    | .st fr (.agg l) => K (.padr d 0) [(d, .box (upL fr l))]
    | .tup _ => False
    | .any => False
    | .gd _ _ => False
    | .own k => match get? own k with
      | some (.row _ _ _ _) => K (.padr d 0) [(d, .box1 (.own k))]
      | _ => False
    | .mown k => match get? own k with
      | some (.mat _ _ _ _ _ _) => K (.padr d 0) [(d, .box1 (.mown k))]
      | _ => False
    | .madr _ _ => False
    | .inn _ _ => False
    | .iadr _ _ _ _ _ => False
    | A => K (.padr d 0) [(d, .box1 A)]
  | _ => False

theorem Hp.new_mono {base : Nat} {O0 : Nat → Prop} {own : List (Nat × Ob)} {g : Nat → Value} {w : World} (hp : Hp base O0 own g w) {o : Obj} {d : Nat} {ob : Ob} {v : Value} (hv : blk v = some w.heap.size) :
    ∀ b x e fz, w.heap[b]? = some (.cells x e fz) → ¬ Oset own g b → (w.alloc o).heap[b]? = some (.cells x e fz) ∧ ¬ Oset ([(d, ob)] ++ own) (mg [(d, ob)] (fun _ => v) g) b := by
  intro b x e fz hb hn
  refine ⟨((Keep.alloc w o).b b (heap_lt hb)).trans hb, ?_⟩
  rintro ⟨k, o', h1, h2⟩
  rw [get?_append] at h1
  cases hk : get? [(d, ob)] k with
  | some o'' =>
    rw [mg_some hk] at h2
    have := (Blk.single hv).1 h2
    exact absurd (heap_lt hb) (by omega)
  | none =>
    rw [hk] at h1
    rw [mg_none hk] at h2
    exact hn ⟨k, o', h1, h2⟩

theorem boxVC.sound {P : Program} {c : Cx} {o : Oper} {Γ : Sy} {G : Path} {d : Nat} {t : TypeId} {x : Operand} {A : AV} {K : AV → List (Nat × Ob) → Prop} (ho : o.op = .box t x) (hx : Ev c Γ G x A ∧ Src Γ x A)
    (h : boxVC Γ.own G d A K) : ∃ R N, (G.ok → Does P c o Γ R N) ∧ (G ≠ [] → N = []) ∧ K R N := by
  cases G with
  | cons _ _ => exact h.elim
  | nil =>
    have go : ∀ ob : Ob, (∀ (Γ' : Sy) (g : Nat → Value) (a : Act) (w : World), look Γ' x = look Γ x → (∀ k b, get? Γ.own k = some b → get? Γ'.own k = some b) → Γ'.free d → St c Γ' g a w → Rp2 w (Oset Γ'.own g) c.O0 g (a.eval x) A →
        OwnOk (w.alloc (.cells (a.eval x).cells t)) c.w0.heap.size (Oset ([(d, ob)] ++ Γ'.own) (mg [(d, ob)] (fun _ => .pointer (some ⟨w.heap.size, 0, none⟩)) g)) c.O0
          (mg [(d, ob)] (fun _ => .pointer (some ⟨w.heap.size, 0, none⟩)) g) (.pointer (some ⟨w.heap.size, 0, none⟩)) ob) → (Path.ok [] → Does P c o Γ (.padr d 0) [(d, ob)]) := by
      intro ob hob
      refine Does.new fun hG Γ' g a w hl hown hf hst => ⟨.pointer (some ⟨w.heap.size, 0, none⟩), w.alloc (.cells (a.eval x).cells t), ?_, Keep.alloc w _, rfl, ?_, .inr ⟨rfl, _, rfl⟩⟩
      · simp [execOp, ho, Instr.box, newVar, newRow]
      · exact hob Γ' g a w (hl x (by simp [ho, Op.operands])) hown hf hst (hx.1 hG Γ' g a w (hl x (by simp [ho, Op.operands])) hst)
    have big : ∀ l : List AV, (∀ (Γ' : Sy) (g : Nat → Value) (a : Act) (w : World), look Γ' x = look Γ x → Γ'.free d → St c Γ' g a w → Rp2 w (Oset Γ'.own g) c.O0 g (a.eval x) A →
        (a.eval x).cells.size = l.length ∧ ∀ (i : Nat) (B : AV), l[i]? = some B → ∃ y, (a.eval x).cells[i]? = some y ∧ y.oneCell' = true ∧ Rp2 w (Oset Γ'.own g) c.O0 g y B ∧ B.key2 d = false) →
        (Path.ok [] → Does P c o Γ (.padr d 0) [(d, .box l)]) := by
      intro l hl
      refine go _ fun Γ' g a w hlk hown hf hst hr => ?_
      obtain ⟨h1, h2⟩ := hl Γ' g a w hlk hf hst hr
      refine ⟨_, _, t, rfl, hst.keep.size, heap_alloc_new w _, h1, fun i B hB => ?_⟩
      obtain ⟨y, h3, h4, h5, h6⟩ := h2 i B hB
      refine ⟨y, h3, h4, h5.mono (hst.hp.new_mono rfl) (fun _ _ _ _ _ _ h => h) (fun k hk => ?_)⟩
      by_cases e : k = d
      · subst e; rw [h6] at hk; cases hk
      · exact mg_none (by simp only [get?]; have : Nat.beq d k = false := by
                            cases hb : Nat.beq d k with
                            | false => rfl
                            | true => exact absurd (Nat.eq_of_beq_eq_true hb).symm e
                          simp [this])
    have small : A.key2 d = A.key2 d → isStrct A = false → isTup A = false → (∀ (Γ' : Sy) (w : World) (a : Act) g v, (∀ k b, get? Γ.own k = some b → get? Γ'.own k = some b) → St c Γ' g a w → Rp2 w (Oset Γ'.own g) c.O0 g v A → v.oneCell' = true) → (Path.ok [] → Does P c o Γ (.padr d 0) [(d, .box1 A)]) := by
      intro _ _ _ hone
      refine go _ fun Γ' g a w hlk hown hf hst hr => ?_
      have hv := hone _ _ _ _ _ hown hst hr
      have hc : (a.eval x).cells = #[a.eval x] := by cases hv' : a.eval x <;> rw [hv'] at hv <;> first | rfl | cases hv
      refine ⟨_, a.eval x, t, rfl, hst.keep.size, by rw [← hc]; exact heap_alloc_new w _, hv, hr.mono (hst.hp.new_mono rfl) (fun _ _ _ _ _ _ h => h) (fun k hk => ?_)⟩
      by_cases e : k = d
      · subst e
        rw [hx.2.nokey hlk hf] at hk; cases hk
      · exact mg_none (by simp only [get?]; have : Nat.beq d k = false := by
                            cases hb : Nat.beq d k with
                            | false => rfl
                            | true => exact absurd (Nat.eq_of_beq_eq_true hb).symm e
                          simp [this])
    cases A with
    | strct l =>
      refine ⟨_, _, big l fun Γ' g a w hlk hf hst hr => ?_, fun h => absurd rfl h, h.2⟩
      obtain ⟨f, vs, h1, h2, h3⟩ := hr
      rw [h1]
      refine ⟨h2, fun i B hB => ⟨f i, (h3 i B hB).1.1, (h3 i B hB).1.2, (h3 i B hB).2.two, ?_⟩⟩
      cases hk : B.key2 d with
      | false => rfl
      | true =>
        have h4 := lv1_key h.1 hB hk
        have h5 := hx.2.nokey hlk hf
        simp only [AV.key2, AV.keyM] at h5
        rw [h4] at h5; cases h5
    | st fr S =>
      cases S with
      | agg l =>
        refine ⟨_, _, big (upL fr l) fun Γ' g a w hlk hf hst hr => ?_, fun h => absurd rfl h, h⟩
        have hr' : RpS w (Av (Oset Γ'.own g) c.O0 fr) (a.eval x) (.agg l) := hr
        obtain ⟨cs, h1, h2, h3⟩ := hr'.aggc
        rw [h1]
        refine ⟨by rw [upL_len]; exact h2, fun i B hB => ?_⟩
        rw [upL_get] at hB
        obtain ⟨C, hC, rfl⟩ := Option.map_eq_some_iff.1 hB
        obtain ⟨y, h4, h5, h6⟩ := h3 i C hC
        exact ⟨y, h4, h5, h6.up, up_key⟩
      | _ =>
        refine ⟨_, _, small rfl rfl rfl fun Γ' w a g v hown hst hr => ?_, fun h => absurd rfl h, h⟩
        exact RpS.one hr rfl
    | lit u => exact ⟨_, _, small rfl rfl rfl fun Γ' w a g v hown hst hr => by rw [hr.1]; exact hr.2, fun h => absurd rfl h, h⟩
    | fn f caps => exact ⟨_, _, small rfl rfl rfl fun Γ' w a g v hown hst hr => by obtain ⟨_, _, rfl, _⟩ := hr; rfl, fun h => absurd rfl h, h⟩
    | oadr k es i j => exact ⟨_, _, small rfl rfl rfl fun Γ' w a g v hown hst hr => by obtain ⟨_, _, _, _, rfl⟩ := hr; rfl, fun h => absurd rfl h, h⟩
    | padr k j => exact ⟨_, _, small rfl rfl rfl fun Γ' w a g v hown hst hr => by obtain ⟨_, _, rfl⟩ := hr; rfl, fun h => absurd rfl h, h⟩
    | own k =>
      simp only [boxVC] at h
      split at h
      · rename_i e τ fr xs hk
        refine ⟨_, _, small rfl rfl rfl fun Γ' w a g v hown hst hr => ?_, fun h => absurd rfl h, h⟩
        obtain ⟨ys, hw, _⟩ := hst.hp.ok k _ (hown k _ hk)
        have hv : v = g k := hr
        rw [hv]
        rcases hw.2 with ⟨h1, _⟩ | ⟨_, _, _, h1, _⟩ <;> rw [h1] <;> rfl
      · exact h.elim
    | mown k =>
      simp only [boxVC] at h
      split at h
      · rename_i e e' τ fr xs st hk
        refine ⟨_, _, small rfl rfl rfl fun Γ' w a g v hown hst hr => ?_, fun h => absurd rfl h, h⟩
        obtain ⟨⟨ys, hw, _⟩, _⟩ := hst.hp.ok k _ (hown k _ hk)
        have hv : v = hd (g k) := hr
        rw [hv]
        rcases hw.2 with ⟨h1, _⟩ | ⟨_, _, _, h1, _⟩ <;> rw [h1] <;> rfl
      · exact h.elim
    | _ => exact h.elim
end Go.Vc
