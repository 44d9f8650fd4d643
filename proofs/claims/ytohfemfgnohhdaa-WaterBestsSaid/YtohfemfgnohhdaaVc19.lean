/- A region in whatever order its edges allow. No condition. -/
import Derived.Test.YtohfemfgnohhdaaVc18
import Derived.OrdersHeld
namespace Go.Vc
set_option linter.unusedVariables false
set_option linter.unusedSimpArgs false

/-- The temporaries after the operations of D among the first n. -/
def fD (tb : Nat → Nat × AV) (D : Nat → Bool) (l0 : List (Nat × AV)) : Nat → List (Nat × AV)
  | 0 => l0
  | k + 1 => if D k = true then set (fD tb D l0 k) (tb k).1 (tb k).2 else fD tb D l0 k
theorem fD_text {tb : Nat → Nat × AV} {D E : Nat → Bool} {l0 : List (Nat × AV)} {t j : Nat} : ∀ {m : Nat}, j ≤ m → (∀ k, k < m → (tb k).1 = t → D k = (decide (k < j) && E k)) → get? (fD tb D l0 m) t = get? (fD tb E l0 j) t := by
  intro m
  induction m generalizing j with
  | zero => intro hj _; have : j = 0 := by omega
            subst this; rfl
  | succ m ih =>
    intro hj h
    by_cases hjm : j = m + 1
    · subst hjm
      have ih' := ih (j := m) (Nat.le_refl _) (fun k hk ht => by rw [h k (by omega) ht]; congr 1; simp; omega)
      simp only [fD]
      by_cases ht : (tb m).1 = t
      · have hm := h m (by omega) ht
        have : D m = E m := by rw [hm]; simp
        rw [this]
        split
        · rw [get?_set, get?_set]
          simp [ht]
        · exact ih'
      · have e1 : ∀ l : List (Nat × AV), get? (set l (tb m).1 (tb m).2) t = get? l t := fun l => by rw [get?_set, if_neg (Ne.symm ht)]
        have e2 : get? (if D m = true then set (fD tb D l0 m) (tb m).1 (tb m).2 else fD tb D l0 m) t = get? (fD tb D l0 m) t := by split <;> simp only [e1]
        have e3 : get? (if E m = true then set (fD tb E l0 m) (tb m).1 (tb m).2 else fD tb E l0 m) t = get? (fD tb E l0 m) t := by split <;> simp only [e1]
        rw [e2, e3, ih']
    · have ih' := ih (j := j) (by omega) (fun k hk ht => h k (by omega) ht)
      simp only [fD]
      by_cases ht : (tb m).1 = t
      · have := h m (by omega) ht
        rw [if_neg (by rw [this]; simp; omega)]
        exact ih'
      · rw [← ih']
        split
        · rw [get?_set, if_neg (Ne.symm ht)]
        · rfl
theorem fD_add {tb : Nat → Nat × AV} {D D' : Nat → Bool} {l0 : List (Nat × AV)} {j : Nat} (hj : D' j = true) (hD : ∀ k, k ≠ j → D' k = D k) : ∀ {m : Nat} (t : Nat), j < m → D j = false → (∀ k, k < m → k ≠ j → (tb k).1 = (tb j).1 → D k = true → k < j) →
    get? (fD tb D' l0 m) t = if t = (tb j).1 then some (tb j).2 else get? (fD tb D l0 m) t := by
  intro m
  induction m with
  | zero => intro t h; omega
  | succ m ih =>
    intro t hjm hDj hlast
    by_cases hm : m = j
    · subst hm
      have same : ∀ n, n ≤ m → fD tb D' l0 n = fD tb D l0 n := by
        intro n
        induction n with
        | zero => intro _; rfl
        | succ n ihn =>
          intro hn
          simp only [fD]
          rw [hD n (by omega), ihn (by omega)]
      simp only [fD]
      have hDj' : ¬ D m = true := by rw [hDj]; simp
      rw [if_pos hj, if_neg hDj', get?_set, same m (Nat.le_refl _)]
    · have ih' := ih t (by omega) hDj (fun k hk => hlast k (by omega))
      simp only [fD]
      rw [hD m hm]
      by_cases hDm : D m = true
      · rw [if_pos hDm, if_pos hDm, get?_set, get?_set, ih']
        by_cases ht : t = (tb m).1
        · have hne : (tb m).1 ≠ (tb j).1 := fun e => by have := hlast m (by omega) hm e hDm; omega
          rw [if_pos ht, if_pos ht, if_neg (by rw [ht]; exact hne)]
        · rw [if_neg ht, if_neg ht]
      · rw [if_neg hDm, if_neg hDm]
        exact ih'

/-- The masks of what must come before. -/
def upm (M : List Nat) : List Edge → Nat → Nat
  | [], s => s
  | e :: r, s => match Region.binds .any e with
    | true => upm M r (s ||| 2 ^ e.on ||| M.getD e.on 0)
    | false => upm M r s
theorem upm_bit {M : List Nat} : ∀ {l : List Edge} {s i : Nat}, (upm M l s).testBit i = true → s.testBit i = true ∨ ∃ e ∈ l, Region.binds .any e = true ∧ (e.on = i ∨ (M.getD e.on 0).testBit i = true)
  | [], s, i, h => .inl h
  | e :: r, s, i, h => by
    simp only [upm] at h
    split at h
    · rename_i hb
      rcases upm_bit h with h1 | ⟨e', h1, h2, h3⟩
      · simp only [Nat.testBit_or, Bool.or_eq_true] at h1
        rcases h1 with (h1 | h1) | h1
        · exact .inl h1
        · refine .inr ⟨e, by simp, hb, .inl ?_⟩
          rw [Nat.testBit_two_pow] at h1
          simpa using h1
        · exact .inr ⟨e, by simp, hb, .inr h1⟩
      · exact .inr ⟨e', by simp [h1], h2, h3⟩
    · rcases upm_bit h with h1 | ⟨e', h1, h2, h3⟩
      · exact .inl h1
      · exact .inr ⟨e', by simp [h1], h2, h3⟩

def allBelow (n : Nat) (f : Nat → Bool) : Bool := match n with
  | 0 => true
  | k + 1 => f k && allBelow k f
theorem allBelow_get : ∀ {n : Nat} {f : Nat → Bool}, allBelow n f = true → ∀ i, i < n → f i = true
  | 0, f, _, i, h => by omega
  | k + 1, f, h, i, hi => by
    simp only [allBelow, Bool.and_eq_true] at h
    by_cases e : i = k
    · rw [e]; exact h.1
    · exact allBelow_get h.2 i (by omega)
def edgesLt (j : Nat) : List Edge → Bool
  | [] => true
  | e :: r => (!(Region.binds .any e) || Nat.blt e.on j) && edgesLt j r
theorem edgesLt_get {j : Nat} : ∀ {l : List Edge} {e : Edge}, edgesLt j l = true → e ∈ l → Region.binds .any e = true → e.on < j
  | [], e, _, h, _ => by cases h
  | x :: r, e, hl, h, hb => by
    simp only [edgesLt, Bool.and_eq_true, Bool.or_eq_true, Bool.not_eq_true'] at hl
    rcases List.mem_cons.1 h with rfl | h
    · rcases hl.1 with h1 | h1
      · rw [hb] at h1; cases h1
      · exact Nat.le_of_ble_eq_true h1
    · exact edgesLt_get hl.2 h hb

/-- The region's order: M the masks; those of L are taken first; the first m in whatever order, the rest in the text's. -/
def drawOk (ops : Array Oper) (M : List Nat) (L : List Nat) (m : Nat) : Bool :=
  Nat.ble m ops.size && allBelow ops.size (fun j => match ops[j]? with
    | none => false
    | some o => edgesLt j o.after.toList && Nat.beq (M.getD j 0) (upm M o.after.toList 0) && (match memN j L with
      | true => true
      | false => match Nat.blt j m with
        | true => allBelow j (fun i => memN i L || (M.getD j 0).testBit i || (match ops[i]? with
          | some x => x.apart ops o
          | none => false))
        | false => allBelow j (fun i => memN i L || (M.getD j 0).testBit i)))

structure DrawFacts (ops : Array Oper) (M : List Nat) (L : List Nat) (m : Nat) : Prop where
  hm : m ≤ ops.size
  edge : ∀ j o, ops[j]? = some o → ∀ e ∈ o.after, Region.binds .any e = true → e.on < j
  mask : ∀ j o i, ops[j]? = some o → (M.getD j 0).testBit i = true → ∃ e ∈ o.after, Region.binds .any e = true ∧ (e.on = i ∨ (M.getD e.on 0).testBit i = true)
  pre : ∀ i j x o, memN i L = false → memN j L = false → i < j → j < m → ops[i]? = some x → ops[j]? = some o → (M.getD j 0).testBit i = true ∨ x.apart ops o = true
  tail : ∀ i j, memN i L = false → memN j L = false → i < j → m ≤ j → j < ops.size → (M.getD j 0).testBit i = true
theorem drawOk.facts {ops : Array Oper} {M L : List Nat} {m : Nat} (h : drawOk ops M L m = true) : DrawFacts ops M L m := by
  simp only [drawOk, Bool.and_eq_true] at h
  obtain ⟨h0, h⟩ := h
  have hlt : ∀ j o, ops[j]? = some o → j < ops.size := fun j o ho => (Array.getElem?_eq_some_iff.1 ho).1
  have hj := fun j hj => allBelow_get h j hj
  refine ⟨Nat.le_of_ble_eq_true h0, fun j o ho e he hb => ?_, fun j o i ho hi => ?_, fun i j x o hiL hjL hij hjm hx ho => ?_, fun i j hiL hjL hij hmj hjs => ?_⟩
  · have := hj j (hlt j o ho)
    rw [ho] at this
    simp only [Bool.and_eq_true] at this
    exact edgesLt_get this.1.1 (by simpa using he) hb
  · have := hj j (hlt j o ho)
    rw [ho] at this
    simp only [Bool.and_eq_true] at this
    rw [Nat.eq_of_beq_eq_true this.1.2] at hi
    rcases upm_bit hi with h1 | ⟨e, h1, h2⟩
    · simp at h1
    · exact ⟨e, by simpa using h1, h2⟩
  · have := hj j (hlt j o ho)
    rw [ho] at this
    simp only [Bool.and_eq_true] at this
    have hb : Nat.blt j m = true := Nat.ble_eq_true_of_le hjm
    rw [hjL, hb] at this
    have h2 := allBelow_get this.2 i hij
    rw [hx, hiL] at h2
    simpa using h2
  · have ho : ops[j]? = some ops[j] := by simp [hjs]
    have := hj j hjs
    rw [ho] at this
    simp only [Bool.and_eq_true] at this
    have hb : Nat.blt j m = false := by
      cases hc : Nat.blt j m with
      | false => rfl
      | true => have := Nat.le_of_ble_eq_true hc; omega
    rw [hjL, hb] at this
    have h2 := allBelow_get this.2 i hij
    rw [hiL] at h2
    simpa using h2

def cnt (listed : Array Bool) : Nat := (listed.toList.filter (fun b => !b)).length
theorem cnt_set {listed : Array Bool} {i : Nat} (hi : listed[i]? = some false) : cnt (listed.setIfInBounds i true) + 1 = cnt listed := by
  unfold cnt
  rw [Array.toList_setIfInBounds]
  have hi' : listed.toList[i]? = some false := by simpa using hi
  clear hi
  generalize listed.toList = l at hi'
  induction l generalizing i with
  | nil => simp at hi'
  | cons b r ih =>
    cases i with
    | zero => simp at hi'; subst hi'; simp
    | succ i =>
      have := ih (i := i) (by simpa using hi')
      cases b <;> simp [List.filter_cons] <;> omega
theorem cnt_zero {listed : Array Bool} (h : cnt listed = 0) : ∀ i, i < listed.size → listed[i]? = some true := by
  intro i hi
  unfold cnt at h
  have h1 := List.eq_nil_of_length_eq_zero h
  have : listed.toList[i]? = some listed[i] := by simp [hi]
  cases hb : listed[i] with
  | true => simp [hi, hb]
  | false =>
    rw [hb] at this
    have h2 : (false : Bool) ∈ listed.toList.filter (fun b => !b) := List.mem_filter.2 ⟨List.mem_of_getElem? this, rfl⟩
    rw [h1] at h2; cases h2
theorem cnt_pos {listed : Array Bool} (h : 0 < cnt listed) : ∃ i : Nat, listed[i]? = some false ∧ ∀ k : Nat, k < i → listed[k]? = some true := by
  unfold cnt at h
  have : ∀ l : List Bool, 0 < (l.filter (fun b => !b)).length → ∃ i : Nat, l[i]? = some false ∧ ∀ k : Nat, k < i → l[k]? = some true := by
    intro l
    induction l with
    | nil => intro h; simp at h
    | cons b r ih =>
      intro h
      cases b with
      | false => exact ⟨0, rfl, fun k hk => by omega⟩
      | true =>
        obtain ⟨i, h1, h2⟩ := ih (by simpa using h)
        refine ⟨i + 1, by simpa using h1, fun k hk => ?_⟩
        cases k with
        | zero => rfl
        | succ k => simpa using h2 k (by omega)
  obtain ⟨i, h1, h2⟩ := this listed.toList h
  exact ⟨i, by simpa using h1, fun k hk => by simpa using h2 k hk⟩

theorem ready_mem {ops : Array Oper} {listed : Array Bool} {i : Nat} : i ∈ Region.ready .any ops listed ↔ i < ops.size ∧ listed.getD i true = false ∧ ∀ o, ops[i]? = some o → ∀ e ∈ o.after, Region.binds .any e = true → listed.getD e.on false = true := by
  unfold Region.ready
  simp only [List.mem_filter, List.mem_range, Bool.and_eq_true, Bool.not_eq_true']
  constructor
  · rintro ⟨h1, h2, h3⟩
    refine ⟨h1, h2, fun o ho e he hb => ?_⟩
    rw [ho] at h3
    simp only [Option.map_some, Option.getD_some] at h3
    have := Array.all_eq_true_iff_forall_mem.1 h3 e he
    simpa [hb] using this
  · rintro ⟨h1, h2, h3⟩
    refine ⟨h1, h2, ?_⟩
    have ho : ops[i]? = some ops[i] := by simp [h1]
    rw [ho]
    simp only [Option.map_some, Option.getD_some]
    refine Array.all_eq_true_iff_forall_mem.2 fun e he => ?_
    by_cases hb : Region.binds .any e = true
    · simp [hb, h3 _ ho e he hb]
    · simp [hb]

theorem guardOf_congr {ops : Array Oper} {Γ Γ' : Sy} {o : Oper} (h : ∀ t, t ∈ o.looksAt ops → get? Γ'.tmps t = get? Γ.tmps t) : guardOf (dstsOf ops) Γ' o.guard = guardOf (dstsOf ops) Γ o.guard := by
  cases hg : o.guard with
  | none => rfl
  | some x =>
    obtain ⟨j, b⟩ := x
    simp only [guardOf]
    cases hj : (dstsOf ops)[j]? with
    | none => rfl
    | some d =>
      cases d with
      | none => rfl
      | some t =>
        have : t ∈ o.looksAt ops := by
          unfold Oper.looksAt
          rw [hg]
          refine List.mem_append.2 (.inr ?_)
          simp only [dstsOf, List.getElem?_map] at hj
          obtain ⟨o', h1, h2⟩ := Option.map_eq_some_iff.1 hj
          have h3 : ops[j]? = some o' := by simpa using h1
          simp [h3, h2]
        simp only [h t this]
theorem look_congr {ops : Array Oper} {Γ Γ' : Sy} {o : Oper} (h : ∀ t, t ∈ o.looksAt ops → get? Γ'.tmps t = get? Γ.tmps t) : ∀ x ∈ o.op.operands, look Γ' x = look Γ x := by
  intro x hx
  cases x with
  | tmp t =>
    refine h t ?_
    unfold Oper.looksAt
    refine List.mem_append.2 (.inl (List.mem_filterMap.2 ⟨.tmp t, by simpa using hx, rfl⟩))
  | _ => rfl

/-- Those that no world turns are taken first. -/
def floatOk (ops : Array Oper) : List Nat → Array Bool → Bool
  | [], _ => true
  | i :: r, listed => Region.free .any ops listed i && (Region.ready .any ops listed).contains i && floatOk ops r (listed.setIfInBounds i true)
def listAll : List Nat → Array Bool → Array Bool
  | [], l => l
  | i :: r, l => listAll r (l.setIfInBounds i true)
theorem loadS.still {P : Program} {T : List (Nat × TE)} (hT : TOk P T) {c : Cx} {o : Oper} {Γ : Sy} {t : TypeId} {x : Operand} {fr : Bool} {B : SV} {K : AV → Prop} (ho : o.op = .load t x) (hx : Ev c Γ [] x (.st fr (.sadr B))) (h : loadS T t fr B K) : ∃ R, Still P c o Γ R ∧ K R := by
  obtain ⟨R, hK, hR⟩ := loadS.sound hT h
  refine ⟨R, fun Γ' g a w hl hown hst hfull => ?_, hK⟩
  have h1 := hx trivial Γ' g a w (hl x (by simp [ho, Op.operands])) hst
  have h1' : RpS w (Av (Oset Γ'.own g) c.O0 fr) (a.eval x) (.sadr B) := h1
  have hrun : ∀ y w', (Instr.loadAt t (a.eval x)).run P w' = .ok y w' → (execOp a.eval o).run P w' = .ok (.value y) w' := fun y w' h => by simp [execOp, ho, h]
  revert hrun h1'
  generalize a.eval x = v
  intro h1' hrun
  cases h1' with
  | sadr b off _ y arr e fz hb hO hf hr =>
    refine ⟨y, fun w' hS => hrun y w' ?_, (hR w _ _ g y b off arr e fz hb hf hr).2⟩
    have keep : ∀ b x e fz, w.heap[b]? = some (.cells x e fz) → ¬ Av (Oset Γ'.own g) c.O0 fr b → w'.heap[b]? = some (.cells x e fz) ∧ ¬ Av (fun _ => False) (fun _ => False) fr b := fun b x e fz hb hn =>
      ⟨hS b (x, e, fz) (hfull b x e fz hb (fun h => hn (.inl h))), fun h => by rcases h with h | ⟨_, h⟩ <;> exact h⟩
    exact (hR w' (fun _ => False) (fun _ => False) g y b off arr e fz (keep b arr e fz hb hO).1 hf (hr.mono keep)).1
def floatVC (T : List (Nat × TE)) (n : Nat) (ops : Array Oper) : List Nat → Sy → (Sy → Prop) → Prop
  | [], Γ, K => K Γ
  | i :: r, Γ, K => match ops[i]? with
    | some o => match o.guard, o.dst with
      | none, some t => match Nat.blt t n with
        | true => match o.op with
          | .move x => withOp Γ [] x fun A => floatVC T n ops r (Γ.putB t A) K
          | .indexAddr ty x y => withOp Γ [] x fun A => withOp Γ [] y fun I => indexVC T Γ.own [] ty A I fun R => floatVC T n ops r (Γ.putB t R) K
          | .fieldAddr s x f => withOp Γ [] x fun A => fieldVC T s f A fun R => floatVC T n ops r (Γ.putB t R) K
          | .binOp op ty x y _ => withOp Γ [] x fun A => withOp Γ [] y fun B => binVC T [] op ty A B fun R => floatVC T n ops r (Γ.putB t R) K
          | .load ty x => withOp Γ [] x fun A => match A with
            | .st fr (.sadr B) => loadS T ty fr B fun R => floatVC T n ops r (Γ.putB t R) K
            | _ => False
          | _ => False
        | false => False
      | _, _ => False
    | none => False
theorem floats {P : Program} {T : List (Nat × TE)} (hT : TOk P T) {c : Cx} {ops : Array Oper} (hs : Region.noSelect ops = true) {Q : Exit → Act → World → Prop} (hQ : ∀ x a w, ¬ Q (.panic x) a w) {K : Sy → Prop} {g : Nat → Value} {w : World} {own : List (Nat × Ob)} (hfull : c.full w (Oset own g)) :
    ∀ (L : List Nat) (listed : Array Bool) (Γ : Sy) (a : Act) (fuel : Nat), Γ.own = own → floatOk ops L listed = true → floatVC T c.n ops L Γ K → St c Γ g a w →
      (∀ Γ' a', K Γ' → St c Γ' g a' w → wpAnyH P .any ops Q c.S fuel (listAll L listed) a' w) → wpAnyH P .any ops Q c.S (fuel + L.length) listed a w
  | [], listed, Γ, a, fuel, _, _, h, hst, hk => hk Γ a h hst
  | i :: r, listed, Γ, a, fuel, hown0, hok, h, hst, hk => by
    simp only [floatOk, Bool.and_eq_true] at hok
    obtain ⟨⟨h1, h2⟩, h3⟩ := hok
    simp only [floatVC] at h
    split at h
    · rename_i o ho
      split at h
      · rename_i t hgd hd
        split at h
        · rename_i hlt
          have step : ∀ R, Still P c o Γ R → floatVC T c.n ops r (Γ.putB t R) K → wpAnyH P .any ops Q c.S (fuel + (i :: r).length) listed a w := by
            intro R hR hrest
            obtain ⟨v, h4, h5⟩ := hR Γ g a w (fun _ _ => rfl) (fun _ _ h => h) hst (by rw [hown0]; exact hfull)
            have hput : St c (Γ.putB t R) g (a.put (some t) v) w := hst.put (Nat.le_of_ble_eq_true hlt) (Rp.of2 h5)
            refine wpAnyH_take (fuel := fuel + r.length) ho hs h1 h2 (fun x a' w' hq => absurd hq (hQ x _ _)) (v := v) (.inl ⟨by simp [Region.wanted, hgd], h4⟩) hst.s ?_
            rw [hd]
            exact floats hT hs hQ hfull r _ (Γ.putB t R) _ fuel hown0 h3 hrest hput hk
          split at h
          · rename_i x hop
            obtain ⟨A, hA, h6⟩ := withOp.ev (c := c) h
            refine step A (fun Γ' g a w hl hown hst _ => ⟨a.eval x, fun w' _ => by simp [execOp, hop], hA trivial Γ' g a w (hl x (by simp [hop, Op.operands])) hst⟩) h6
          · rename_i ty x y hop
            obtain ⟨A, hA, h6⟩ := withOp.ev (c := c) h
            obtain ⟨I, hI, h7⟩ := withOp.ev (c := c) h6
            obtain ⟨R, hR, h8⟩ := indexVC.any hT hop hA hI h7
            exact step R (hR trivial).still h8
          · rename_i s x f hop
            obtain ⟨A, hA, h6⟩ := withOp.ev (c := c) h
            obtain ⟨R, hR, h8⟩ := fieldVC.any hT hop hA h6
            exact step R (hR trivial).still h8
          · rename_i op ty x y ty' hop
            obtain ⟨A, hA, h6⟩ := withOp.ev (c := c) h
            obtain ⟨B, hB, h7⟩ := withOp.ev (c := c) h6
            obtain ⟨R, hR, h8⟩ := binVC.any hT hop hA hB h7
            exact step R (hR trivial).still h8
          · rename_i ty x hop
            obtain ⟨A, hA, h6⟩ := withOp.ev (c := c) h
            split at h6
            · obtain ⟨R, hR, h8⟩ := loadS.still hT hop hA h6
              exact step R hR h8
            · exact h6.elim
          · exact h.elim
        · exact h.elim
      · exact h.elim
    · exact h.elim

theorem listAll_size : ∀ {L : List Nat} {l : Array Bool}, (listAll L l).size = l.size
  | [], l => rfl
  | i :: r, l => by simp [listAll, listAll_size (L := r)]
theorem listAll_get : ∀ {L : List Nat} {l : Array Bool} {k : Nat}, k < l.size → (listAll L l)[k]? = if memN k L then some true else l[k]?
  | [], l, k, _ => by simp [listAll, memN]
  | i :: r, l, k, hk => by
    have e : memN k (i :: r) = (Nat.beq i k || memN k r) := rfl
    rw [e]
    simp only [listAll]
    rw [listAll_get (by simpa using hk)]
    by_cases h : i = k
    · subst h
      simp [hk]
    · have : Nat.beq i k = false := by
        cases hb : Nat.beq i k with
        | false => rfl
        | true => exact absurd (Nat.eq_of_beq_eq_true hb) h
      simp only [this, Bool.false_or, Array.getElem?_setIfInBounds_ne h]
/-- Each of L once, and in bounds. -/
def listOnce (n : Nat) : List Nat → Bool
  | [] => true
  | i :: r => Nat.blt i n && !(memN i r) && listOnce n r
theorem cnt_listAll : ∀ {L : List Nat} {l : Array Bool} {n : Nat}, listOnce n L = true → l.size = n → (∀ i, memN i L = true → l[i]? = some false) → cnt (listAll L l) + L.length = cnt l
  | [], l, n, _, _, _ => rfl
  | i :: r, l, n, h, hn, hf => by
    simp only [listOnce, Bool.and_eq_true, Bool.not_eq_true'] at h
    have hi := hf i (by simp [memN])
    have h1 := cnt_set hi
    have h2 := cnt_listAll (L := r) (l := l.setIfInBounds i true) (n := n) h.2 (by simpa using hn) (fun k hk => by
      have : k ≠ i := fun e => by rw [e, h.1.2] at hk; cases hk
      rw [Array.getElem?_setIfInBounds_ne (Ne.symm this)]
      exact hf k (by simp [memN, hk]))
    simp only [listAll, List.length_cons]
    omega

/-- What is listed has all before it. -/
theorem listAll_closed {ops : Array Oper} {M L : List Nat} {m : Nat} (F : DrawFacts ops M L m) (hf : floatOk ops L (Array.replicate ops.size false) = true) :
    ∀ j i, (listAll L (Array.replicate ops.size false))[j]? = some true → (M.getD j 0).testBit i = true → (listAll L (Array.replicate ops.size false)).getD i false = true := by
  have go : ∀ (L' : List Nat) (l : Array Bool), l.size = ops.size → floatOk ops L' l = true → (∀ j i, l[j]? = some true → (M.getD j 0).testBit i = true → l.getD i false = true) →
      ∀ j i, (listAll L' l)[j]? = some true → (M.getD j 0).testBit i = true → (listAll L' l).getD i false = true := by
    intro L'
    induction L' with
    | nil => intro l _ _ hcl; exact hcl
    | cons k r ih =>
      intro l hsz hok hcl
      simp only [floatOk, Bool.and_eq_true] at hok
      refine ih _ (by simpa using hsz) hok.2 fun j i hj hi => ?_
      have hk : k ∈ Region.ready .any ops l := by simpa using hok.1.2
      obtain ⟨hk1, hk2, hk3⟩ := ready_mem.1 hk
      have hget : ∀ q, (l.setIfInBounds k true)[q]? = if q = k then some true else l[q]? := by
        intro q
        by_cases hq : q = k
        · subst hq; simp [hsz, hk1]
        · rw [if_neg hq, Array.getElem?_setIfInBounds_ne (Ne.symm hq)]
      have up : l.getD i false = true → (l.setIfInBounds k true).getD i false = true := by
        intro h
        simp only [Array.getD_eq_getD_getElem?, hget] at h ⊢
        split
        · rfl
        · exact h
      rw [hget] at hj
      split at hj
      · rename_i e
        subst e
        have hok' : ops[j]? = some ops[j] := by simp [hk1]
        obtain ⟨e, he, hb, h1⟩ := F.mask j _ i hok' hi
        have h2 := hk3 _ hok' e he hb
        rcases h1 with rfl | h1
        · exact up h2
        · refine up (hcl e.on i ?_ h1)
          simp only [Array.getD_eq_getD_getElem?] at h2
          cases hb' : l[e.on]? with
          | none => rw [hb'] at h2; cases h2
          | some b => rw [hb'] at h2; simp at h2; rw [h2]
      · exact up (hcl j i hj hi)
  refine go L _ (by simp) hf fun j i hj => ?_
  simp [Array.getElem?_replicate] at hj
/-- In whatever order. -/
theorem region_draw {P : Program} {T : List (Nat × TE)} {Fz : List Nat} (hT : TOk P T) (hmx : P.follows .mixedOrders = true) {c : Cx} {ops : Array Oper} {M L : List Nat} {m : Nat} (hd : drawOk ops M L m = true)
    (hf : floatOk ops L (Array.replicate ops.size false) = true) (hsel : Region.noSelect ops = true) (honce : listOnce ops.size L = true) {K : Sy → Prop} {Γ : Sy}
    (h : floatVC T c.n ops L Γ fun Γ1 => opsVC P T Fz c.n (dstsOf ops) L ops.toList 0 m Γ1 K)
    {Q : Exit → Act → World → Prop} (hQp : ∀ x a w, ¬ Q (.panic x) a w) {g : Nat → Value} {a : Act} {w : World} (hst : St c Γ g a w) (hfull : c.full w (Oset Γ.own g)) (hQ : ∀ Γ' g' a' w', K Γ' → St c Γ' g' a' w' → Q .normal a' w') {id : Nat} : (Code.region id ops true).wp P Q a w := by
  have F := drawOk.facts hd
  have hLlt : ∀ k, memN k L = true → k < ops.size := by
    have : ∀ (L : List Nat), listOnce ops.size L = true → ∀ k, memN k L = true → k < ops.size := by
      intro L
      induction L with
      | nil => intro _ k hk; cases hk
      | cons i r ih =>
        intro h1 k hk
        simp only [listOnce, Bool.and_eq_true] at h1
        simp only [memN, Bool.or_eq_true] at hk
        rcases hk with hk | hk
        · rw [← Nat.eq_of_beq_eq_true hk]; exact Nat.le_of_ble_eq_true h1.1.1
        · exact ih h1.2 k hk
    exact this L honce
  -- the floats first
  have hLlen : L.length ≤ ops.size := by
    have := cnt_listAll (L := L) (l := Array.replicate ops.size false) honce (by simp) (fun i hi => by simp [hLlt i hi])
    simp [cnt, List.filter_replicate] at this
    omega
  refine wp_region_held (S := c.S) hmx ?_
  have hgo := floats (P := P) (w := { w with drawn := w.drawn + 1 }) hT hsel hQp hfull L (Array.replicate ops.size false) Γ a (ops.size - L.length) rfl hf h (hst.keepW (Keep.drew w))
  rw [Nat.sub_add_cancel hLlen] at hgo
  refine hgo fun Γ a h hst => ?_
  clear hgo
  obtain ⟨Γs, e1, e2, e3⟩ := opsVC.trace hT ops.toList m 0 Γ (by simp) h
  have pre : ∀ j, j < m → memN j L = false → Nonempty (PreOk P c ops j (Γs j) (Γs (j + 1))) := fun j hj hjL => ((e3 j (by omega) (by have := F.hm; omega)).2 hjL).1 (by omega)
  let pk : ∀ j, j < m → memN j L = false → PreOk P c ops j (Γs j) (Γs (j + 1)) := fun j hj hjL => Classical.choice (pre j hj hjL)
  let tb : Nat → Nat × AV := fun j => if hj : j < m ∧ memN j L = false then ((pk j hj.1 hj.2).t, gd' (pk j hj.1 hj.2).G (pk j hj.1 hj.2).A) else (0, .any)
  have htb : ∀ j (hj : j < m) (hjL : memN j L = false), tb j = ((pk j hj hjL).t, gd' (pk j hj hjL).G (pk j hj hjL).A) := fun j hj hjL => by simp [tb, hj, hjL]
  let E : Nat → Bool := fun k => !(memN k L)
  -- the text's states
  have text : ∀ j, j ≤ m → Γs j = ⟨fD tb E Γ.tmps j, Γ.own⟩ := by
    intro j
    induction j with
    | zero => intro _; rw [e1]; rfl
    | succ j ih =>
      intro hj
      have ih' := ih (by omega)
      cases hjL : memN j L with
      | true =>
        rw [(e3 j (by omega) (by have := F.hm; omega)).1 hjL, ih']
        simp [fD, E, hjL]
      | false =>
        have h1 := congrArg Sy.tmps ih'
        have h2 := congrArg Sy.own ih'
        have h3 := (pk j (by omega) hjL).hΓ
        rw [h3]
        have hEj : E j = true := by simp [E, hjL]
        simp only [fD, hEj, if_true, htb j (by omega) hjL]
        dsimp only at h1 h2
        rw [← h2]
        congr 1
        rw [← h1]
  -- over those of L nothing happens
  have skip : ∀ q i, q ≤ i → i ≤ ops.size → (∀ k, q ≤ k → k < i → memN k L = true) → Γs i = Γs q := by
    intro q i hqi
    induction i with
    | zero => intro _ _; have : q = 0 := by omega
              rw [this]
    | succ i ih =>
      intro hi hk
      by_cases e : q = i + 1
      · rw [e]
      · rw [(e3 i (by omega) (by omega)).1 (hk i (by omega) (by omega))]
        exact ih (by omega) (by omega) (fun k h1 h2 => hk k h1 (by omega))
  let dn : Array Bool → Nat → Bool := fun listed j => listed.getD j false && E j
  have key : ∀ (fuel : Nat) (listed : Array Bool) (g : Nat → Value) (a : Act) (w : World), listed.size = ops.size → cnt listed = fuel → (∀ k, memN k L = true → listed[k]? = some true) →
      (∀ j i, listed[j]? = some true → (M.getD j 0).testBit i = true → listed.getD i false = true) →
      (((∀ j, m ≤ j → j < ops.size → memN j L = false → listed[j]? = some false) ∧ St c ⟨fD tb (dn listed) Γ.tmps m, Γ.own⟩ g a w) ∨
        ∃ q, m ≤ q ∧ q ≤ ops.size ∧ (∀ j, j < q → listed[j]? = some true) ∧ (∀ j, q ≤ j → j < ops.size → memN j L = false → listed[j]? = some false) ∧ St c (Γs q) g a w) →
      wpAnyH P .any ops Q c.S fuel listed a w := by
    intro fuel
    induction fuel with
    | zero =>
      intro listed g a w hsz hc hLl hcl hs
      have hall := cnt_zero hc
      have hrd : Region.ready .any ops listed = [] := by
        refine List.eq_nil_iff_forall_not_mem.2 fun i hi => ?_
        obtain ⟨h1, h2, _⟩ := ready_mem.1 hi
        have := hall i (by omega)
        simp [Array.getD_eq_getD_getElem?, this] at h2
      refine ⟨hrd, ?_⟩
      have fin : ∀ q, q ≤ ops.size → (∀ j, q ≤ j → j < ops.size → memN j L = false → listed[j]? = some false) → St c (Γs q) g a w → Q .normal a w := by
        intro q hq h1 h2
        have : Γs ops.size = Γs q := skip q ops.size hq (Nat.le_refl _) (fun k h3 h4 => by
          cases hk : memN k L with
          | true => rfl
          | false => have h5 := h1 k h3 h4 hk; rw [hall k (by omega)] at h5; cases h5)
        exact hQ _ g a w e2 (by rw [this]; exact h2)
      rcases hs with ⟨h1, h2⟩ | ⟨q, h1, h2, h3, h4, h5⟩
      · refine fin m F.hm h1 ?_
        rw [text m (Nat.le_refl _)]
        refine h2.congr (fun t => ?_) (fun _ => rfl)
        refine (fD_text (j := m) (Nat.le_refl _) (fun k hk _ => ?_)).symm
        have hm := F.hm
        simp [dn, Array.getD_eq_getD_getElem?, hall k (by omega), hk]
      · exact fin q h2 h4 h5
    | succ fuel ih =>
      intro listed g a w hsz hc hLl hcl hs
      refine ⟨fun hrd => ?_, fun i hi => ?_⟩
      · -- something is ready
        obtain ⟨i, h1, h2⟩ := cnt_pos (listed := listed) (by omega)
        have hi : i < ops.size := by rw [← hsz]; exact (Array.getElem?_eq_some_iff.1 h1).1
        have : i ∈ Region.ready .any ops listed := ready_mem.2 ⟨hi, by simp [Array.getD_eq_getD_getElem?, h1], fun o ho e he hb => by
          have := h2 e.on (F.edge i o ho e he hb)
          simp [Array.getD_eq_getD_getElem?, this]⟩
        rw [hrd] at this; cases this
      · obtain ⟨hi, hli, hpre⟩ := ready_mem.1 hi
        have hlf : listed[i]? = some false := by
          have : i < listed.size := by omega
          simp only [Array.getD_eq_getD_getElem?] at hli
          cases hb : listed[i]? with
          | none => rw [hb] at hli; cases hli
          | some b => rw [hb] at hli; simp at hli; rw [hli]
        have hlf' : listed.getD i false = false := by simp [Array.getD_eq_getD_getElem?, hlf]
        have hiL : memN i L = false := by
          cases hb : memN i L with
          | false => rfl
          | true => rw [hLl i hb] at hlf; cases hlf
        have hoi : ops[i]? = some ops[i] := by simp [hi]
        have hmask : ∀ k, (M.getD i 0).testBit k = true → listed.getD k false = true := by
          intro k hk
          obtain ⟨e, he, hb, h1⟩ := F.mask i _ k hoi hk
          have h2 := hpre _ hoi e he hb
          rcases h1 with rfl | h1
          · exact h2
          · refine hcl e.on k ?_ h1
            simp only [Array.getD_eq_getD_getElem?] at h2
            cases hb' : listed[e.on]? with
            | none => rw [hb'] at h2; cases h2
            | some b => rw [hb'] at h2; simp at h2; rw [h2]
        have hsz' : (listed.setIfInBounds i true).size = ops.size := by simp [hsz]
        have hc' : cnt (listed.setIfInBounds i true) = fuel := by have := cnt_set hlf; omega
        have hget : ∀ k, (listed.setIfInBounds i true)[k]? = if k = i then some true else listed[k]? := by
          intro k
          by_cases hk : k = i
          · subst hk; simp [hsz, hi]
          · rw [if_neg hk, Array.getElem?_setIfInBounds_ne (Ne.symm hk)]
        have hgetD : ∀ k, (listed.setIfInBounds i true).getD k false = if k = i then true else listed.getD k false := by
          intro k
          simp only [Array.getD_eq_getD_getElem?, hget]
          split <;> rfl
        have hLl' : ∀ k, memN k L = true → (listed.setIfInBounds i true)[k]? = some true := by
          intro k hk
          rw [hget]
          split
          · rfl
          · exact hLl k hk
        have hcl' : ∀ j k, (listed.setIfInBounds i true)[j]? = some true → (M.getD j 0).testBit k = true → (listed.setIfInBounds i true).getD k false = true := by
          intro j k hj hk
          rw [hgetD]
          split
          · rfl
          · rw [hget] at hj
            split at hj
            · rename_i e; rw [e] at hk; exact hmask k hk
            · exact hcl j k hj hk
        have toGet : ∀ k, listed.getD k false = true → listed[k]? = some true := by
          intro k hk
          simp only [Array.getD_eq_getD_getElem?] at hk
          cases hb' : listed[k]? with
          | none => rw [hb'] at hk; cases hk
          | some b => rw [hb'] at hk; simp at hk; rw [hk]
        -- which phase
        have phase2 : ∀ q, m ≤ q → q ≤ ops.size → (∀ j, j < q → listed[j]? = some true) → (∀ j, q ≤ j → j < ops.size → memN j L = false → listed[j]? = some false) → St c (Γs q) g a w → wpOp P ops Q i (fun a' w' => c.S w' ∧ wpAnyH P .any ops Q c.S fuel (listed.setIfInBounds i true) a' w') a w := by
          intro q h1 h2 h3 h4 h5
          have hge : q ≤ i := by
            rcases Nat.lt_or_ge i q with h6 | h6
            · rw [h3 i h6] at hlf; cases hlf
            · exact h6
          have hbet : ∀ k, q ≤ k → k < i → memN k L = true := by
            intro k hk1 hk2
            cases hk : memN k L with
            | true => rfl
            | false =>
              have h7 := hmask k (F.tail k i hk hiL hk2 (by omega) hi)
              have h8 := h4 k hk1 (by omega) hk
              simp [Array.getD_eq_getD_getElem?, h8] at h7
          have hsk := skip q i hge (by omega) hbet
          refine ((e3 i (by omega) hi).2 hiL).2 (by omega) Q g a w _ (by rw [hsk]; exact h5) fun g' a' w' h6 => ⟨h6.s, ?_⟩
          refine ih _ g' a' w' hsz' hc' hLl' hcl' (.inr ⟨i + 1, by omega, by omega, fun j hj => ?_, fun j hj hj2 hjL => ?_, h6⟩)
          · rw [hget]
            split
            · rfl
            · rcases Nat.lt_or_ge j q with h7 | h7
              · exact h3 j h7
              · exact hLl j (hbet j h7 (by omega))
          · rw [hget, if_neg (by omega)]
            exact h4 j (by omega) hj2 hjL
        rcases hs with ⟨h1, h2⟩ | ⟨q, h1, h2, h3, h4, h5⟩
        · by_cases him : i < m
          · -- one of the first ones
            have dstOf : ∀ k (hk : k < m) (hkL : memN k L = false), ops[k]? = some (pk k hk hkL).o ∧ (pk k hk hkL).o.dst = some (tb k).1 := fun k hk hkL => ⟨(pk k hk hkL).ho, by rw [(pk k hk hkL).ht, htb k hk hkL]⟩
            have hlook : ∀ t, t ∈ (ops[i]).looksAt ops → get? (fD tb (dn listed) Γ.tmps m) t = get? (Γs i).tmps t := by
              intro t ht
              rw [text i (by omega)]
              refine fD_text (by omega) fun k hk hkt => ?_
              cases hkL : memN k L with
              | true => simp [dn, E, hkL]
              | false =>
                have hks : k < ops.size := by have := F.hm; omega
                have hok : ops[k]? = some ops[k] := by simp [hks]
                have hdk : (ops[k]).dst = some t := by
                  obtain ⟨h6, h7⟩ := dstOf k hk hkL
                  rw [Option.some.inj (hok.symm.trans h6), h7, hkt]
                have hE : E k = true := by simp [E, hkL]
                rcases Nat.lt_trichotomy k i with h6 | h6 | h6
                · have : listed.getD k false = true := by
                    rcases F.pre k i _ _ hkL hiL h6 him hok hoi with h7 | h7
                    · exact hmask k h7
                    · exact absurd ht ((Oper.apart_spec h7).1 t hdk)
                  simp only [dn, this, hE, h6, decide_true, Bool.and_self]
                · subst h6
                  simp only [dn, hlf', Bool.false_and, Nat.lt_irrefl, decide_false]
                · have : listed.getD k false = false := by
                    cases hb : listed.getD k false with
                    | false => rfl
                    | true =>
                      rcases F.pre i k _ _ hiL hkL h6 hk hoi hok with h7 | h7
                      · have h8 := hcl k i (toGet k hb) h7
                        rw [hlf'] at h8; cases h8
                      · exact absurd ht ((Oper.apart_spec h7).2.2 t hdk)
                  have h7 : decide (k < i) = false := by simp; omega
                  simp only [dn, this, Bool.false_and, h7]
            have hpo : (pk i him hiL).o = ops[i] := Option.some.inj ((pk i him hiL).ho.symm.trans hoi)
            have hstep := add_step (P := P) (c := c) (ops := ops) (j := i) (Γ := Γs i) (Γ' := ⟨fD tb (dn listed) Γ.tmps m, Γ.own⟩) (N := []) (pk i him hiL).ho (pk i him hiL).ht (pk i him hiL).hn
              (by rw [guardOf_congr (Γ := Γs i) (by rw [hpo]; exact hlook)]; exact (pk i him hiL).hG) (pk i him hiL).hA (fun _ => rfl) (look_congr (by rw [hpo]; exact hlook))
              (fun k b hk => by rw [text i (by omega)] at hk; exact hk) (fun k b hk => by cases hk)
            refine hstep Q g a w _ h2 fun g' a' w' h6 => ⟨h6.s, ?_⟩
            refine ih _ g' a' w' hsz' hc' hLl' hcl' (.inl ⟨fun j hj hj2 hjL => by rw [hget, if_neg (by omega)]; exact h1 j hj hj2 hjL, ?_⟩)
            refine h6.congr (fun t => ?_) (fun _ => rfl)
            have hEi : E i = true := by simp [E, hiL]
            have h7 := fD_add (tb := tb) (l0 := Γ.tmps) (j := i) (D := dn listed) (D' := dn (listed.setIfInBounds i true)) (by simp only [dn, hgetD, if_true, hEi, Bool.and_self]) (fun k hk => by simp only [dn, hgetD, if_neg hk]) (m := m) t him (by simp only [dn, hlf', Bool.false_and]) (fun k hk hki hkt hDk => by
              rcases Nat.lt_or_ge k i with h8 | h8
              · exact h8
              · have hik : i < k := by omega
                simp only [dn, Bool.and_eq_true] at hDk
                have hkL : memN k L = false := by
                  have := hDk.2
                  simp only [E, Bool.not_eq_true'] at this
                  exact this
                obtain ⟨hok, hd2⟩ := dstOf k hk hkL
                obtain ⟨hoi', hd1⟩ := dstOf i him hiL
                rcases F.pre i k _ _ hiL hkL hik hk hoi' hok with h9 | h9
                · have h10 := hcl k i (toGet k hDk.1) h9
                  rw [hlf'] at h10; cases h10
                · exact absurd (by rw [hd2, hkt]) ((Oper.apart_spec h9).2.1 _ hd1))
            rw [h7, get?_set, htb i him hiL]
          · -- the rest has begun
            have hall : ∀ j, j < m → listed[j]? = some true := by
              intro j hj
              cases hjL : memN j L with
              | true => exact hLl j hjL
              | false => exact toGet j (hmask j (F.tail j i hjL hiL (by omega) (by omega) hi))
            refine phase2 m (Nat.le_refl _) F.hm hall h1 ?_
            rw [text m (Nat.le_refl _)]
            refine h2.congr (fun t => ?_) (fun _ => rfl)
            refine (fD_text (j := m) (Nat.le_refl _) (fun k hk _ => ?_)).symm
            simp [dn, Array.getD_eq_getD_getElem?, hall k hk, hk]
        · exact phase2 q h1 h2 h3 h4 h5
  have hcn := cnt_listAll (L := L) (l := Array.replicate ops.size false) honce (by simp) (fun i hi => by simp [hLlt i hi])
  have hcr : cnt (Array.replicate ops.size false) = ops.size := by simp [cnt, List.filter_replicate]
  refine key (ops.size - L.length) (listAll L (Array.replicate ops.size false)) g a _ (by rw [listAll_size]; simp) (by omega) (fun k hk => by rw [listAll_get (by simpa using hLlt k hk), hk]; rfl) ?_ (.inl ⟨fun j _ hj hjL => by rw [listAll_get (by simpa using hj), hjL]; simp [hj], ?_⟩)
  · -- what is listed has all before it
    exact listAll_closed F hf
  · refine hst.congr (fun t => ?_) (fun _ => rfl)
    have : ∀ n, n ≤ ops.size → fD tb (dn (listAll L (Array.replicate ops.size false))) Γ.tmps n = Γ.tmps := by
      intro n
      induction n with
      | zero => intro _; rfl
      | succ n ih =>
        intro hn
        simp only [fD]
        rw [if_neg, ih (by omega)]
        simp only [dn, Array.getD_eq_getD_getElem?]
        rw [listAll_get (by simp; omega)]
        cases hL : memN n L with
        | true => simp [E, hL]
        | false => simp [show n < ops.size by omega]
    rw [this m F.hm]
end Go.Vc
