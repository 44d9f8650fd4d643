/- A region in whatever order its edges allow. No condition. -/
import Derived.Test.YtohfemfgnohhdaaVc18
namespace Go.Vc
set_option linter.unusedVariables false
set_option linter.unusedSimpArgs false

/-- The temporaries after the operations of D among the first n. -/
def fD (tb : Nat → Nat × AV) (D : Nat → Bool) (l0 : List (Nat × AV)) : Nat → List (Nat × AV)
  | 0 => l0
  | k + 1 => if D k = true then set (fD tb D l0 k) (tb k).1 (tb k).2 else fD tb D l0 k
theorem fD_text {tb : Nat → Nat × AV} {D : Nat → Bool} {l0 : List (Nat × AV)} {t j : Nat} : ∀ {m : Nat}, j ≤ m → (∀ k, k < m → (tb k).1 = t → D k = decide (k < j)) → get? (fD tb D l0 m) t = get? (fD tb (fun _ => true) l0 j) t := by
  intro m
  induction m generalizing j with
  | zero => intro hj _; have : j = 0 := by omega
            subst this; rfl
  | succ m ih =>
    intro hj h
    by_cases hjm : j = m + 1
    · subst hjm
      have ih' := ih (j := m) (Nat.le_refl _) (fun k hk ht => by rw [h k (by omega) ht]; simp; omega)
      simp only [fD, if_true]
      by_cases ht : (tb m).1 = t
      · have := h m (by omega) ht
        rw [if_pos (by rw [this]; simp), get?_set, get?_set]
        simp [ht]
      · have : get? (set (fD tb (fun _ => true) l0 m) (tb m).1 (tb m).2) t = get? (fD tb (fun _ => true) l0 m) t := by rw [get?_set, if_neg (Ne.symm ht)]
        rw [this, ← ih']
        split
        · rw [get?_set, if_neg (Ne.symm ht)]
        · rfl
    · have ih' := ih (j := j) (by omega) (fun k hk ht => h k (by omega) ht)
      simp only [fD]
      by_cases ht : (tb m).1 = t
      · have := h m (by omega) ht
        rw [if_neg (by rw [this]; simp; omega)]
        exact ih'
      · rw [← ih']
        split
        · rw [get?_set, if_neg (Ne.symm ht)]
        · rfl
theorem fD_add {tb : Nat → Nat × AV} {D D' : Nat → Bool} {l0 : List (Nat × AV)} {j : Nat} (hj : D' j = true) (hD : ∀ k, k ≠ j → D' k = D k) : ∀ {m : Nat} (t : Nat), j < m → D j = false → (∀ k, k < m → k ≠ j → (tb k).1 = (tb j).1 → D k = true → k < j) →
    get? (fD tb D' l0 m) t = if t = (tb j).1 then some (tb j).2 else get? (fD tb D l0 m) t := by
  intro m
  induction m with
  | zero => intro t h; omega
  | succ m ih =>
    intro t hjm hDj hlast
    by_cases hm : m = j
    · subst hm
      have same : ∀ n, n ≤ m → fD tb D' l0 n = fD tb D l0 n := by
        intro n
        induction n with
        | zero => intro _; rfl
        | succ n ihn =>
          intro hn
          simp only [fD]
          rw [hD n (by omega), ihn (by omega)]
      simp only [fD]
      have hDj' : ¬ D m = true := by rw [hDj]; simp
      rw [if_pos hj, if_neg hDj', get?_set, same m (Nat.le_refl _)]
    · have ih' := ih t (by omega) hDj (fun k hk => hlast k (by omega))
      simp only [fD]
      rw [hD m hm]
      by_cases hDm : D m = true
      · rw [if_pos hDm, if_pos hDm, get?_set, get?_set, ih']
        by_cases ht : t = (tb m).1
        · have hne : (tb m).1 ≠ (tb j).1 := fun e => by have := hlast m (by omega) hm e hDm; omega
          rw [if_pos ht, if_pos ht, if_neg (by rw [ht]; exact hne)]
        · rw [if_neg ht, if_neg ht]
      · rw [if_neg hDm, if_neg hDm]
        exact ih'

/-- The masks of what must come before. -/
def upm (M : List Nat) : List Edge → Nat → Nat
  | [], s => s
  | e :: r, s => match Region.binds .any e with
    | true => upm M r (s ||| 2 ^ e.on ||| M.getD e.on 0)
    | false => upm M r s
theorem upm_bit {M : List Nat} : ∀ {l : List Edge} {s i : Nat}, (upm M l s).testBit i = true → s.testBit i = true ∨ ∃ e ∈ l, Region.binds .any e = true ∧ (e.on = i ∨ (M.getD e.on 0).testBit i = true)
  | [], s, i, h => .inl h
  | e :: r, s, i, h => by
    simp only [upm] at h
    split at h
    · rename_i hb
      rcases upm_bit h with h1 | ⟨e', h1, h2, h3⟩
      · simp only [Nat.testBit_or, Bool.or_eq_true] at h1
        rcases h1 with (h1 | h1) | h1
        · exact .inl h1
        · refine .inr ⟨e, by simp, hb, .inl ?_⟩
          rw [Nat.testBit_two_pow] at h1
          simpa using h1
        · exact .inr ⟨e, by simp, hb, .inr h1⟩
      · exact .inr ⟨e', by simp [h1], h2, h3⟩
    · rcases upm_bit h with h1 | ⟨e', h1, h2, h3⟩
      · exact .inl h1
      · exact .inr ⟨e', by simp [h1], h2, h3⟩

def allBelow (n : Nat) (f : Nat → Bool) : Bool := match n with
  | 0 => true
  | k + 1 => f k && allBelow k f
theorem allBelow_get : ∀ {n : Nat} {f : Nat → Bool}, allBelow n f = true → ∀ i, i < n → f i = true
  | 0, f, _, i, h => by omega
  | k + 1, f, h, i, hi => by
    simp only [allBelow, Bool.and_eq_true] at h
    by_cases e : i = k
    · rw [e]; exact h.1
    · exact allBelow_get h.2 i (by omega)
def edgesLt (j : Nat) : List Edge → Bool
  | [] => true
  | e :: r => (!(Region.binds .any e) || Nat.blt e.on j) && edgesLt j r
theorem edgesLt_get {j : Nat} : ∀ {l : List Edge} {e : Edge}, edgesLt j l = true → e ∈ l → Region.binds .any e = true → e.on < j
  | [], e, _, h, _ => by cases h
  | x :: r, e, hl, h, hb => by
    simp only [edgesLt, Bool.and_eq_true, Bool.or_eq_true, Bool.not_eq_true'] at hl
    rcases List.mem_cons.1 h with rfl | h
    · rcases hl.1 with h1 | h1
      · rw [hb] at h1; cases h1
      · exact Nat.le_of_ble_eq_true h1
    · exact edgesLt_get hl.2 h hb

/-- The region's order: M the masks; the first m in whatever order, the rest in the text's. -/
def drawOk (ops : Array Oper) (M : List Nat) (m : Nat) : Bool :=
  Nat.ble m ops.size && allBelow ops.size (fun j => match ops[j]? with
    | none => false
    | some o => edgesLt j o.after.toList && Nat.beq (M.getD j 0) (upm M o.after.toList 0) && (match Nat.blt j m with
      | true => allBelow j (fun i => (M.getD j 0).testBit i || (match ops[i]? with
        | some x => x.apart ops o
        | none => false))
      | false => allBelow j (fun i => (M.getD j 0).testBit i)))

structure DrawFacts (ops : Array Oper) (M : List Nat) (m : Nat) : Prop where
  hm : m ≤ ops.size
  edge : ∀ j o, ops[j]? = some o → ∀ e ∈ o.after, Region.binds .any e = true → e.on < j
  mask : ∀ j o i, ops[j]? = some o → (M.getD j 0).testBit i = true → ∃ e ∈ o.after, Region.binds .any e = true ∧ (e.on = i ∨ (M.getD e.on 0).testBit i = true)
  pre : ∀ i j x o, i < j → j < m → ops[i]? = some x → ops[j]? = some o → (M.getD j 0).testBit i = true ∨ x.apart ops o = true
  tail : ∀ i j, i < j → m ≤ j → j < ops.size → (M.getD j 0).testBit i = true
theorem drawOk.facts {ops : Array Oper} {M : List Nat} {m : Nat} (h : drawOk ops M m = true) : DrawFacts ops M m := by
  simp only [drawOk, Bool.and_eq_true] at h
  obtain ⟨h0, h⟩ := h
  have hlt : ∀ j o, ops[j]? = some o → j < ops.size := fun j o ho => (Array.getElem?_eq_some_iff.1 ho).1
  have hj := fun j hj => allBelow_get h j hj
  refine ⟨Nat.le_of_ble_eq_true h0, fun j o ho e he hb => ?_, fun j o i ho hi => ?_, fun i j x o hij hjm hx ho => ?_, fun i j hij hmj hjs => ?_⟩
  · have := hj j (hlt j o ho)
    rw [ho] at this
    simp only [Bool.and_eq_true] at this
    exact edgesLt_get this.1.1 (by simpa using he) hb
  · have := hj j (hlt j o ho)
    rw [ho] at this
    simp only [Bool.and_eq_true] at this
    rw [Nat.eq_of_beq_eq_true this.1.2] at hi
    rcases upm_bit hi with h1 | ⟨e, h1, h2⟩
    · simp at h1
    · exact ⟨e, by simpa using h1, h2⟩
  · have := hj j (hlt j o ho)
    rw [ho] at this
    simp only [Bool.and_eq_true] at this
    have hb : Nat.blt j m = true := Nat.ble_eq_true_of_le hjm
    rw [hb] at this
    have h2 := allBelow_get this.2 i hij
    rw [hx] at h2
    simpa using h2
  · have ho : ops[j]? = some ops[j] := by simp [hjs]
    have := hj j hjs
    rw [ho] at this
    simp only [Bool.and_eq_true] at this
    have hb : Nat.blt j m = false := by
      cases hc : Nat.blt j m with
      | false => rfl
      | true => have := Nat.le_of_ble_eq_true hc; omega
    rw [hb] at this
    exact allBelow_get this.2 i hij

def cnt (listed : Array Bool) : Nat := (listed.toList.filter (fun b => !b)).length
theorem cnt_set {listed : Array Bool} {i : Nat} (hi : listed[i]? = some false) : cnt (listed.setIfInBounds i true) + 1 = cnt listed := by
  unfold cnt
  rw [Array.toList_setIfInBounds]
  have hi' : listed.toList[i]? = some false := by simpa using hi
  clear hi
  generalize listed.toList = l at hi'
  induction l generalizing i with
  | nil => simp at hi'
  | cons b r ih =>
    cases i with
    | zero => simp at hi'; subst hi'; simp
    | succ i =>
      have := ih (i := i) (by simpa using hi')
      cases b <;> simp [List.filter_cons] <;> omega
theorem cnt_zero {listed : Array Bool} (h : cnt listed = 0) : ∀ i, i < listed.size → listed[i]? = some true := by
  intro i hi
  unfold cnt at h
  have h1 := List.eq_nil_of_length_eq_zero h
  have : listed.toList[i]? = some listed[i] := by simp [hi]
  cases hb : listed[i] with
  | true => simp [hi, hb]
  | false =>
    rw [hb] at this
    have h2 : (false : Bool) ∈ listed.toList.filter (fun b => !b) := List.mem_filter.2 ⟨List.mem_of_getElem? this, rfl⟩
    rw [h1] at h2; cases h2
theorem cnt_pos {listed : Array Bool} (h : 0 < cnt listed) : ∃ i : Nat, listed[i]? = some false ∧ ∀ k : Nat, k < i → listed[k]? = some true := by
  unfold cnt at h
  have : ∀ l : List Bool, 0 < (l.filter (fun b => !b)).length → ∃ i : Nat, l[i]? = some false ∧ ∀ k : Nat, k < i → l[k]? = some true := by
    intro l
    induction l with
    | nil => intro h; simp at h
    | cons b r ih =>
      intro h
      cases b with
      | false => exact ⟨0, rfl, fun k hk => by omega⟩
      | true =>
        obtain ⟨i, h1, h2⟩ := ih (by simpa using h)
        refine ⟨i + 1, by simpa using h1, fun k hk => ?_⟩
        cases k with
        | zero => rfl
        | succ k => simpa using h2 k (by omega)
  obtain ⟨i, h1, h2⟩ := this listed.toList h
  exact ⟨i, by simpa using h1, fun k hk => by simpa using h2 k hk⟩

theorem ready_mem {ops : Array Oper} {listed : Array Bool} {i : Nat} : i ∈ Region.ready .any ops listed ↔ i < ops.size ∧ listed.getD i true = false ∧ ∀ o, ops[i]? = some o → ∀ e ∈ o.after, Region.binds .any e = true → listed.getD e.on false = true := by
  unfold Region.ready
  simp only [List.mem_filter, List.mem_range, Bool.and_eq_true, Bool.not_eq_true']
  constructor
  · rintro ⟨h1, h2, h3⟩
    refine ⟨h1, h2, fun o ho e he hb => ?_⟩
    rw [ho] at h3
    simp only [Option.map_some, Option.getD_some] at h3
    have := Array.all_eq_true_iff_forall_mem.1 h3 e he
    simpa [hb] using this
  · rintro ⟨h1, h2, h3⟩
    refine ⟨h1, h2, ?_⟩
    have ho : ops[i]? = some ops[i] := by simp [h1]
    rw [ho]
    simp only [Option.map_some, Option.getD_some]
    refine Array.all_eq_true_iff_forall_mem.2 fun e he => ?_
    by_cases hb : Region.binds .any e = true
    · simp [hb, h3 _ ho e he hb]
    · simp [hb]

theorem guardOf_congr {ops : Array Oper} {Γ Γ' : Sy} {o : Oper} (h : ∀ t, t ∈ o.looksAt ops → get? Γ'.tmps t = get? Γ.tmps t) : guardOf (dstsOf ops) Γ' o.guard = guardOf (dstsOf ops) Γ o.guard := by
  cases hg : o.guard with
  | none => rfl
  | some x =>
    obtain ⟨j, b⟩ := x
    simp only [guardOf]
    cases hj : (dstsOf ops)[j]? with
    | none => rfl
    | some d =>
      cases d with
      | none => rfl
      | some t =>
        have : t ∈ o.looksAt ops := by
          unfold Oper.looksAt
          rw [hg]
          refine List.mem_append.2 (.inr ?_)
          simp only [dstsOf, List.getElem?_map] at hj
          obtain ⟨o', h1, h2⟩ := Option.map_eq_some_iff.1 hj
          have h3 : ops[j]? = some o' := by simpa using h1
          simp [h3, h2]
        simp only [h t this]
theorem look_congr {ops : Array Oper} {Γ Γ' : Sy} {o : Oper} (h : ∀ t, t ∈ o.looksAt ops → get? Γ'.tmps t = get? Γ.tmps t) : ∀ x ∈ o.op.operands, look Γ' x = look Γ x := by
  intro x hx
  cases x with
  | tmp t =>
    refine h t ?_
    unfold Oper.looksAt
    refine List.mem_append.2 (.inl (List.mem_filterMap.2 ⟨.tmp t, by simpa using hx, rfl⟩))
  | _ => rfl

/-- In whatever order. -/
theorem region_draw {P : Program} {T : List (Nat × TE)} {Fz : List Nat} (hT : TOk P T) (hmx : P.follows .mixedOrders = true) {c : Cx} {ops : Array Oper} {M : List Nat} {m : Nat} (hd : drawOk ops M m = true) {K : Sy → Prop} {Γ : Sy} (h : opsVC P T Fz c.n (dstsOf ops) ops.toList m Γ K)
    {Q : Exit → Act → World → Prop} {g : Nat → Value} {a : Act} {w : World} (hst : St c Γ g a w) (hQ : ∀ Γ' g' a' w', K Γ' → St c Γ' g' a' w' → Q .normal a' w') {id : Nat} : (Code.region id ops true).wp P Q a w := by
  have F := drawOk.facts hd
  obtain ⟨Γs, e1, e2, e3⟩ := opsVC.trace hT ops.toList m 0 Γ (by simp) h
  have pre : ∀ j, j < m → Nonempty (PreOk P c ops j (Γs j) (Γs (j + 1))) := fun j hj => (e3 j (by omega) (by have := F.hm; omega)).1 (by omega)
  let pk : ∀ j, j < m → PreOk P c ops j (Γs j) (Γs (j + 1)) := fun j hj => Classical.choice (pre j hj)
  let tb : Nat → Nat × AV := fun j => if hj : j < m then ((pk j hj).t, gd' (pk j hj).G (pk j hj).A) else (0, .any)
  have htb : ∀ j (hj : j < m), tb j = ((pk j hj).t, gd' (pk j hj).G (pk j hj).A) := fun j hj => by simp [tb, hj]
  -- the text's states
  have text : ∀ j, j ≤ m → Γs j = ⟨fD tb (fun _ => true) Γ.tmps j, Γ.own⟩ := by
    intro j
    induction j with
    | zero => intro _; rw [e1]; rfl
    | succ j ih =>
      intro hj
      have h1 := congrArg Sy.tmps (ih (by omega))
      have h2 := congrArg Sy.own (ih (by omega))
      have h3 := (pk j (by omega)).hΓ
      rw [h3]
      simp only [fD, if_true, htb j (by omega)]
      dsimp only at h1 h2
      rw [← h2]
      congr 1
      rw [← h1]
  have key : ∀ (fuel : Nat) (listed : Array Bool) (g : Nat → Value) (a : Act) (w : World), listed.size = ops.size → cnt listed = fuel →
      (∀ j i, listed[j]? = some true → (M.getD j 0).testBit i = true → listed.getD i false = true) →
      (((∀ j, m ≤ j → j < ops.size → listed[j]? = some false) ∧ St c ⟨fD tb (fun j => listed.getD j false) Γ.tmps m, Γ.own⟩ g a w) ∨
        ∃ q, m ≤ q ∧ q ≤ ops.size ∧ (∀ j, j < q → listed[j]? = some true) ∧ (∀ j, q ≤ j → j < ops.size → listed[j]? = some false) ∧ St c (Γs q) g a w) →
      wpAny P .any ops Q fuel listed a w := by
    intro fuel
    induction fuel with
    | zero =>
      intro listed g a w hsz hc hcl hs
      have hall := cnt_zero hc
      have hrd : Region.ready .any ops listed = [] := by
        refine List.eq_nil_iff_forall_not_mem.2 fun i hi => ?_
        obtain ⟨h1, h2, _⟩ := ready_mem.1 hi
        have := hall i (by omega)
        simp [Array.getD_eq_getD_getElem?, this] at h2
      refine ⟨hrd, ?_⟩
      rcases hs with ⟨h1, h2⟩ | ⟨q, h1, h2, h3, h4, h5⟩
      · have hm : m = ops.size := by
          rcases Nat.lt_or_ge m ops.size with h3 | h3
          · have h4 := h1 m (Nat.le_refl _) h3
            rw [hall m (by omega)] at h4; cases h4
          · have := F.hm; omega
        have : St c (Γs ops.size) g a w := by
          rw [← hm, text m (Nat.le_refl _)]
          refine h2.congr (fun t => ?_) (fun _ => rfl)
          exact (fD_text (j := m) (Nat.le_refl _) (fun k hk _ => by simp [Array.getD_eq_getD_getElem?, hall k (by omega), hk])).symm
        exact hQ _ g a w e2 this
      · have : q = ops.size := by
          rcases Nat.lt_or_ge q ops.size with h6 | h6
          · have h7 := h4 q (Nat.le_refl _) h6
            rw [hall q (by omega)] at h7; cases h7
          · omega
        subst this
        exact hQ _ g a w e2 h5
    | succ fuel ih =>
      intro listed g a w hsz hc hcl hs
      refine ⟨fun hrd => ?_, fun i hi => ?_⟩
      · -- something is ready
        obtain ⟨i, h1, h2⟩ := cnt_pos (listed := listed) (by omega)
        have hi : i < ops.size := by rw [← hsz]; exact (Array.getElem?_eq_some_iff.1 h1).1
        have : i ∈ Region.ready .any ops listed := ready_mem.2 ⟨hi, by simp [Array.getD_eq_getD_getElem?, h1], fun o ho e he hb => by
          have := h2 e.on (F.edge i o ho e he hb)
          simp [Array.getD_eq_getD_getElem?, this]⟩
        rw [hrd] at this; cases this
      · obtain ⟨hi, hli, hpre⟩ := ready_mem.1 hi
        have hlf : listed[i]? = some false := by
          have : i < listed.size := by omega
          simp only [Array.getD_eq_getD_getElem?] at hli
          cases hb : listed[i]? with
          | none => rw [hb] at hli; cases hli
          | some b => rw [hb] at hli; simp at hli; rw [hli]
        have hlf' : listed.getD i false = false := by simp [Array.getD_eq_getD_getElem?, hlf]
        have hoi : ops[i]? = some ops[i] := by simp [hi]
        have hmask : ∀ k, (M.getD i 0).testBit k = true → listed.getD k false = true := by
          intro k hk
          obtain ⟨e, he, hb, h1⟩ := F.mask i _ k hoi hk
          have h2 := hpre _ hoi e he hb
          rcases h1 with rfl | h1
          · exact h2
          · refine hcl e.on k ?_ h1
            simp only [Array.getD_eq_getD_getElem?] at h2
            cases hb' : listed[e.on]? with
            | none => rw [hb'] at h2; cases h2
            | some b => rw [hb'] at h2; simp at h2; rw [h2]
        have hsz' : (listed.setIfInBounds i true).size = ops.size := by simp [hsz]
        have hc' : cnt (listed.setIfInBounds i true) = fuel := by have := cnt_set hlf; omega
        have hget : ∀ k, (listed.setIfInBounds i true)[k]? = if k = i then some true else listed[k]? := by
          intro k
          by_cases hk : k = i
          · subst hk; simp [hsz, hi]
          · rw [if_neg hk, Array.getElem?_setIfInBounds_ne (Ne.symm hk)]
        have hgetD : ∀ k, (listed.setIfInBounds i true).getD k false = if k = i then true else listed.getD k false := by
          intro k
          simp only [Array.getD_eq_getD_getElem?, hget]
          split <;> rfl
        have hcl' : ∀ j k, (listed.setIfInBounds i true)[j]? = some true → (M.getD j 0).testBit k = true → (listed.setIfInBounds i true).getD k false = true := by
          intro j k hj hk
          rw [hgetD]
          split
          · rfl
          · rw [hget] at hj
            split at hj
            · rename_i e; rw [e] at hk; exact hmask k hk
            · exact hcl j k hj hk
        -- which phase
        have phase2 : ∀ q, m ≤ q → q ≤ ops.size → (∀ j, j < q → listed[j]? = some true) → (∀ j, q ≤ j → j < ops.size → listed[j]? = some false) → St c (Γs q) g a w → wpOp P ops Q i (wpAny P .any ops Q fuel (listed.setIfInBounds i true)) a w := by
          intro q h1 h2 h3 h4 h5
          have hqi : i = q := by
            have hge : q ≤ i := by
              rcases Nat.lt_or_ge i q with h6 | h6
              · rw [h3 i h6] at hlf; cases hlf
              · exact h6
            rcases Nat.lt_or_ge q i with h6 | h6
            · have h7 := hmask q (F.tail q i h6 (by omega) hi)
              have h8 := h4 q (Nat.le_refl _) (by omega)
              simp [Array.getD_eq_getD_getElem?, h8] at h7
            · omega
          subst hqi
          refine (e3 i (by omega) hi).2 (by omega) Q g a w _ h5 fun g' a' w' h6 => ?_
          refine ih _ g' a' w' hsz' hc' hcl' (.inr ⟨i + 1, by omega, by omega, fun j hj => ?_, fun j hj hj2 => ?_, h6⟩)
          · rw [hget]
            split
            · rfl
            · exact h3 j (by omega)
          · rw [hget, if_neg (by omega)]
            exact h4 j (by omega) hj2
        rcases hs with ⟨h1, h2⟩ | ⟨q, h1, h2, h3, h4, h5⟩
        · by_cases him : i < m
          · -- one of the first ones
            have hlook : ∀ t, t ∈ (ops[i]).looksAt ops → get? (fD tb (fun j => listed.getD j false) Γ.tmps m) t = get? (Γs i).tmps t := by
              intro t ht
              rw [text i (by omega)]
              refine fD_text (by omega) fun k hk hkt => ?_
              have hks : k < ops.size := by have := F.hm; omega
              have hok : ops[k]? = some ops[k] := by simp [hks]
              have hdk : (ops[k]).dst = some t := by
                have h6 : (pk k hk).o = ops[k] := Option.some.inj ((pk k hk).ho.symm.trans hok)
                rw [← h6, (pk k hk).ht, ← hkt, htb k hk]
              rcases Nat.lt_trichotomy k i with h6 | h6 | h6
              · have : listed.getD k false = true := by
                  rcases F.pre k i _ _ h6 him hok hoi with h7 | h7
                  · exact hmask k h7
                  · exact absurd ht ((Oper.apart_spec h7).1 t hdk)
                simp [this, h6]
              · subst h6
                simp [hlf']
              · have : listed.getD k false = false := by
                  cases hb : listed.getD k false with
                  | false => rfl
                  | true =>
                    rcases F.pre i k _ _ h6 hk hoi hok with h7 | h7
                    · have h8 := hcl k i (by
                        simp only [Array.getD_eq_getD_getElem?] at hb
                        cases hb' : listed[k]? with
                        | none => rw [hb'] at hb; cases hb
                        | some b => rw [hb'] at hb; simp at hb; rw [hb]) h7
                      rw [hlf'] at h8; cases h8
                    · exact absurd ht ((Oper.apart_spec h7).2.2 t hdk)
                simp [this]
                omega
            have hp := pk i him
            have hpo : (pk i him).o = ops[i] := Option.some.inj ((pk i him).ho.symm.trans hoi)
            have hstep := add_step (P := P) (c := c) (ops := ops) (j := i) (Γ := Γs i) (Γ' := ⟨fD tb (fun j => listed.getD j false) Γ.tmps m, Γ.own⟩) (N := []) (pk i him).ho (pk i him).ht (pk i him).hn
              (by rw [guardOf_congr (Γ := Γs i) (by rw [hpo]; exact hlook)]; exact (pk i him).hG) (pk i him).hA (fun _ => rfl) (look_congr (by rw [hpo]; exact hlook))
              (fun k b hk => by rw [text i (by omega)] at hk; exact hk) (fun k b hk => by cases hk)
            refine hstep Q g a w _ h2 fun g' a' w' h6 => ?_
            refine ih _ g' a' w' hsz' hc' hcl' (.inl ⟨fun j hj hj2 => by rw [hget, if_neg (by omega)]; exact h1 j hj hj2, ?_⟩)
            refine h6.congr (fun t => ?_) (fun _ => rfl)
            have h7 := fD_add (tb := tb) (l0 := Γ.tmps) (j := i) (D := fun j => listed.getD j false) (D' := fun j => (listed.setIfInBounds i true).getD j false) (by simp [hgetD]) (fun k hk => by simp only [hgetD, if_neg hk]) (m := m) t him hlf' (fun k hk hki hkt hDk => by
              rcases Nat.lt_or_ge k i with h8 | h8
              · exact h8
              · have hik : i < k := by omega
                have hks : k < ops.size := by have := F.hm; omega
                have hok : ops[k]? = some ops[k] := by simp [hks]
                have hd1 : (ops[i]).dst = some (tb i).1 := by rw [← hpo, (pk i him).ht, htb i him]
                have hd2 : (ops[k]).dst = some (tb k).1 := by
                  have h9 : (pk k hk).o = ops[k] := Option.some.inj ((pk k hk).ho.symm.trans hok)
                  rw [← h9, (pk k hk).ht, htb k hk]
                rcases F.pre i k _ _ hik hk hoi hok with h9 | h9
                · have h10 := hcl k i (by
                    simp only [Array.getD_eq_getD_getElem?] at hDk
                    cases hb' : listed[k]? with
                    | none => rw [hb'] at hDk; cases hDk
                    | some b => rw [hb'] at hDk; simp at hDk; rw [hDk]) h9
                  rw [hlf'] at h10; cases h10
                · exact absurd (by rw [hd2, hkt]) ((Oper.apart_spec h9).2.1 _ hd1))
            rw [h7, get?_set, htb i him]
          · -- the rest has begun
            have hall : ∀ j, j < m → listed[j]? = some true := by
              intro j hj
              have := hmask j (F.tail j i (by omega) (by omega) hi)
              simp only [Array.getD_eq_getD_getElem?] at this
              cases hb' : listed[j]? with
              | none => rw [hb'] at this; cases this
              | some b => rw [hb'] at this; simp at this; rw [this]
            refine phase2 m (Nat.le_refl _) F.hm hall h1 ?_
            rw [text m (Nat.le_refl _)]
            refine h2.congr (fun t => ?_) (fun _ => rfl)
            exact (fD_text (j := m) (Nat.le_refl _) (fun k hk _ => by simp [Array.getD_eq_getD_getElem?, hall k (by omega), hk])).symm
        · exact phase2 q h1 h2 h3 h4 h5
  refine wp_region_any hmx ?_
  refine key ops.size _ g a _ (by simp) ?_ (fun j i hj => by simp [Array.getElem?_replicate] at hj) (.inl ⟨fun j _ hj => by simp [hj], ?_⟩)
  · simp [cnt, List.filter_replicate]
  · refine (hst.keepW (Keep.drew w)).congr (fun t => ?_) (fun _ => rfl)
    have : ∀ n, fD tb (fun j => (Array.replicate ops.size false).getD j false) Γ.tmps n = Γ.tmps := by
      intro n
      induction n with
      | zero => rfl
      | succ n ih =>
        simp only [fD]
        rw [if_neg (by simp [Array.getD_eq_getD_getElem?, Array.getElem?_replicate]; split <;> simp), ih]
    rw [this]
end Go.Vc
