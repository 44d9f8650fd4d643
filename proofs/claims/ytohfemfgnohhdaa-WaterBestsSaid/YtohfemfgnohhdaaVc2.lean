/- The symbolic state of Vc1 under the steps of a run: a value is put, the world grows, new things are adopted, an owned thing is written. No condition. -/
import Derived.Test.YtohfemfgnohhdaaVc1
namespace Go.Vc
set_option linter.unusedVariables false
set_option linter.unusedSimpArgs false

theorem ownsRow_lt {w : World} {base e size n : Nat} {v : Value} {xs : List Value} (h : w.ownsRow base e size v n xs) {b : Nat} (hb : blk v = some b) : base ≤ b ∧ b < w.heap.size := by
  rcases h.2 with ⟨rfl, _⟩ | ⟨b', cap, cur, rfl, h2, h3, _⟩
  · cases hb
  · cases hb
    exact ⟨h2, (Array.getElem?_eq_some_iff.1 h3).1⟩
theorem ownsRow_blk {w : World} {base e size n : Nat} {v : Value} {xs : List Value} (h : w.ownsRow base e size v n xs) {b : Nat} (hb : Blk v b) : blk v = some b := by
  rcases h.2 with ⟨rfl, _⟩ | ⟨b', cap, cur, rfl, _⟩
  · exact (Blk.nil hb).elim
  · rw [(Blk.single (n := b') rfl).1 hb]; rfl
def Ob.isMat : Ob → Bool
  | .mat .. => true
  | _ => false
theorem OwnOk.one {w : World} {base : Nat} {O O0 : Nat → Prop} {g : Nat → Value} {v : Value} {o : Ob} (h : OwnOk w base O O0 g v o) (hm : o.isMat = false) {b : Nat} (hb : Blk v b) : blk v = some b := by
  cases o with
  | row e t fr l => obtain ⟨xs, ho, _⟩ := h; exact ownsRow_blk ho hb
  | mat => cases hm
  | box l => obtain ⟨b', arr, e, rfl, _⟩ := h; rw [(Blk.single (n := b') rfl).1 hb]; rfl
  | box1 A => obtain ⟨b', arr, e, rfl, _⟩ := h; rw [(Blk.single (n := b') rfl).1 hb]; rfl
theorem OwnOk.lt {w : World} {base : Nat} {O O0 : Nat → Prop} {g : Nat → Value} {v : Value} {o : Ob} (h : OwnOk w base O O0 g v o) {b : Nat} (hb : Blk v b) : base ≤ b ∧ b < w.heap.size := by
  cases o with
  | row e t fr l =>
    obtain ⟨xs, ho, _⟩ := h
    exact ownsRow_lt ho (ownsRow_blk ho hb)
  | mat e e' t fr xs st =>
    obtain ⟨⟨cells, h1, _⟩, h4, _⟩ := h
    rcases hb with hb | ⟨i, hb⟩
    · exact ownsRow_lt h1 hb
    · obtain ⟨ys, ho, _⟩ := h4 i
      exact ownsRow_lt ho hb
  | box l =>
    have hb := h.one rfl hb
    obtain ⟨b', arr, e, rfl, h2, h3, _⟩ := h
    cases hb
    exact ⟨h2, (Array.getElem?_eq_some_iff.1 h3).1⟩
  | box1 A =>
    have hb := h.one rfl hb
    obtain ⟨b', x, e, rfl, h2, h3, _⟩ := h
    cases hb
    exact ⟨h2, (Array.getElem?_eq_some_iff.1 h3).1⟩

theorem St.change {c : Cx} {Γ Γ' : Sy} {g g' : Nat → Value} {a : Act} {w w' : World} (h : St c Γ g a w) (hk : Keep c.w0 w')
    (hw : ∀ b x e fz, w.heap[b]? = some (.cells x e fz) → ¬ Oset Γ.own g b → w'.heap[b]? = some (.cells x e fz) ∧ ¬ Oset Γ'.own g' b)
    (ht : ∀ t A', get? Γ'.tmps t = some A' → A' = .any ∨ (get? Γ.tmps t = some A' ∧ ∀ k, A'.hasKey k = true → g' k = g k))
    (hh : Hp c.w0.heap.size c.O0 Γ'.own g' w') : St c Γ' g' a w' :=
  ⟨h.defers, h.size, hk, h.o0, fun t A hA => by
    rcases ht t A hA with rfl | ⟨h1, h2⟩
    · trivial
    · exact (h.tmps t A h1).mono hw (fun _ _ _ _ _ _ h => h) h2, fun b x hb => hw b _ _ _ (h.kept b x hb).1 (h.kept b x hb).2, hh⟩

theorem St.put {c : Cx} {Γ : Sy} {g : Nat → Value} {a : Act} {w : World} (h : St c Γ g a w) {t : Nat} {A : AV} {v : Value} (ht : t < c.n)
    (hv : Rp w (Oset Γ.own g) c.O0 g v A) : St c ⟨set Γ.tmps t A, Γ.own⟩ g (a.put (some t) v) w := by
  refine ⟨h.defers, by simp [Act.put, h.size], h.keep, h.o0, fun t' A' hA' => ?_, h.kept, h.hp⟩
  simp only [get?_set] at hA'
  by_cases e : t' = t
  · subst e
    simp only [if_true] at hA'
    cases hA'
    have : t' < a.tmps.size := by rw [h.size]; exact ht
    simp only [Act.put, Array.getD_eq_getD_getElem?, Array.getElem?_setIfInBounds, this, if_true, Option.getD_some]
    exact hv
  · simp only [e, if_false] at hA'
    have := h.tmps t' A' hA'
    simpa only [Act.put, Array.getD_eq_getD_getElem?, Array.getElem?_setIfInBounds_ne (Ne.symm e)] using this

theorem Hp.lt {base : Nat} {O0 : Nat → Prop} {own : List (Nat × Ob)} {g : Nat → Value} {w : World} (h : Hp base O0 own g w) {b : Nat} (hb : Oset own g b) : base ≤ b ∧ b < w.heap.size := by
  obtain ⟨k, o, h1, h2⟩ := hb
  exact (h.ok k o h1).lt h2

theorem heap_lt {w : World} {b : Nat} {x : Obj} (h : w.heap[b]? = some x) : b < w.heap.size := (Array.getElem?_eq_some_iff.1 h).1

theorem Hp.keepW {base : Nat} {O0 : Nat → Prop} {own : List (Nat × Ob)} {g : Nat → Value} {w w' : World} (h : Hp base O0 own g w) (hk : Keep w w') : Hp base O0 own g w' :=
  ⟨fun k o hko => (h.ok k o hko).mono (fun b x e fz hb hO => ⟨(hk.b b (heap_lt hb)).trans hb, hO⟩) (fun _ _ _ _ _ _ h => h) (fun b hb => hk.b b ((h.ok k o hko).lt hb).2) (fun _ _ => rfl), h.inj⟩

theorem St.keepW {c : Cx} {Γ : Sy} {g : Nat → Value} {a : Act} {w w' : World} (h : St c Γ g a w) (hk : Keep w w') : St c Γ g a w' :=
  h.change (h.keep.trans hk) (fun b x e fz hb hO => ⟨(hk.b b (heap_lt hb)).trans hb, hO⟩) (fun _ _ hA => .inr ⟨hA, fun _ _ => rfl⟩) (h.hp.keepW hk)

theorem Oset.congr {own own' : List (Nat × Ob)} {g : Nat → Value} (h : ∀ k, get? own' k = get? own k) : Oset own' g = Oset own g := by
  funext b
  simp only [Oset, h]

/-- Only what is found counts. -/
theorem St.congr {c : Cx} {Γ Γ' : Sy} {g : Nat → Value} {a : Act} {w : World} (h : St c Γ g a w) (ht : ∀ t, get? Γ'.tmps t = get? Γ.tmps t) (ho : ∀ k, get? Γ'.own k = get? Γ.own k) : St c Γ' g a w := by
  have hO := Oset.congr (g := g) ho
  refine ⟨h.defers, h.size, h.keep, h.o0, fun t A hA => ?_, fun b x hb => by rw [hO]; exact h.kept b x hb, ⟨fun k o hk => ?_, fun k k' o o' b h1 h2 => ?_⟩⟩
  · rw [hO]; exact h.tmps t A (by rw [← ht]; exact hA)
  · rw [hO]; exact h.hp.ok k o (by rw [← ho]; exact hk)
  · exact h.hp.inj k k' o o' b (by rw [← ho]; exact h1) (by rw [← ho]; exact h2)

/-- Everything that names key k is forgotten. -/
def AV.purge (k : Nat) (A : AV) : AV := match A.hasKey k with
  | true => .any
  | false => A
def AV.purge2 (k : Nat) (A : AV) : AV := match A.key2 k with
  | true => .any
  | false => A
def purgeL (k : Nat) : List AV → List AV
  | [] => []
  | A :: r => A.purge2 k :: purgeL k r
def Ob.purge (k : Nat) : Ob → Ob
  | .row e t fr l => .row e t fr l
  | .mat e e' t fr xs st => .mat e e' t fr xs st
  | .box l => .box (purgeL k l)
  | .box1 A => .box1 (A.purge2 k)
def mapv {α : Type} (f : α → α) : List (Nat × α) → List (Nat × α)
  | [] => []
  | (k, v) :: r => (k, f v) :: mapv f r
theorem get?_mapv {α : Type} (f : α → α) (l : List (Nat × α)) (k : Nat) : get? (mapv f l) k = (get? l k).map f := by
  induction l with
  | nil => rfl
  | cons x r ih =>
    obtain ⟨k', v⟩ := x
    simp only [mapv, get?]
    cases Nat.beq k' k <;> simp [ih]
theorem AV.purge_key (k : Nat) (A : AV) : A.purge k = .any ∨ (A.purge k = A ∧ A.hasKey k = false) := by
  unfold AV.purge
  cases A.hasKey k <;> simp
theorem AV.purge2_key (k : Nat) (A : AV) : A.purge2 k = .any ∨ (A.purge2 k = A ∧ A.key2 k = false) := by
  unfold AV.purge2
  cases A.key2 k <;> simp
theorem purgeL_get {k : Nat} : ∀ {l : List AV} {i : Nat}, (purgeL k l)[i]? = (l[i]?).map (AV.purge2 k)
  | [], i => by simp [purgeL]
  | A :: r, i => by
    cases i with
    | zero => simp [purgeL]
    | succ i => simp [purgeL, purgeL_get (l := r) (i := i)]
theorem purgeL_len {k : Nat} : ∀ {l : List AV}, (purgeL k l).length = l.length
  | [] => rfl
  | A :: r => by simp [purgeL, purgeL_len (l := r)]
theorem purge2_no {k : Nat} {A : AV} : (A.purge2 k).key2 k = false := by
  rcases AV.purge2_key k A with h | ⟨h, h'⟩
  · rw [h]; rfl
  · rw [h]; exact h'
theorem anyKey2_purge {k : Nat} : ∀ {l : List AV}, anyKey2 k (purgeL k l) = false
  | [] => rfl
  | A :: r => by simp [purgeL, anyKey2, purge2_no, anyKey2_purge (l := r)]
theorem Ob.purge_no {k : Nat} {o : Ob} : (o.purge k).hasKey k = false := by
  cases o with
  | row => rfl
  | mat => rfl
  | box l => exact anyKey2_purge
  | box1 A => exact purge2_no
theorem Rp2.purge {w : World} {O O0 : Nat → Prop} {g : Nat → Value} {v : Value} {A : AV} {k : Nat} (h : Rp2 w O O0 g v A) : Rp2 w O O0 g v (A.purge2 k) := by
  rcases AV.purge2_key k A with h' | ⟨h', _⟩ <;> rw [h']
  · trivial
  · exact h
theorem OwnOk.purge {w : World} {base : Nat} {O O0 : Nat → Prop} {g : Nat → Value} {v : Value} {o : Ob} {k : Nat} (h : OwnOk w base O O0 g v o) : OwnOk w base O O0 g v (o.purge k) := by
  cases o with
  | row => exact h
  | mat => exact h
  | box l =>
    obtain ⟨b, arr, e, rfl, h1, h2, h3, h4⟩ := h
    refine ⟨b, arr, e, rfl, h1, h2, by rw [purgeL_len]; exact h3, fun i B hB => ?_⟩
    rw [purgeL_get] at hB
    obtain ⟨A0, hA0, rfl⟩ := Option.map_eq_some_iff.1 hB
    obtain ⟨x, h5, h6, h7⟩ := h4 i A0 hA0
    exact ⟨x, h5, h6, h7.purge⟩
  | box1 A =>
    obtain ⟨b, x, e, rfl, h1, h2, h3, h4⟩ := h
    exact ⟨b, x, e, rfl, h1, h2, h3, h4.purge⟩

/-- Forget key k: its entry, and all that names it. -/
def Sy.drop (Γ : Sy) (k : Nat) : Sy := ⟨mapv (AV.purge k) Γ.tmps, mapv (Ob.purge k) (del Γ.own k)⟩

theorem St.drop {c : Cx} {Γ : Sy} {g : Nat → Value} {a : Act} {w : World} (k : Nat) (h : St c Γ g a w) : St c (Γ.drop k) g a w := by
  have hO : ∀ b, Oset (Γ.drop k).own g b → Oset Γ.own g b := by
    rintro b ⟨j, o, h1, h2⟩
    simp only [Sy.drop, get?_mapv, get?_del] at h1
    split at h1
    · cases h1
    · obtain ⟨o', h3, _⟩ := Option.map_eq_some_iff.1 h1
      exact ⟨j, o', h3, h2⟩
  refine h.change h.keep (fun b x e fz hb hn => ⟨hb, fun h' => hn (hO b h')⟩) (fun t A hA => ?_) ⟨fun j o hj => ?_, fun j j' o o' b hj hj' => ?_⟩
  · simp only [Sy.drop, get?_mapv] at hA
    obtain ⟨A0, h1, rfl⟩ := Option.map_eq_some_iff.1 hA
    rcases AV.purge_key k A0 with h' | ⟨h', _⟩
    · exact .inl h'
    · rw [h']; exact .inr ⟨h1, fun _ _ => rfl⟩
  · simp only [Sy.drop, get?_mapv, get?_del] at hj
    split at hj
    · cases hj
    · obtain ⟨o', h3, rfl⟩ := Option.map_eq_some_iff.1 hj
      exact ((h.hp.ok j o' h3).mono (fun b x e fz hb hn => ⟨hb, fun h' => hn (hO b h')⟩) (fun _ _ _ _ _ _ h => h) (fun _ _ => rfl) (fun _ _ => rfl)).purge
  · simp only [Sy.drop, get?_mapv, get?_del] at hj hj'
    split at hj
    · cases hj
    · split at hj'
      · cases hj'
      · obtain ⟨o1, h3, rfl⟩ := Option.map_eq_some_iff.1 hj
        obtain ⟨o2, h4, rfl⟩ := Option.map_eq_some_iff.1 hj'
        exact h.hp.inj j j' o1 o2 b h3 h4

/-- Nothing names k. -/
def Sy.free (Γ : Sy) (k : Nat) : Prop := (∀ t A, get? Γ.tmps t = some A → A.hasKey k = false) ∧ (∀ j o, get? Γ.own j = some o → o.hasKey k = false) ∧ get? Γ.own k = none
theorem Sy.drop_free (Γ : Sy) (k : Nat) : (Γ.drop k).free k := by
  refine ⟨fun t A hA => ?_, fun j o hj => ?_, ?_⟩
  · simp only [Sy.drop, get?_mapv] at hA
    obtain ⟨A0, h1, rfl⟩ := Option.map_eq_some_iff.1 hA
    rcases AV.purge_key k A0 with h' | ⟨h', h''⟩
    · rw [h']; rfl
    · rw [h']; exact h''
  · simp only [Sy.drop, get?_mapv] at hj
    obtain ⟨o0, h1, rfl⟩ := Option.map_eq_some_iff.1 hj
    exact Ob.purge_no
  · simp [Sy.drop, get?_mapv, get?_del]

def updg (g : Nat → Value) (k : Nat) (v : Value) : Nat → Value := fun j => if j = k then v else g j
/-- The ghost of the new things N over the old one. -/
def mg (N : List (Nat × Ob)) (gN g : Nat → Value) : Nat → Value := fun k => match get? N k with
  | some _ => gN k
  | none => g k
theorem mg_some {N : List (Nat × Ob)} {gN g : Nat → Value} {k : Nat} {o : Ob} (h : get? N k = some o) : mg N gN g k = gN k := by simp [mg, h]
theorem mg_none {N : List (Nat × Ob)} {gN g : Nat → Value} {k : Nat} (h : get? N k = none) : mg N gN g k = g k := by simp [mg, h]

/-- New things are adopted: their blocks are younger than all that the state speaks of, or they have none. -/
theorem St.adopt {c : Cx} {Γ : Sy} {g gN : Nat → Value} {a : Act} {w w' : World} (h : St c Γ g a w) (hk : Keep w w') {N : List (Nat × Ob)} (hf : ∀ k o, get? N k = some o → Γ.free k)
    (hv : ∀ k o b, get? N k = some o → Blk (gN k) b → w.heap.size ≤ b)
    (hi : ∀ k k' o o' b, get? N k = some o → get? N k' = some o' → Blk (gN k) b → Blk (gN k') b → k = k')
    (ho : ∀ k o, get? N k = some o → OwnOk w' c.w0.heap.size (Oset (N ++ Γ.own) (mg N gN g)) c.O0 (mg N gN g) (gN k) o) : St c ⟨Γ.tmps, N ++ Γ.own⟩ (mg N gN g) a w' := by
  have own_of : ∀ k o, get? (N ++ Γ.own) k = some o → get? N k = some o ∨ (get? N k = none ∧ get? Γ.own k = some o) := by
    intro k o h1
    rw [get?_append] at h1
    cases hN : get? N k with
    | some x => rw [hN] at h1; exact .inl h1
    | none => rw [hN] at h1; exact .inr ⟨rfl, h1⟩
  have hO : ∀ b, b < w.heap.size → Oset (N ++ Γ.own) (mg N gN g) b → Oset Γ.own g b := by
    rintro b hlt ⟨j, o', h1, h2⟩
    rcases own_of j o' h1 with h3 | ⟨h3, h4⟩
    · rw [mg_some h3] at h2
      have := hv j o' b h3 h2
      omega
    · rw [mg_none h3] at h2
      exact ⟨j, o', h4, h2⟩
  have hmono : ∀ b x e fz, w.heap[b]? = some (.cells x e fz) → ¬ Oset Γ.own g b → w'.heap[b]? = some (.cells x e fz) ∧ ¬ Oset (N ++ Γ.own) (mg N gN g) b :=
    fun b x e fz hb hn => ⟨(hk.b b (heap_lt hb)).trans hb, fun h' => hn (hO b (heap_lt hb) h')⟩
  have hg : ∀ k, Γ.free k ∨ mg N gN g k = g k := by
    intro k
    cases hN : get? N k with
    | some x => exact .inl (hf k x hN)
    | none => exact .inr (mg_none hN)
  refine h.change (h.keep.trans hk) hmono (fun t A hA => .inr ⟨hA, fun j hj => ?_⟩) ⟨fun j o' hj => ?_, fun j j' o1 o2 b hj hj' hb hb' => ?_⟩
  · rcases hg j with h1 | h1
    · rw [h1.1 t A hA] at hj; cases hj
    · exact h1
  · rcases own_of j o' hj with h3 | ⟨h3, h4⟩
    · rw [mg_some h3]; exact ho j o' h3
    · rw [mg_none h3]
      have h1 := h.hp.ok j o' h4
      refine h1.mono hmono (fun _ _ _ _ _ _ h => h) (fun b hb => hk.b b (h1.lt hb).2) (fun i hi => ?_)
      rcases hg i with h5 | h5
      · rw [h5.2.1 j o' h4] at hi; cases hi
      · exact h5
  · rcases own_of j o1 hj with h3 | ⟨h3, h4⟩ <;> rcases own_of j' o2 hj' with h5 | ⟨h5, h6⟩
    · rw [mg_some h3] at hb; rw [mg_some h5] at hb'
      exact hi j j' o1 o2 b h3 h5 hb hb'
    · rw [mg_some h3] at hb; rw [mg_none h5] at hb'
      have := hv j o1 b h3 hb
      have := ((h.hp.ok j' o2 h6).lt hb').2
      omega
    · rw [mg_none h3] at hb; rw [mg_some h5] at hb'
      have := hv j' o2 b h5 hb'
      have := ((h.hp.ok j o1 h4).lt hb).2
      omega
    · rw [mg_none h3] at hb; rw [mg_none h5] at hb'
      exact h.hp.inj j j' o1 o2 b h4 h6 hb hb'

/-- An owned thing is written, or grows: whatever names it reads as before. -/
theorem St.writeB {c : Cx} {Γ : Sy} {g : Nat → Value} {a : Act} {w w' : World} (h : St c Γ g a w) {k : Nat} {o o' : Ob} (hko : get? Γ.own k = some o) {v' : Value}
    (h1 : w'.os = w.os) (h2 : w'.tape = w.tape) (h3 : w'.output = w.output) (h4 : w.heap.size ≤ w'.heap.size) (hw : ∀ b, b < w.heap.size → ¬ Blk (g k) b → w'.heap[b]? = w.heap[b]?)
    (hf : (∀ t A, get? Γ.tmps t = some A → A.same g (updg g k v')) ∧ (∀ j o, j ≠ k → get? Γ.own j = some o → o.same g (updg g k v')))
    (hv : ∀ b, Blk v' b → Blk (g k) b ∨ w.heap.size ≤ b)
    (ho : OwnOk w' c.w0.heap.size (Oset (set Γ.own k o') (updg g k v')) c.O0 (updg g k v') v' o') : St c ⟨Γ.tmps, set Γ.own k o'⟩ (updg g k v') a w' := by
  have hO : ∀ b, b < w.heap.size → Oset (set Γ.own k o') (updg g k v') b → Oset Γ.own g b := by
    rintro b hlt ⟨j, o'', h1, h2⟩
    simp only [get?_set] at h1
    by_cases hj : j = k
    · subst hj
      simp only [updg, if_true] at h2
      rcases hv b h2 with h3 | h3
      · exact ⟨j, o, hko, h3⟩
      · omega
    · simp only [hj, if_false] at h1
      simp only [updg, hj, if_false] at h2
      exact ⟨j, o'', h1, h2⟩
  have hmono : ∀ b x e fz, w.heap[b]? = some (.cells x e fz) → ¬ Oset Γ.own g b → w'.heap[b]? = some (.cells x e fz) ∧ ¬ Oset (set Γ.own k o') (updg g k v') b :=
    fun b x e fz hb hn => ⟨(hw b (heap_lt hb) (fun h' => hn ⟨k, o, hko, h'⟩)).trans hb, fun h' => hn (hO b (heap_lt hb) h')⟩
  have hgk : ∀ j, j ≠ k → updg g k v' j = g j := fun j hj => by simp [updg, hj]
  refine ⟨h.defers, h.size, ⟨h1.trans h.keep.os, h2.trans h.keep.tape, h3.trans h.keep.output, Nat.le_trans h.keep.size h4, fun b hb _ => ?_⟩, h.o0,
    fun t A hA => (h.tmps t A hA).monoS hmono (fun _ _ _ _ _ _ h => h) (hf.1 t A hA), fun b x hb => hmono b _ _ _ (h.kept b x hb).1 (h.kept b x hb).2, ⟨fun j o'' hj => ?_, fun j j' o1 o2 b hj hj' hb hb' => ?_⟩⟩
  · refine (hw b (Nat.lt_of_lt_of_le hb h.keep.size) (fun h' => ?_)).trans (h.keep.b b hb)
    have := ((h.hp.ok k o hko).lt h').1
    omega
  · simp only [get?_set] at hj
    by_cases e : j = k
    · subst e
      simp only [if_true] at hj
      cases hj
      simpa [updg] using ho
    · simp only [e, if_false] at hj
      have h1 := h.hp.ok j o'' hj
      rw [hgk j e]
      exact h1.monoS hmono (fun _ _ _ _ _ _ h => h) (fun b hb => hw b (h1.lt hb).2 (fun h' => e (h.hp.inj j k _ _ b hj hko hb h'))) (hf.2 j o'' e hj)
  · simp only [get?_set] at hj hj'
    by_cases e : j = k <;> by_cases e' : j' = k
    · rw [e, e']
    · subst e
      simp only [if_true] at hj
      simp only [e', if_false] at hj'
      rw [hgk j' e'] at hb'
      simp only [updg, if_true] at hb
      rcases hv b hb with h3 | h3
      · exact absurd (h.hp.inj j j' _ _ b hko hj' h3 hb').symm e'
      · have := ((h.hp.ok j' _ hj').lt hb').2; omega
    · subst e'
      simp only [if_true] at hj'
      simp only [e, if_false] at hj
      rw [hgk j e] at hb
      simp only [updg, if_true] at hb'
      rcases hv b hb' with h3 | h3
      · exact absurd (h.hp.inj j j' _ _ b hj hko hb h3) e
      · have := ((h.hp.ok j _ hj).lt hb).2; omega
    · simp only [e, e', if_false] at hj hj'
      rw [hgk j e] at hb
      rw [hgk j' e'] at hb'
      exact h.hp.inj j j' _ _ b hj hj' hb hb'
/-- An owned thing is written, or grows: the header may turn if nothing else names it. -/
theorem St.write {c : Cx} {Γ : Sy} {g : Nat → Value} {a : Act} {w w' : World} (h : St c Γ g a w) {k : Nat} {o o' : Ob} (hko : get? Γ.own k = some o) {v' : Value}
    (hw0 : w.grownBy w' (blk (g k)))
    (hf : v' = g k ∨ ((∀ t A, get? Γ.tmps t = some A → A.hasKey k = false) ∧ (∀ j o, j ≠ k → get? Γ.own j = some o → o.hasKey k = false)))
    (hv : ∀ b, blk v' = some b → blk (g k) = some b ∨ w.heap.size ≤ b)
    (ho : OwnOk w' c.w0.heap.size (Oset (set Γ.own k o') (updg g k v')) c.O0 (updg g k v') v' o') (hm : o'.isMat = false := by rfl) : St c ⟨Γ.tmps, set Γ.own k o'⟩ (updg g k v') a w' := by
  have same : ∀ j, j ≠ k ∨ v' = g k → updg g k v' j = g j := by
    intro j hj
    unfold updg
    split
    · rename_i e
      rcases hj with hj | hj
      · exact absurd e hj
      · rw [e]; exact hj
    · rfl
  refine h.writeB hko hw0.os hw0.tape hw0.output hw0.size (fun b hb hn => hw0.block b hb (fun e => hn (.of e.symm))) ⟨fun t A hA => same_of fun j hj => same j ?_, fun j o hjk hj => Ob.same_of fun i hi => same i ?_⟩ (fun b hb => ?_) ho
  · rcases hf with hf | ⟨hf, _⟩
    · exact .inr hf
    · refine .inl fun e => ?_
      rw [e, hf t A hA] at hj; cases hj
  · rcases hf with hf | ⟨_, hf⟩
    · exact .inr hf
    · refine .inl fun e => ?_
      rw [e, hf j o hjk hj] at hi; cases hi
  · rcases hv b (ho.one hm hb) with h1 | h1
    · exact .inl (.of h1)
    · exact .inr h1
end Go.Vc
