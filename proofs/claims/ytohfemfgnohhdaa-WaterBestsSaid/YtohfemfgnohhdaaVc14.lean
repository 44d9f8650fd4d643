/- append and copy. No condition. -/
import Derived.Test.YtohfemfgnohhdaaVc13
namespace Go.Vc
set_option linter.unusedVariables false
set_option linter.unusedSimpArgs false

/-- Where a row's new block lies. -/
theorem run_append_blk {P : Program} (w : World) (base : Nat) (t ty e : TypeId) (i : TypeInfo) (z : Value) (size bytes : Nat) (ht : P.underlying t = some (.slice e)) (hi : P.info? e = some i) (hz : i.zero = some z)
    (hsize : i.size = size) (hby : i.bytes = bytes) (hzs : z.cells.size = size) (hsz : 0 < size) (v : Value) (n : Nat) (xs : List Value) (hown : w.ownsRow base e size v n xs)
    (a : Addr) (m c : Nat) (news : List Value) (hl : news.length = m * size) (hnews : ∀ j u, news[j]? = some u → w.cell? (a.add j) = some u) (h1 : ∀ u ∈ news, u.oneCell' = true)
    (h63 : n + m ≤ maxLen) (hbytes : (n + m) * bytes ≤ 140737488355328) (hbase : base ≤ w.heap.size) :
    ∃ v' w', (Builtin.append_ #[t, t] ty #[v, .slice (some a) m c]).run P w = .ok v' w' ∧ w'.ownsRow base e size v' (n + m) (xs ++ news) ∧ w.grownBy w' (blk v) ∧ (∀ b, blk v' = some b → blk v = some b ∨ w.heap.size ≤ b) := by
  obtain ⟨v', w', hr, ho, hg, _⟩ := run_append_own (P := P) w base t ty e i z size bytes ht hi hz hsize hby hzs hsz v n xs hown a m c news hl hnews h1 h63 hbytes hbase
  have hblk : blk v = v.ownBlock := by
    rcases hown.2 with ⟨rfl, _⟩ | ⟨_, _, _, rfl, _⟩ <;> rfl
  refine ⟨v', w', hr, ho, by rw [hblk]; exact hg, ?_⟩
  have hsmall : n + m ≤ 9223372036854775807 := by simp only [maxLen] at h63; omega
  rcases hown.2 with ⟨rfl, rfl⟩ | ⟨g, cap, cur, rfl, hbg, hgg, hnc, hcm, hcs, htake⟩
  · by_cases hm : m = 0
    · subst hm
      rcases ho.2 with ⟨rfl, _⟩ | ⟨g', cap', cur', rfl, hb', hg', _⟩
      · intro b hb; cases hb
      · intro b hb
        cases hb
        by_cases hlt : g' < w.heap.size
        · -- nothing was appended to a nil row: the value is nil
          have hn : news = [] := List.eq_nil_of_length_eq_zero (by simpa using hl)
          have : (Builtin.append_ #[t, t] ty #[.slice none 0 0, .slice (some a) 0 c]).run P w = .ok (.slice none 0 0) w := by
            simp [Builtin.append_, run_underlying ht, sizeOf, typeInfo, hi, Builtin.lenOf, Builtin.firstCells, loadCells, loadCellsFrom]
          rw [hr] at this
          cases this
        · exact .inr (Nat.le_of_not_lt hlt)
    · have h2 := run_append_nil (P := P) w t ty e i z ht hi hz a m c news (by rw [hsize]; exact hl) hnews (by omega) (by omega) (by have hb := hbytes; simp only [Nat.zero_add] at hb; rw [hby]; omega)
      rw [hr] at h2
      cases h2
      intro b hb
      cases hb
      exact .inr (Nat.le_refl _)
  · by_cases hroom : n + m ≤ cap
    · have hfit : n * i.size + news.length ≤ cur.size := by rw [hl, hcs, hsize, ← Nat.add_mul]; exact Nat.mul_le_mul_right _ hroom
      have h2 := run_append_room (P := P) w t ty e i ht hi g n cap cur hgg a m c news (by rw [hsize]; exact hl) hnews h1 hroom hfit
      rw [hr] at h2
      cases h2
      intro b hb
      cases hb
      exact .inl rfl
    · have holds : ∀ j u, xs[j]? = some u → w.cell? ((⟨g, 0, none⟩ : Addr).add j) = some u := hown.cells (g := g) rfl
      have h2 := run_append_grow (P := P) w t ty e i z ht hi hz ⟨g, 0, none⟩ n cap xs (by rw [hsize]; exact hown.1) holds a m c news (by rw [hsize]; exact hl) hnews (by omega) (by omega) (growslice_fits (by omega) (by rw [hby]; exact hbytes))
      rw [hr] at h2
      cases h2
      intro b hb
      cases hb
      exact .inr (Nat.le_refl _)

/-- A row that is read: its elements. -/
def SrcOk (w : World) (O : Nat → Prop) (v : Value) (t : Ty) (ys : List t.T) : Prop :=
  (v = .slice none 0 0 ∧ ys = []) ∨ (∃ (a : Addr) (cp : Nat), v = .slice (some a) 0 cp ∧ ys = []) ∨ ∃ (b off cp : Nat) (f : Nat → Value), v = .slice (some ⟨b, off, none⟩) ys.length cp ∧
    (∀ i, i < ys.length → (f i).cells.size = t.size ∧ ∀ j, j < t.size → w.cell? ⟨b, off + (i * t.size + j), none⟩ = (f i).cells[j]?) ∧ ∀ i x, ys[i]? = some x → RpS w O (f i) (t.enc x)
theorem RpS.src {w : World} {O : Nat → Prop} {v : Value} {t : Ty} {ys : List t.T} (h : RpS w O v (.arr t ys)) : SrcOk w O v t ys := by
  cases h with
  | nil => exact .inl ⟨rfl, rfl⟩
  | emp _ a cap => exact .inr (.inl ⟨a, cap, rfl, rfl⟩)
  | arr b off cap n _ _ arr e fz f hb hO hn hc hm hf hr =>
    subst hn
    refine .inr (.inr ?_)
    exact ⟨b, off, cap, f, rfl, fun i hi => ⟨(hf i hi).1, fun j hj => by rw [cell_of_row w b _ arr e fz hb]; exact (hf i hi).2 j hj⟩, hr⟩

/-- A value as a source of elements. -/
def srcOf (own : List (Nat × Ob)) (t : Ty) (A : AV) : Option (List t.T × Bool) := match A with
  | .st fr (.arr t' ys) => match Ty.cast t' t ys with
    | some l => some (l, fr)
    | none => none
  | .st fr (.narr t' ys) => match Ty.cast t' t ys with
    | some l => some (l, fr)
    | none => none
  | .own k => match get? own k with
    | some (.row _ t' fr ys) => match Ty.cast t' t ys with
      | some l => some (l, fr)
      | none => none
    | _ => none
  | .lit (.slice none 0 0) => some ([], true)
  | _ => none
theorem Ty.cast_src {a b : Ty} {xs : List a.T} {ys : List b.T} (h : Ty.cast a b xs = some ys) {w : World} {O : Nat → Prop} {v : Value} (hs : SrcOk w O v a xs) : SrcOk w O v b ys := by
  unfold Ty.cast at h
  split at h
  · rename_i e; subst e; cases h; exact hs
  · cases h
theorem srcOf_ok {c : Cx} {Γ : Sy} {g : Nat → Value} {a : Act} {w : World} (hst : St c Γ g a w) {t : Ty} {A : AV} {ys : List t.T} {fr : Bool} (h : srcOf Γ.own t A = some (ys, fr)) {v : Value} (hr : Rp2 w (Oset Γ.own g) c.O0 g v A) :
    SrcOk w (Av (Oset Γ.own g) c.O0 fr) v t ys := by
  unfold srcOf at h
  split at h
  · split at h
    · rename_i hc
      cases h
      exact Ty.cast_src hc (RpS.src hr)
    · cases h
  · split at h
    · rename_i hc
      cases h
      refine Ty.cast_src hc ?_
      have hr' : RpS w (Av (Oset Γ.own g) c.O0 fr) v (.narr _ _) := hr
      cases hr' with | narr _ _ _ h1 _ => exact RpS.src h1
    · cases h
  · rename_i k
    split at h
    · rename_i e t' fr' ys' hk
      split at h
      · rename_i hc
        cases h
        refine Ty.cast_src hc ?_
        have hv : v = g k := hr
        obtain ⟨zs, ho, _⟩ := hst.hp.ok k _ hk
        rcases ho.2 with ⟨h1, h2⟩ | ⟨b, cap, cur, h1, _⟩
        · exact .inl ⟨by rw [hv, h1], List.eq_nil_of_length_eq_zero h2⟩
        · obtain ⟨arr, f, h6, h7, h8, h9, h10, h11, h12⟩ := ownRow (hst.hp.ok k _ hk) h1
          exact .inr (.inr ⟨b, 0, cap, f, by rw [hv, h1], fun i hi => ⟨(h11 i hi).1, fun j hj => by rw [cell_of_row w b _ arr e (0, 0) h6, Nat.zero_add]; exact (h11 i hi).2 j hj⟩, h12⟩)
      · cases h
    · cases h
  · cases h; exact .inl ⟨hr.1, rfl⟩
  · cases h

/-- The cells of elements, in a row. -/
def flat (f : Nat → Value) (size n : Nat) : List Value := (List.range (n * size)).map fun p => (f (p / size)).cells.getD (p % size) undef
theorem flat_len (f : Nat → Value) (size n : Nat) : (flat f size n).length = n * size := by simp [flat]
theorem flat_get {f : Nat → Value} {size n : Nat} (hf : ∀ i, i < n → (f i).cells.size = size) {i j : Nat} (hi : i < n) (hj : j < size) : (flat f size n)[i * size + j]? = (f i).cells[j]? := by
  have hp : i * size + j < n * size := by
    have : (i + 1) * size ≤ n * size := Nat.mul_le_mul_right _ hi
    rw [Nat.add_mul, Nat.one_mul] at this
    omega
  have h1 : (i * size + j) / size = i := by
    rw [Nat.add_comm, Nat.add_mul_div_right _ _ (by omega), Nat.div_eq_of_lt hj, Nat.zero_add]
  have h2 : (i * size + j) % size = j := by rw [Nat.add_comm, Nat.add_mul_mod_self_right]; exact Nat.mod_eq_of_lt hj
  have h3 : j < (f i).cells.size := by rw [hf i hi]; exact hj
  simp [flat, hp, h1, h2, Array.getD_eq_getD_getElem?, h3]

theorem enc_cells_one {w : World} {O : Nat → Prop} {v : Value} {t : Ty} {x : t.T} (h : RpS w O v (t.enc x)) : ∀ u ∈ v.cells.toList, u.oneCell' = true := by
  cases hl : t.leaf with
  | true =>
    have h1 := h.cells1 (enc_leaf _ _ hl)
    rw [h1]
    simpa using h.one (enc_leaf _ _ hl)
  | false =>
    rw [enc_cons _ _ hl] at h
    obtain ⟨cs, rfl, h1, h2⟩ := h.aggc
    intro u hu
    obtain ⟨i, hi, rfl⟩ := List.mem_iff_getElem.1 hu
    have hi' : i < cs.size := by simpa [Value.cells] using hi
    obtain ⟨y, h3, h4, _⟩ := h2 i ((t.encL x)[i]'(by omega)) (by rw [List.getElem?_eq_getElem])
    have : cs[i]? = some cs[i] := by simp [hi']
    rw [this] at h3
    cases h3
    simpa [Value.cells] using h4

theorem flat_div {size n p : Nat} (hs : 0 < size) (hp : p < n * size) : p / size < n ∧ p % size < size ∧ p = p / size * size + p % size :=
  ⟨Nat.div_lt_of_lt_mul (by rw [Nat.mul_comm]; exact hp), Nat.mod_lt _ hs, by rw [Nat.mul_comm]; exact (Nat.div_add_mod p size).symm⟩

/-- Nothing but the entry itself names k any more. -/
def Sy.only (Γ : Sy) (k : Nat) : Sy := ⟨mapv (AV.purge k) Γ.tmps, mapv (Ob.purge k) Γ.own⟩
theorem St.only {c : Cx} {Γ : Sy} {g : Nat → Value} {a : Act} {w : World} (k : Nat) (h : St c Γ g a w) : St c (Γ.only k) g a w := by
  have hO : ∀ b, Oset (Γ.only k).own g b ↔ Oset Γ.own g b := by
    intro b
    constructor
    · rintro ⟨j, o, h1, h2⟩
      simp only [Sy.only, get?_mapv] at h1
      obtain ⟨o', h3, _⟩ := Option.map_eq_some_iff.1 h1
      exact ⟨j, o', h3, h2⟩
    · rintro ⟨j, o, h1, h2⟩
      exact ⟨j, o.purge k, by simp [Sy.only, get?_mapv, h1], h2⟩
  refine h.change h.keep (fun b x e fz hb hn => ⟨hb, fun h' => hn ((hO b).1 h')⟩) (fun t A hA => ?_) ⟨fun j o hj => ?_, fun j j' o o' b hj hj' => ?_⟩
  · simp only [Sy.only, get?_mapv] at hA
    obtain ⟨A0, h1, rfl⟩ := Option.map_eq_some_iff.1 hA
    rcases AV.purge_key k A0 with h' | ⟨h', _⟩
    · exact .inl h'
    · rw [h']; exact .inr ⟨h1, fun _ _ => rfl⟩
  · simp only [Sy.only, get?_mapv] at hj
    obtain ⟨o', h3, rfl⟩ := Option.map_eq_some_iff.1 hj
    exact ((h.hp.ok j o' h3).mono (fun b x e fz hb hn => ⟨hb, fun h' => hn ((hO b).1 h')⟩) (fun _ _ _ _ _ _ h => h) (fun _ _ => rfl) (fun _ _ => rfl)).purge
  · simp only [Sy.only, get?_mapv] at hj hj'
    obtain ⟨o1, h3, rfl⟩ := Option.map_eq_some_iff.1 hj
    obtain ⟨o2, h4, rfl⟩ := Option.map_eq_some_iff.1 hj'
    exact h.hp.inj j j' o1 o2 b h3 h4

/-- append: to a row of the call's own, or to nil. -/
def appendVC (T : List (Nat × TE)) (Γ : Sy) (n : Nat) (d : Nat) (t : TypeId) (A B : AV) (D : Nat) (K : Sy → Prop) : Prop := match get? T t with
  | some { kind := .sl e, .. } => match get? T e with
    | some { ty := some τ, .. } => match A with
      | .own k => match get? Γ.own k with
        | some (.row e' τ' fr xs) => match srcOf Γ.own τ' B with
          | some (ys, b) => (e' = e ∧ τ' = τ ∧ D < n ∧ xs.length + ys.length ≤ 4294967296) ∧ K ⟨set (Γ.only k).tmps D (.own k), set (Γ.only k).own k (.row e' τ' (fr && b) (xs ++ ys))⟩
          | none => False
        | _ => False
      | .lit (.slice none 0 0) => match srcOf Γ.own τ B with
        | some (ys, b) => (D < n ∧ ys.length ≤ 4294967296) ∧ K ⟨set (Γ.drop d).tmps D (.own d), set (Γ.drop d).own d (.row e τ b ys)⟩
        | none => False
      | _ => False
    | _ => False
  | _ => False

theorem append_run {P : Program} {T : List (Nat × TE)} (hT : TOk P T) {t e : TypeId} {te : TE} {τ : Ty} (hu : P.underlying t = some (.slice e)) (he : te.ok P e) (hty : te.ty = some τ) {w : World} {O O' : Nat → Prop} {base : Nat} {ty : TypeId} {v x : Value} {n : Nat} {zs : List Value}
    (hown : w.ownsRow base e τ.size v n zs) {ys : List τ.T} (hs : SrcOk w O x τ ys) (hlen : n + ys.length ≤ 4294967296) (hbase : base ≤ w.heap.size) :
    ∃ v' w' news, (Builtin.append_ #[t, t] ty #[v, x]).run P w = .ok v' w' ∧ w'.ownsRow base e τ.size v' (n + ys.length) (zs ++ news) ∧ w.grownBy w' (blk v) ∧ (∀ b, blk v' = some b → blk v = some b ∨ w.heap.size ≤ b) ∧
      (∀ u ∈ news, u.oneCell' = true) ∧ ∃ f : Nat → Value, (∀ i, i < ys.length → (f i).cells.size = τ.size ∧ ∀ j, j < τ.size → news[i * τ.size + j]? = (f i).cells[j]?) ∧ ∀ i y, ys[i]? = some y → RpS w O (f i) (τ.enc y) := by
  obtain ⟨h1, h2, h3, h4, h5, h6⟩ := he.2.2 τ hty
  obtain ⟨i, hi, hz, hsz, hby⟩ := he.info
  rcases hs with ⟨rfl, rfl⟩ | ⟨a, cp, rfl, rfl⟩ | ⟨b, off, cp, f, rfl, hf, hr⟩
  · refine ⟨v, w, [], run_append_owned_none (P := P) w base t ty e i τ.size hu hi v n zs hown, by simpa using hown, ⟨rfl, rfl, rfl, Nat.le_refl _, fun _ _ _ => rfl⟩, fun b hb => .inl hb, by simp, fun _ => undef, fun i hi => by simp at hi, fun i y hy => by simp at hy⟩
  · have hzs : te.zero.cells.size = τ.size := by rw [← zcells_len τ h3, ← h1]; simp
    have hb : (n + 0) * te.bytes ≤ 140737488355328 := by
      have : (n + 0) * te.bytes ≤ 4294967296 * 4096 := Nat.mul_le_mul hlen h5
      omega
    obtain ⟨v', w', g1, g2, g3, g4⟩ := run_append_blk (P := P) w base t ty e i te.zero τ.size te.bytes hu hi hz (by rw [hsz]; exact h2) hby hzs h4 v n zs hown a 0 cp [] (by simp) (fun j u hj => by simp at hj) (fun u hu => by simp at hu) (by simp at hlen; unfold maxLen; omega) hb hbase
    exact ⟨v', w', _, g1, g2, g3, g4, fun u hu => by simp at hu, fun _ => undef, fun i hi => by simp at hi, fun i y hy => by simp at hy⟩
  · have hzs : te.zero.cells.size = τ.size := by rw [← zcells_len τ h3, ← h1]; simp
    have hfs : ∀ i, i < ys.length → (f i).cells.size = τ.size := fun i hi => (hf i hi).1
    have hone : ∀ u ∈ flat f τ.size ys.length, u.oneCell' = true := by
      intro u hu
      obtain ⟨p, hp, rfl⟩ := List.mem_iff_getElem.1 hu
      rw [flat_len] at hp
      obtain ⟨h7, h8, h9⟩ := flat_div h4 hp
      have h10 : (flat f τ.size ys.length)[p]? = (f (p / τ.size)).cells[p % τ.size]? := by
        conv => lhs; rw [h9]
        exact flat_get hfs h7 h8
      rw [List.getElem?_eq_getElem (by rw [flat_len]; exact hp)] at h10
      exact enc_cells_one (hr _ _ (List.getElem?_eq_getElem h7)) _ (List.mem_of_getElem? (by simpa using h10.symm))
    have hnews : ∀ j u, (flat f τ.size ys.length)[j]? = some u → w.cell? ((⟨b, off, none⟩ : Addr).add j) = some u := by
      intro p u hp
      have hlt : p < ys.length * τ.size := by
        have := (List.getElem?_eq_some_iff.1 hp).1
        rwa [flat_len] at this
      obtain ⟨h7, h8, h9⟩ := flat_div h4 hlt
      rw [Addr.add_lit, h9, (hf _ h7).2 _ h8]
      rw [h9, flat_get hfs h7 h8] at hp
      exact hp
    have hb : (n + ys.length) * te.bytes ≤ 140737488355328 := by
      have : (n + ys.length) * te.bytes ≤ 4294967296 * 4096 := Nat.mul_le_mul hlen h5
      omega
    obtain ⟨v', w', g1, g2, g3, g4⟩ := run_append_blk (P := P) w base t ty e i te.zero τ.size te.bytes hu hi hz (by rw [hsz]; exact h2) hby hzs h4 v n zs hown ⟨b, off, none⟩ ys.length cp (flat f τ.size ys.length) (flat_len _ _ _) hnews hone (by unfold maxLen; omega) hb hbase
    exact ⟨v', w', _, g1, g2, g3, g4, hone, f, fun i hi => ⟨hfs i hi, fun j hj => flat_get hfs hi hj⟩, hr⟩

/-- What is read of the two rows behind each other. -/
theorem Cells.append {w w' : World} {O1 O2 O : Nat → Prop} {t : Ty} {xs ys : List t.T} {zs news : List Value} (hzs : zs.length = xs.length * t.size) (h1 : Cells w O1 (fun p => zs[p]?) t xs)
    (h2 : ∃ f : Nat → Value, (∀ i, i < ys.length → (f i).cells.size = t.size ∧ ∀ j, j < t.size → news[i * t.size + j]? = (f i).cells[j]?) ∧ ∀ i y, ys[i]? = some y → RpS w O2 (f i) (t.enc y))
    (m1 : ∀ v A, RpS w O1 v A → RpS w' O v A) (m2 : ∀ v A, RpS w O2 v A → RpS w' O v A) : Cells w' O (fun p => (zs ++ news)[p]?) t (xs ++ ys) := by
  obtain ⟨f, hf, hr⟩ := h1
  obtain ⟨f', hf', hr'⟩ := h2
  refine ⟨fun i => if i < xs.length then f i else f' (i - xs.length), fun i hi => ?_, fun i x hx => ?_⟩
  · by_cases h : i < xs.length
    · simp only [h, if_true]
      refine ⟨(hf i h).1, fun j hj => ?_⟩
      rw [← (hf i h).2 j hj]
      have : (i + 1) * t.size ≤ xs.length * t.size := Nat.mul_le_mul_right _ h
      rw [Nat.add_mul, Nat.one_mul] at this
      rw [List.getElem?_append_left (by omega)]
    · simp only [h, if_false]
      rw [List.length_append] at hi
      refine ⟨(hf' _ (by omega)).1, fun j hj => ?_⟩
      rw [← (hf' _ (by omega)).2 j hj]
      have : xs.length * t.size ≤ i * t.size := Nat.mul_le_mul_right _ (by omega)
      rw [List.getElem?_append_right (by omega), hzs, Nat.sub_mul]
      congr 1
      omega
  · by_cases h : i < xs.length
    · simp only [h, if_true]
      rw [List.getElem?_append_left h] at hx
      exact m1 _ _ (hr i x hx)
    · simp only [h, if_false]
      rw [List.getElem?_append_right (by omega)] at hx
      exact m2 _ _ (hr' _ x hx)

theorem appendVC.sound {P : Program} {T : List (Nat × TE)} (hT : TOk P T) {c : Cx} {o : Oper} {Γ : Sy} {d : Nat} {t : TypeId} {s x : Operand} {A B : AV} {D : Nat} {K : Sy → Prop}
    (ho : o.op = .call { callee := .builtin .append, args := #[s, x], argTypes := #[t, t] }) (hd : o.dst = some D) (hs : Ev c Γ [] s A) (hx : Ev c Γ [] x B) (h : appendVC T Γ c.n d t A B D K) : ∃ Γ', Seq P c o Γ Γ' ∧ K Γ' := by
  unfold appendVC at h
  split at h
  · rename_i e sz by_ ze ty ht
    have hu := (hT _ _ ht).sl rfl
    split at h
    · rename_i ke se be zz τ hte
      have he := hT _ _ hte
      have fin : ∀ Γ', (∀ g a w, St c Γ g a w → Rp2 w (Oset Γ.own g) c.O0 g (a.eval s) A → Rp2 w (Oset Γ.own g) c.O0 g (a.eval x) B →
          ∃ v' w' g', (Builtin.append_ #[t, t] o.type #[a.eval s, a.eval x]).run P w = .ok v' w' ∧ St c Γ' g' (a.put o.dst v') w') → Seq P c o Γ Γ' := by
        intro Γ' hf g a w next Q hst hk
        obtain ⟨v', w', g', h1, h2⟩ := hf g a w hst (hs trivial Γ g a w rfl hst) (hx trivial Γ g a w rfl hst)
        unfold Oper.wp
        have : (execOp a.eval o).run P w = .ok (.value v') w' := by simp [execOp, ho, resolve, invoke, builtin, h1]
        rw [this]
        exact hk g' _ w' h2
      split at h
      · rename_i k
        split at h
        · rename_i e' τ' fr xs hk
          split at h
          · rename_i ys b hsrc
            obtain ⟨⟨rfl, rfl, hD, hlen⟩, hK⟩ := h
            refine ⟨_, fin _ fun g a w hst hA hB => ?_, hK⟩
            have hv : a.eval s = g k := hA
            obtain ⟨zs, hown, hone, hcells⟩ := hst.hp.ok k _ hk
            obtain ⟨v', w', news, g1, g2, g3, g4, g5, g6⟩ := append_run (P := P) (O' := fun _ => False) (ty := o.type) hT hu he rfl hown (srcOf_ok hst hsrc hB) hlen hst.keep.size
            rw [hv]
            refine ⟨v', w', updg g k v', g1, ?_⟩
            have hst1 := hst.only k
            have hko : get? (Γ.only k).own k = some (.row e' τ' fr xs) := by simp [Sy.only, get?_mapv, hk, Ob.purge]
            have hO : ∀ b', Oset (set (Γ.only k).own k (.row e' τ' (fr && b) (xs ++ ys))) (updg g k v') b' → Oset Γ.own g b' ∨ w.heap.size ≤ b' := by
              rintro b' ⟨j, o', h1, h2⟩
              rw [get?_set] at h1
              by_cases e : j = k
              · subst e
                simp only [updg, if_true] at h2
                rcases g4 b' (ownsRow_blk g2 h2) with h3 | h3
                · exact .inl ⟨j, _, hk, .of h3⟩
                · exact .inr h3
              · rw [if_neg e] at h1
                simp only [updg, e, if_false] at h2
                simp only [Sy.only, get?_mapv] at h1
                obtain ⟨o'', h3, _⟩ := Option.map_eq_some_iff.1 h1
                exact .inl ⟨j, o'', h3, h2⟩
            have hm : ∀ (φ : Bool), ((fr && b) = true → φ = true) → ∀ v A, RpS w (Av (Oset Γ.own g) c.O0 φ) v A → RpS w' (Av (Oset (set (Γ.only k).own k (.row e' τ' (fr && b) (xs ++ ys))) (updg g k v')) c.O0 (fr && b)) v A := by
              intro φ hφ v A h
              refine h.mono fun b' y e2 fz hb' hn => ⟨?_, fun h' => ?_⟩
              · rw [g3.block b' (heap_lt hb') (fun h' => hn (.inl ⟨k, _, hk, .of h'.symm⟩))]; exact hb'
              · rcases h' with h' | ⟨h', h''⟩
                · rcases hO b' h' with h' | h'
                  · exact hn (.inl h')
                  · exact absurd (heap_lt hb') (by omega)
                · exact hn (.inr ⟨hφ h', h''⟩)
            have key := hst1.write (k := k) (o' := .row e' τ' (fr && b) (xs ++ ys)) (v' := v') (w' := w') hko g3 (.inr ⟨fun t' A' hA' => ?_, fun j o' hj ho' => ?_⟩) g4
              ⟨zs ++ news, by rw [List.length_append]; exact g2, fun u hu => (List.mem_append.1 hu).elim (hone u) (g5 u), Cells.append hown.1 hcells g6 (hm fr (fun h => by simp at h; exact h.1)) (hm b (fun h => by simp at h; exact h.2))⟩
            · rw [hd]
              exact key.put hD (show v' = updg g k v' k by simp [updg])
            · simp only [Sy.only, get?_mapv] at hA'
              obtain ⟨A0, h1, rfl⟩ := Option.map_eq_some_iff.1 hA'
              rcases AV.purge_key k A0 with h' | ⟨h', h''⟩
              · rw [h']; rfl
              · rw [h']; exact h''
            · simp only [Sy.only, get?_mapv] at ho'
              obtain ⟨o0, h1, rfl⟩ := Option.map_eq_some_iff.1 ho'
              exact Ob.purge_no
          · exact h.elim
        · exact h.elim
      · split at h
        · rename_i ys b hsrc
          obtain ⟨⟨hD, hlen⟩, hK⟩ := h
          refine ⟨_, fin _ fun g a w hst hA hB => ?_, hK⟩
          have hv : a.eval s = .slice none 0 0 := hA.1
          obtain ⟨v', w', news, g1, g2, g3, g4, g5, g6⟩ := append_run (P := P) (O' := fun _ => False) (ty := o.type) (base := c.w0.heap.size) (zs := []) (n := 0) (v := .slice none 0 0) hT hu he rfl (World.ownsRow_nil _ _ _ _) (srcOf_ok hst hsrc hB) (by omega) hst.keep.size
          rw [hv]
          rw [List.nil_append, Nat.zero_add] at g2
          refine ⟨v', w', mg [(d, .row e τ b ys)] (fun _ => v') g, g1, ?_⟩
          have hst1 := hst.drop d
          have hf := Sy.drop_free Γ d
          have one : ∀ k o', get? [(d, Ob.row e τ b ys)] k = some o' → k = d ∧ o' = .row e τ b ys := by
            intro k o' hkb
            simp only [get?] at hkb
            split at hkb
            · rename_i hb; cases hkb; exact ⟨(Nat.eq_of_beq_eq_true hb).symm, rfl⟩
            · cases hkb
          have hfresh : ∀ b', blk v' = some b' → w.heap.size ≤ b' := fun b' hb' => (g4 b' hb').elim (fun h => by cases h) id
          have key := hst1.adopt (N := [(d, .row e τ b ys)]) (gN := fun _ => v') (w' := w') g3 (fun k o' hk => by rw [(one k o' hk).1]; exact hf) (fun k o' b' hk hb' => hfresh b' (ownsRow_blk g2 hb'))
            (fun k k' o1 o2 b' h1 h2 _ _ => by rw [(one k o1 h1).1, (one k' o2 h2).1]) (fun k o' hk => ?_)
          · rw [hd]
            refine (key.put (t := D) (A := .own d) hD (show v' = mg [(d, .row e τ b ys)] (fun _ => v') g d by simp [mg, get?])).congr (fun _ => rfl) (fun k => ?_)
            rw [get?_set]
            simp only [get?_append, get?]
            by_cases hkd : k = d
            · subst hkd; simp
            · have : Nat.beq d k = false := by
                cases hb : Nat.beq d k with
                | false => rfl
                | true => exact absurd (Nat.eq_of_beq_eq_true hb).symm hkd
              simp [hkd, this]
          · rw [(one k o' hk).2]
            refine ⟨news, g2, g5, ?_⟩
            obtain ⟨f, hf1, hf2⟩ := g6
            refine ⟨f, hf1, fun i y hy => ?_⟩
            refine (hf2 i y hy).mono fun b' x' e2 fz hb' hn => ⟨by rw [g3.block b' (heap_lt hb') (by simp [blk])]; exact hb', fun h' => ?_⟩
            rcases h' with ⟨j, o2, h1, h2⟩ | h'
            · rw [get?_append] at h1
              cases hN : get? [(d, Ob.row e τ b ys)] j with
              | some o3 =>
                rw [mg_some hN] at h2
                exact absurd (heap_lt hb') (by have := hfresh b' (ownsRow_blk g2 h2); omega)
              | none =>
                rw [hN] at h1
                rw [mg_none hN] at h2
                simp only [Sy.drop, get?_mapv, get?_del] at h1
                split at h1
                · cases h1
                · obtain ⟨o4, h3, _⟩ := Option.map_eq_some_iff.1 h1
                  exact hn (.inl ⟨j, o4, h3, h2⟩)
            · exact hn (.inr h')
        · exact h.elim
      · exact h.elim
    · exact h.elim
  · exact h.elim
end Go.Vc
