/- A region: in the order of the text; or in whatever order. No condition. -/
import Derived.Test.YtohfemfgnohhdaaVc17
namespace Go.Vc
set_option linter.unusedVariables false
set_option linter.unusedSimpArgs false

def gd' (G : Path) (A : AV) : AV := match G with
  | [] => A
  | _ => .gd G A
/-- The path of an operation, from its guard. -/
def guardOf (dsts : List (Option Nat)) (Γ : Sy) : Option (Nat × Bool) → Option Path
  | none => some []
  | some (j, b) => match dsts[j]? with
    | some (some t) => match get? Γ.tmps t with
      | some (.lit (.bool v)) => some [(v, b)]
      | some (.gd p (.lit (.bool v))) => some ((v, b) :: p)
      | _ => none
    | _ => none
def dstsOf (ops : Array Oper) : List (Option Nat) := ops.toList.map (·.dst)

theorem guardOf.wanted {ops : Array Oper} {c : Cx} {Γ : Sy} {g : Nat → Value} {a : Act} {w : World} (hst : St c Γ g a w) {o : Oper} {G : Path} (h : guardOf (dstsOf ops) Γ o.guard = some G) : Region.wanted o (yielded ops a.tmps) = true ↔ G.ok := by
  unfold Region.wanted
  cases hg : o.guard with
  | none => rw [hg] at h; cases h; exact ⟨fun _ => trivial, fun _ => rfl⟩
  | some x =>
    obtain ⟨j, b⟩ := x
    rw [hg] at h
    dsimp only
    simp only [guardOf] at h
    split at h
    · rename_i t hj
      have hdst : (ops[j]?).bind (·.dst) = some t := by
        simp only [dstsOf, List.getElem?_map] at hj
        obtain ⟨o', h1, h2⟩ := Option.map_eq_some_iff.1 hj
        have : ops[j]? = some o' := by simpa using h1
        rw [this]; exact h2
      have yes : ∀ v, a.tmps.getD t undef = .bool v → yielded ops a.tmps j = some v := by
        intro v hv
        simp only [yielded, hdst, Option.bind_some]
        rw [Array.getD_eq_getD_getElem?] at hv
        cases ht : a.tmps[t]? with
        | none => rw [ht] at hv; cases hv
        | some u => rw [ht] at hv; simp at hv; subst hv; rfl
      have no : a.tmps.getD t undef = undef → yielded ops a.tmps j = none := by
        intro hv
        simp only [yielded, hdst, Option.bind_some]
        rw [Array.getD_eq_getD_getElem?] at hv
        cases ht : a.tmps[t]? with
        | none => rfl
        | some u => rw [ht] at hv; simp at hv; subst hv; rfl
      split at h
      · rename_i v ht
        cases h
        have h1 := hst.tmps t _ ht
        simp only [Rp, Rp2, Rp1] at h1
        rw [yes v h1.1]
        simp [Path.ok]
      · rename_i p v ht
        cases h
        obtain ⟨h1, h2⟩ := hst.tmps t _ ht
        by_cases hp : p.ok
        · have h3 := h1 hp
          simp only [Rp2, Rp1] at h3
          rw [yes v h3.1]
          simp [Path.ok, hp]
        · rw [no (h2 hp)]
          simp [Path.ok, hp]
      · cases h
    · cases h

def freeB (Γ : Sy) : List (Nat × Ob) → Bool
  | [] => true
  | (k, _) :: r => noKeyT k Γ.tmps && noKeyO k Γ.own && freeB Γ r
where
  noKeyT (k : Nat) : List (Nat × AV) → Bool
    | [] => true
    | (_, A) :: r => !(A.hasKey k) && noKeyT k r
  noKeyO (k : Nat) : List (Nat × Ob) → Bool
    | [] => true
    | (k', o) :: r => !(Nat.beq k' k) && !(o.hasKey k) && noKeyO k r
theorem noKeyT_get {k : Nat} : ∀ {l : List (Nat × AV)} {t : Nat} {A : AV}, freeB.noKeyT k l = true → get? l t = some A → A.hasKey k = false
  | [], t, A, _, h => by cases h
  | (t', B) :: r, t, A, hl, h => by
    simp only [freeB.noKeyT, Bool.and_eq_true] at hl
    simp only [get?] at h
    split at h
    · cases h; simpa using hl.1
    · exact noKeyT_get hl.2 h
theorem noKeyO_get {k : Nat} : ∀ {l : List (Nat × Ob)} {j : Nat} {o : Ob}, freeB.noKeyO k l = true → get? l j = some o → o.hasKey k = false ∧ j ≠ k
  | [], t, A, _, h => by cases h
  | (t', B) :: r, t, A, hl, h => by
    simp only [freeB.noKeyO, Bool.and_eq_true] at hl
    simp only [get?] at h
    split at h
    · rename_i hb
      cases h
      have := Nat.eq_of_beq_eq_true hb
      subst this
      have h1 := hl.1.1
      exact ⟨by simpa using hl.1.2, Nat.ne_of_beq_eq_false (by simpa using h1)⟩
    · exact noKeyO_get hl.2 h
theorem freeB_free {Γ : Sy} : ∀ {N : List (Nat × Ob)}, freeB Γ N = true → ∀ k o, get? N k = some o → Γ.free k
  | [], _, k, o, h => by cases h
  | (k', o') :: r, hf, k, o, h => by
    simp only [freeB, Bool.and_eq_true] at hf
    simp only [get?] at h
    split at h
    · rename_i hb
      cases h
      have := Nat.eq_of_beq_eq_true hb
      subst this
      refine ⟨fun t A hA => noKeyT_get hf.1.1 hA, fun j o hj => (noKeyO_get hf.1.2 hj).1, ?_⟩
      cases hk : get? Γ.own k' with
      | none => rfl
      | some x => exact absurd rfl (noKeyO_get hf.1.2 hk).2
    · exact freeB_free hf.2 k o h

def Sy.putA (Γ : Sy) (t : Nat) (A : AV) (N : List (Nat × Ob)) : Sy := ⟨set Γ.tmps t A, N ++ Γ.own⟩
def Sy.putB (Γ : Sy) (t : Nat) (A : AV) : Sy := ⟨set Γ.tmps t A, Γ.own⟩
/- The operations of a region in the order of the text; of the first m what they make is taken as stable, and they see what was owned before the region alone. -/
def memN (t : Nat) : List Nat → Bool
  | [] => false
  | x :: r => Nat.beq x t || memN t r
/-- The slots behind a 0 in F: their new rows are rows of rows. -/
def behind0 : List Nat → List Nat
  | [] => []
  | 0 :: r => r
  | _ :: r => behind0 r
/-- A row of rows is made. -/
def isMade (F : List Nat) (o : Oper) : Bool := match o.op with
  | .makeSlice _ _ _ => match o.dst with
    | some D => memN D (behind0 F)
    | none => false
  | _ => false
/-- F: the slots whose new row is taken as stable at once; behind a 0: the slots whose new row is one of rows. -/
def opsVC (P : Program) (T : List (Nat × TE)) (F : List Nat) (n : Nat) (dsts : List (Option Nat)) (L : List Nat) : List Oper → Nat → Nat → Sy → (Sy → Prop) → Prop
  | [], _, _, Γ, K => K Γ
  | o :: r, i, m, Γ, K => match memN i L with
    | true => opsVC P T F n dsts L r (i + 1) (m - 1) Γ K
    | false => match isMut o || isMade F o with
      | true => match m, o.guard with
        | 0, none => mutVC T n Γ (1000 * (o.dst.getD 0 + 1)) o fun Γ' => opsVC P T F n dsts L r (i + 1) 0 Γ' K
        | _, _ => False
      | false => match guardOf dsts Γ o.guard with
        | none => False
        | some G => match o.dst with
          | none => match m with
            | 0 => pureVC P T Γ false G 0 o fun A N => match G, freeB Γ N with
              | [], true => opsVC P T F n dsts L r (i + 1) 0 ⟨Γ.tmps, N ++ Γ.own⟩ K
              | _, _ => False
            | _ => False
          | some t => match m with
            | 0 => pureVC P T Γ (memN t F) G (1000 * (t + 1)) o fun A N => match Nat.blt t n && freeB Γ N with
              | true => opsVC P T F n dsts L r (i + 1) 0 (Γ.putA t (gd' G A) N) K
              | false => False
            | m + 1 => pureVC P T Γ true G 0 o fun A _ => match Nat.blt t n with
              | true => opsVC P T F n dsts L r (i + 1) m (Γ.putB t (gd' G A)) K
              | false => False

/-- One operation, met in the state before it. -/
def StepOk (P : Program) (c : Cx) (ops : Array Oper) (j : Nat) (Γ Γ' : Sy) : Prop :=
  ∀ (Q : Exit → Act → World → Prop) (g : Nat → Value) (a : Act) (w : World) (K : Act → World → Prop), St c Γ g a w → (∀ g' a' w', St c Γ' g' a' w' → K a' w') → wpOp P ops Q j K a w

/-- What is known of an operation that only adds, and makes nothing. -/
structure PreOk (P : Program) (c : Cx) (ops : Array Oper) (j : Nat) (Γ Γ' : Sy) where
  o : Oper
  ho : ops[j]? = some o
  t : Nat
  ht : o.dst = some t
  hn : t < c.n
  G : Path
  A : AV
  hG : guardOf (dstsOf ops) Γ o.guard = some G
  hA : G.ok → Does P c o Γ A []
  hΓ : Γ' = ⟨set Γ.tmps t (gd' G A), Γ.own⟩

theorem gd'_rp {w : World} {O O0 : Nat → Prop} {g : Nat → Value} {v : Value} {G : Path} {A : AV} (hA : ∀ p B, A ≠ .gd p B) (h : G.ok → Rp2 w O O0 g v A) (h' : ¬ G.ok → v = undef) : Rp w O O0 g v (gd' G A) := by
  cases G with
  | nil =>
    have := h trivial
    cases A with
    | gd p B => exact absurd rfl (hA p B)
    | _ => exact this
  | cons x r => exact ⟨h, h'⟩
theorem Rp2.ngd {w : World} {O O0 : Nat → Prop} {g : Nat → Value} {v : Value} {A : AV} (h : Rp2 w O O0 g v A) : ∀ p B, A ≠ .gd p B := by
  intro p B e
  subst e
  exact h
theorem Rp.of2 {w : World} {O O0 : Nat → Prop} {g : Nat → Value} {v : Value} {A : AV} (h : Rp2 w O O0 g v A) : Rp w O O0 g v A := by
  cases A with
  | gd p B => exact absurd rfl (h.ngd p B)
  | _ => exact h

/-- An operation that adds, as a step from any state that looks alike where it looks. -/
theorem add_step {P : Program} {c : Cx} {ops : Array Oper} {j : Nat} {o : Oper} {Γ Γ' : Sy} {G : Path} {A : AV} {N : List (Nat × Ob)} (ho : ops[j]? = some o) {t : Nat} (ht : o.dst = some t) (hn : t < c.n)
    (hG : guardOf (dstsOf ops) Γ' o.guard = some G) (hA : G.ok → Does P c o Γ A N) (hN : G ≠ [] → N = []) (hl : ∀ x ∈ o.op.operands, look Γ' x = look Γ x) (hown : ∀ k b, get? Γ.own k = some b → get? Γ'.own k = some b)
    (hf : ∀ k b, get? N k = some b → Γ'.free k) : StepOk P c ops j Γ' ⟨set Γ'.tmps t (gd' G A), N ++ Γ'.own⟩ := by
  intro Q g a w K hst hK
  unfold wpOp
  rw [ho]
  dsimp only
  have hw := guardOf.wanted (ops := ops) hst hG
  by_cases hok : G.ok
  · rw [if_pos (hw.2 hok)]
    refine .inl (hA hok Γ' g a w _ _ hl hown hf hst fun g' v w' h1 h2 => ?_)
    rw [ht]
    refine hK g' _ w' ((h1.put hn (A := gd' G A) ?_).congr (fun _ => rfl) (fun _ => rfl))
    exact gd'_rp h2.ngd (fun _ => h2) (fun h => absurd hok h)
  · have hne : G ≠ [] := fun e => hok (by rw [e]; trivial)
    have := hN hne
    subst this
    rw [if_neg (fun h => hok (hw.1 h))]
    rw [ht]
    refine hK g _ w ((hst.put hn (A := gd' G A) ?_).congr (fun _ => rfl) (fun _ => rfl))
    cases G with
    | nil => exact absurd rfl hne
    | cons x r => exact ⟨fun h => absurd h hok, fun _ => rfl⟩

/-- The trace of a region. -/
theorem opsVC.trace {P : Program} {T : List (Nat × TE)} {F L : List Nat} (hT : TOk P T) {c : Cx} {ops : Array Oper} {K : Sy → Prop} : ∀ (l : List Oper) (m i : Nat) (Γ : Sy), ops.toList.drop i = l → opsVC P T F c.n (dstsOf ops) L l i m Γ K →
    ∃ Γs : Nat → Sy, Γs i = Γ ∧ K (Γs ops.size) ∧ ∀ j, i ≤ j → j < ops.size → (memN j L = true → Γs (j + 1) = Γs j) ∧ (memN j L = false → (j < i + m → Nonempty (PreOk P c ops j (Γs j) (Γs (j + 1)))) ∧ (i + m ≤ j → StepOk P c ops j (Γs j) (Γs (j + 1))))
  | [], m, i, Γ, hl, h => by
    have hi : ops.size ≤ i := by
      have := congrArg List.length hl
      simp at this
      omega
    refine ⟨fun _ => Γ, rfl, h, fun j h1 h2 => absurd h2 (by omega)⟩
  | o :: r, m, i, Γ, hl, h => by
    have hi : i < ops.size := by
      rcases Nat.lt_or_ge i ops.size with h1 | h1
      · exact h1
      · rw [List.drop_eq_nil_of_le (by simpa using h1)] at hl; cases hl
    have hoi : ops[i]? = some o := by
      have : (ops.toList.drop i)[0]? = some o := by rw [hl]; rfl
      rw [List.getElem?_drop] at this
      simpa using this
    have hr : ops.toList.drop (i + 1) = r := by
      have := congrArg List.tail hl
      simpa [List.tail_drop] using this
    -- gluing
    have glue : ∀ (m' : Nat) (Γ1 : Sy), opsVC P T F c.n (dstsOf ops) L r (i + 1) m' Γ1 K → (m = 0 → m' = 0) → (0 < m → m' + 1 = m) → (memN i L = true → Γ1 = Γ) → (memN i L = false → (m = 0 → StepOk P c ops i Γ Γ1) ∧ (0 < m → Nonempty (PreOk P c ops i Γ Γ1))) →
        ∃ Γs : Nat → Sy, Γs i = Γ ∧ K (Γs ops.size) ∧ ∀ j, i ≤ j → j < ops.size → (memN j L = true → Γs (j + 1) = Γs j) ∧ (memN j L = false → (j < i + m → Nonempty (PreOk P c ops j (Γs j) (Γs (j + 1)))) ∧ (i + m ≤ j → StepOk P c ops j (Γs j) (Γs (j + 1)))) := by
      intro m' Γ1 h1 hm0 hm1 hs hp
      obtain ⟨Γs, g1, g2, g3⟩ := opsVC.trace hT r m' (i + 1) Γ1 hr h1
      refine ⟨fun j => if j = i then Γ else Γs j, by simp, by dsimp only; rw [if_neg (by omega)]; exact g2, fun j h2 h3 => ?_⟩
      by_cases hj : j = i
      · subst hj
        simp only [if_true, if_neg (show ¬ j + 1 = j from by omega), g1]
        exact ⟨hs, fun h0 => ⟨fun h => (hp h0).2 (by omega), fun h => (hp h0).1 (by omega)⟩⟩
      · simp only [if_neg hj, if_neg (show ¬ j + 1 = i from by omega)]
        obtain ⟨g4, g5⟩ := g3 j (by omega) h3
        refine ⟨g4, fun h0 => ?_⟩
        obtain ⟨g6, g7⟩ := g5 h0
        by_cases hm : m = 0
        · have := hm0 hm
          exact ⟨fun h => absurd h (by omega), fun h => g7 (by omega)⟩
        · have := hm1 (by omega)
          exact ⟨fun h => g6 (by omega), fun h => g7 (by omega)⟩
    simp only [opsVC] at h
    split at h
    · rename_i hL
      exact glue (m - 1) Γ h (by omega) (by omega) (fun _ => rfl) (fun h0 => by rw [hL] at h0; cases h0)
    rename_i hL
    have noL : ∀ {Γ1 : Sy}, memN i L = true → Γ1 = Γ := fun h0 => by rw [hL] at h0; cases h0
    split at h
    · split at h
      · rename_i hgd
        obtain ⟨Γ1, h1, h2⟩ := mutVC.sound hT h
        refine glue 0 Γ1 h2 (fun _ => rfl) (fun h => absurd h (by omega)) noL (fun _ => ⟨fun _ => ?_, fun h => absurd h (by omega)⟩)
        intro Q g a w K' hst hK
        unfold wpOp
        rw [hoi]
        dsimp only
        have : Region.wanted o (yielded ops a.tmps) = true := by simp [Region.wanted, hgd]
        rw [if_pos this]
        exact .inl (h1 g a w _ _ hst hK)
      · exact h.elim
    · split at h
      · exact h.elim
      · rename_i G hG
        split at h
        · rename_i hd
          split at h
          · obtain ⟨A, N, h1, h2, h6⟩ := pureVC.sound (c := c) hT h
            split at h6
            rotate_left
            · exact h6.elim
            rename_i h4
            have h5 := h6
            refine glue 0 _ h5 (fun _ => rfl) (fun h => absurd h (by omega)) noL (fun _ => ⟨fun _ => ?_, fun h => absurd h (by omega)⟩)
            intro Q g a w K' hst hK
            unfold wpOp
            rw [hoi]
            dsimp only
            rw [if_pos ((guardOf.wanted (ops := ops) hst hG).2 trivial)]
            refine .inl (h1 trivial Γ g a w _ _ (fun _ _ => rfl) (fun _ _ h => h) (freeB_free h4) hst fun g' v w' h6 h7 => ?_)
            rw [hd]
            exact hK g' _ w' h6
          · exact h.elim
        · rename_i t hd
          split at h
          · obtain ⟨A, N, h1, h2, h6⟩ := pureVC.sound (c := c) hT h
            split at h6
            rotate_left
            · exact h6.elim
            rename_i h34
            simp only [Bool.and_eq_true] at h34
            obtain ⟨h3, h4⟩ := h34
            have h5 := h6
            refine glue 0 _ h5 (fun _ => rfl) (fun h => absurd h (by omega)) noL (fun _ => ⟨fun _ => ?_, fun h => absurd h (by omega)⟩)
            exact add_step hoi hd (Nat.le_of_ble_eq_true h3) hG h1 (fun h => h2 (.inl h)) (fun _ _ => rfl) (fun _ _ h => h) (freeB_free h4)
          · rename_i m'
            obtain ⟨A, N, h1, h2, h6⟩ := pureVC.sound (c := c) hT h
            split at h6
            rotate_left
            · exact h6.elim
            rename_i h3
            have h5 := h6
            have hN := h2 (.inr rfl)
            subst hN
            refine glue m' _ h5 (fun h => absurd h (by omega)) (fun _ => rfl) noL (fun _ => ⟨fun h => absurd h (by omega), fun _ => ⟨⟨o, hoi, t, hd, Nat.le_of_ble_eq_true h3, G, A, hG, h1, rfl⟩⟩⟩)

/-- In the order of the text. -/
theorem region_seq {P : Program} {T : List (Nat × TE)} {F : List Nat} (hT : TOk P T) {c : Cx} {ops : Array Oper} {K : Sy → Prop} {Γ : Sy} (h : opsVC P T F c.n (dstsOf ops) [] ops.toList 0 0 Γ K) {Q : Exit → Act → World → Prop} {g : Nat → Value} {a : Act} {w : World} (hst : St c Γ g a w)
    (hQ : ∀ Γ' g' a' w', K Γ' → St c Γ' g' a' w' → Q .normal a' w') {id : Nat} : (Code.region id ops false).wp P Q a w := by
  obtain ⟨Γs, h1, h2, h3⟩ := opsVC.trace hT ops.toList 0 0 Γ (by simp) h
  refine wp_region ?_
  have key : ∀ (k i : Nat), i + k = ops.size → ∀ g a w, St c (Γs i) g a w → wpOps P ops Q (List.range' i k) a w := by
    intro k
    induction k with
    | zero =>
      intro i hi g a w hs
      simp only [Nat.add_zero] at hi
      subst hi
      exact hQ _ g a w h2 hs
    | succ k ih =>
      intro i hi g a w hs
      rw [List.range'_succ, wpOps_cons]
      exact ((h3 i (by omega) (by omega)).2 rfl).2 (by omega) Q g a w _ hs fun g' a' w' hs' => ih (i + 1) (by omega) g' a' w' hs'
  rw [List.range_eq_range']
  exact key ops.size 0 (by omega) g a w (by rw [h1]; exact hst)
end Go.Vc
