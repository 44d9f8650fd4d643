/- Joined of: Vc18 Vc19 Vc20 Vc21 Vc22 Vc23. No condition. -/
import Derived.Test.YtckmhlpngolbpaaDoorJ2
import Derived.OrdersHeld
import Derived.Deep.LoopGhost
import Derived.Scope
import Derived.ChangeArms
import Derived.OpenShut
import Derived.DataReads
import Derived.Below
import Derived.WalkKit
import Derived.ProofKit
import Derived.ShutString
import Derived.ChangeOld
set_option linter.unusedVariables false
set_option linter.unusedSimpArgs false
namespace Go.Vc
def gd' (G : Path) (A : AV) : AV := match G with
 | [] => A
 | _ => .gd G A
def guardOf (dsts : List (Option Nat)) (Γ : Sy) : Option (Nat × Bool) → Option Path
 | none => some []
 | some (j, b) => match dsts[j]? with
  | some (some t) => match get? Γ.tmps t with
   | some (.lit (.bool v)) => some [(v, b)]
   | some (.gd p (.lit (.bool v))) => some ((v, b) :: p)
   | _ => none
  | _ => none
def dstsOf (ops : Array Oper) : List (Option Nat) := ops.toList.map (·.dst)
theorem guardOf.wanted {ops : Array Oper} {c : Cx} {Γ : Sy} {g : Nat → Value} {a : Act} {w : World} (hst : St c Γ g a w) {o : Oper} {G : Path} (h : guardOf (dstsOf ops) Γ o.guard = some G) : Region.wanted o (yielded ops a.tmps) = true ↔ G.ok := by
 unfold Region.wanted
 cases hg : o.guard with
 | none => rw [hg] at h; cases h; exact ⟨fun _ => trivial, fun _ => rfl⟩
 | some x =>
  obtain ⟨j, b⟩ := x
  rw [hg] at h
  dsimp only
  simp only [guardOf] at h
  split at h
  · rename_i t hj
    have hdst : (ops[j]?).bind (·.dst) = some t := by
     simp only [dstsOf, List.getElem?_map] at hj
     obtain ⟨o', h1, h2⟩ := Option.map_eq_some_iff.1 hj
     have : ops[j]? = some o' := by simpa using h1
     rw [this]; exact h2
    have yes : ∀ v, a.tmps.getD t undef = .bool v → yielded ops a.tmps j = some v := by
     intro v hv
     simp only [yielded, hdst, Option.bind_some]
     rw [Array.getD_eq_getD_getElem?] at hv
     cases ht : a.tmps[t]? with
     | none => rw [ht] at hv; cases hv
     | some u => rw [ht] at hv; simp at hv; subst hv; rfl
    have no : a.tmps.getD t undef = undef → yielded ops a.tmps j = none := by
     intro hv
     simp only [yielded, hdst, Option.bind_some]
     rw [Array.getD_eq_getD_getElem?] at hv
     cases ht : a.tmps[t]? with
     | none => rfl
     | some u => rw [ht] at hv; simp at hv; subst hv; rfl
    split at h
    · rename_i v ht
      cases h
      have h1 := hst.tmps t _ ht
      simp only [Rp, Rp2, Rp1] at h1
      rw [yes v h1.1]
      simp [Path.ok]
    · rename_i p v ht
      cases h
      obtain ⟨h1, h2⟩ := hst.tmps t _ ht
      by_cases hp : p.ok
      · have h3 := h1 hp
        simp only [Rp2, Rp1] at h3
        rw [yes v h3.1]
        simp [Path.ok, hp]
      · rw [no (h2 hp)]
        simp [Path.ok, hp]
    · cases h
  · cases h
def freeB (Γ : Sy) : List (Nat × Ob) → Bool
 | [] => true
 | (k, _) :: r => Nat.blt (k % 2000000000) 1000000000 && noKeyT k Γ.tmps && noKeyO k Γ.own && freeB Γ r
where
 noKeyT (k : Nat) : List (Nat × AV) → Bool
  | [] => true
  | (_, A) :: r => !(A.hasKey k) && noKeyT k r
 noKeyO (k : Nat) : List (Nat × Ob) → Bool
  | [] => true
  | (k', o) :: r => !(Nat.beq k' k) && !(o.hasKey k) && noKeyO k r
theorem noKeyT_get {k : Nat} : ∀ {l : List (Nat × AV)} {t : Nat} {A : AV}, freeB.noKeyT k l = true → get? l t = some A → A.hasKey k = false
 | [], t, A, _, h => by cases h
 | (t', B) :: r, t, A, hl, h => by
  simp only [freeB.noKeyT, Bool.and_eq_true] at hl
  simp only [get?] at h
  split at h
  · cases h; simpa using hl.1
  · exact noKeyT_get hl.2 h
theorem noKeyO_get {k : Nat} : ∀ {l : List (Nat × Ob)} {j : Nat} {o : Ob}, freeB.noKeyO k l = true → get? l j = some o → o.hasKey k = false ∧ j ≠ k
 | [], t, A, _, h => by cases h
 | (t', B) :: r, t, A, hl, h => by
  simp only [freeB.noKeyO, Bool.and_eq_true] at hl
  simp only [get?] at h
  split at h
  · rename_i hb
    cases h
    have := Nat.eq_of_beq_eq_true hb
    subst this
    have h1 := hl.1.1
    exact ⟨by simpa using hl.1.2, Nat.ne_of_beq_eq_false (by simpa using h1)⟩
  · exact noKeyO_get hl.2 h
theorem freeB_free {Γ : Sy} : ∀ {N : List (Nat × Ob)}, freeB Γ N = true → ∀ k o, get? N k = some o → Γ.free k
 | [], _, k, o, h => by cases h
 | (k', o') :: r, hf, k, o, h => by
  simp only [freeB, Bool.and_eq_true] at hf
  simp only [get?] at h
  split at h
  · rename_i hb
    cases h
    have := Nat.eq_of_beq_eq_true hb
    subst this
    refine ⟨fun t A hA => noKeyT_get hf.1.1.2 hA, fun j o hj => (noKeyO_get hf.1.2 hj).1, ?_, Nat.le_of_ble_eq_true hf.1.1.1⟩
    cases hk : get? Γ.own k' with
    | none => rfl
    | some x => exact absurd rfl (noKeyO_get hf.1.2 hk).2
  · exact freeB_free hf.2 k o h
def Sy.putA (Γ : Sy) (t : Nat) (A : AV) (N : List (Nat × Ob)) : Sy := ⟨set Γ.tmps t A, N ++ Γ.own⟩
def Sy.putB (Γ : Sy) (t : Nat) (A : AV) : Sy := ⟨set Γ.tmps t A, Γ.own⟩
def memN (t : Nat) : List Nat → Bool
 | [] => false
 | x :: r => Nat.beq x t || memN t r
def behind0 : List Nat → List Nat
 | [] => []
 | 0 :: r => r
 | _ :: r => behind0 r
def isMade (F : List Nat) (o : Oper) : Bool := match o.op with
 | .makeSlice _ _ _ => match o.dst with
  | some D => memN D (behind0 F)
  | none => false
 | .slice _ _ _ _ _ => match o.dst with
  | some D => memN D (behind0 F)
  | none => false
 | _ => false
def opsVC (P : Program) (T : List (Nat × TE)) (F : List Nat) (n : Nat) (dsts : List (Option Nat)) (L : List Nat) : List Oper → Nat → Nat → Sy → (Sy → Prop) → Prop
 | [], _, _, Γ, K => K Γ
 | o :: r, i, m, Γ, K => match memN i L with
  | true => opsVC P T F n dsts L r (i + 1) (m - 1) Γ K
  | false => match isMut o || isMade F o with
   | true => match m, o.guard with
    | 0, none => mutVC T n Γ (1000 * (o.dst.getD 0 + 1)) o fun Γ' => opsVC P T F n dsts L r (i + 1) 0 Γ' K
    | _, _ => False
   | false => match guardOf dsts Γ o.guard with
    | none => False
    | some G => match o.dst with
     | none => match m with
      | 0 => pureVC P T Γ false G 0 o fun A N => match G, freeB Γ N with
       | [], true => opsVC P T F n dsts L r (i + 1) 0 ⟨Γ.tmps, N ++ Γ.own⟩ K
       | _, _ => False
      | _ => False
     | some t => match m with
      | 0 => pureVC P T Γ (memN t F) G (1000 * (t + 1)) o fun A N => match Nat.blt t n && freeB Γ N with
       | true => opsVC P T F n dsts L r (i + 1) 0 (Γ.putA t (gd' G A) N) K
       | false => False
      | m + 1 => pureVC P T Γ true G 0 o fun A _ => match Nat.blt t n with
       | true => opsVC P T F n dsts L r (i + 1) m (Γ.putB t (gd' G A)) K
       | false => False
def StepOk (P : Program) (c : Cx) (ops : Array Oper) (j : Nat) (Γ Γ' : Sy) : Prop :=
 ∀ (Q : Exit → Act → World → Prop) (g : Nat → Value) (a : Act) (w : World) (K : Act → World → Prop), St c Γ g a w → (∀ g' a' w', St c Γ' g' a' w' → K a' w') → wpOp P ops Q j K a w
structure PreOk (P : Program) (c : Cx) (ops : Array Oper) (j : Nat) (Γ Γ' : Sy) where
 o : Oper
 ho : ops[j]? = some o
 t : Nat
 ht : o.dst = some t
 hn : t < c.n
 G : Path
 A : AV
 hG : guardOf (dstsOf ops) Γ o.guard = some G
 hA : G.ok → Does P c o Γ A []
 hΓ : Γ' = ⟨set Γ.tmps t (gd' G A), Γ.own⟩
theorem gd'_rp {w : World} {O O0 : Nat → Prop} {g : Nat → Value} {v : Value} {G : Path} {A : AV} (hA : ∀ p B, A ≠ .gd p B) (h : G.ok → Rp2 w O O0 g v A) (h' : ¬ G.ok → v = undef) : Rp w O O0 g v (gd' G A) := by
 cases G with
 | nil =>
  have := h trivial
  cases A with
  | gd p B => exact absurd rfl (hA p B)
  | _ => exact this
 | cons x r => exact ⟨h, h'⟩
theorem Rp2.ngd {w : World} {O O0 : Nat → Prop} {g : Nat → Value} {v : Value} {A : AV} (h : Rp2 w O O0 g v A) : ∀ p B, A ≠ .gd p B := by
 intro p B e
 subst e
 exact h
theorem Rp.of2 {w : World} {O O0 : Nat → Prop} {g : Nat → Value} {v : Value} {A : AV} (h : Rp2 w O O0 g v A) : Rp w O O0 g v A := by
 cases A with
 | gd p B => exact absurd rfl (h.ngd p B)
 | _ => exact h
theorem add_step {P : Program} {c : Cx} {ops : Array Oper} {j : Nat} {o : Oper} {Γ Γ' : Sy} {G : Path} {A : AV} {N : List (Nat × Ob)} (ho : ops[j]? = some o) {t : Nat} (ht : o.dst = some t) (hn : t < c.n)
  (hG : guardOf (dstsOf ops) Γ' o.guard = some G) (hA : G.ok → Does P c o Γ A N) (hN : G ≠ [] → N = []) (hl : ∀ x ∈ o.op.operands, look Γ' x = look Γ x) (hown : ∀ k b, get? Γ.own k = some b → get? Γ'.own k = some b)
  (hf : ∀ k b, get? N k = some b → Γ'.free k) : StepOk P c ops j Γ' ⟨set Γ'.tmps t (gd' G A), N ++ Γ'.own⟩ := by
 intro Q g a w K hst hK
 unfold wpOp
 rw [ho]
 dsimp only
 have hw := guardOf.wanted (ops := ops) hst hG
 by_cases hok : G.ok
 · rw [if_pos (hw.2 hok)]
   refine .inl (hA hok Γ' g a w _ _ hl hown hf hst fun g' v w' h1 h2 => ?_)
   rw [ht]
   refine hK g' _ w' ((h1.put hn (A := gd' G A) ?_).congr (fun _ => rfl) (fun _ => rfl))
   exact gd'_rp h2.ngd (fun _ => h2) (fun h => absurd hok h)
 · have hne : G ≠ [] := fun e => hok (by rw [e]; trivial)
   have := hN hne
   subst this
   rw [if_neg (fun h => hok (hw.1 h))]
   rw [ht]
   refine hK g _ w ((hst.put hn (A := gd' G A) ?_).congr (fun _ => rfl) (fun _ => rfl))
   cases G with
   | nil => exact absurd rfl hne
   | cons x r => exact ⟨fun h => absurd h hok, fun _ => rfl⟩
theorem opsVC.trace {P : Program} {T : List (Nat × TE)} {F L : List Nat} (hT : TOk P T) {c : Cx} {ops : Array Oper} {K : Sy → Prop} : ∀ (l : List Oper) (m i : Nat) (Γ : Sy), ops.toList.drop i = l → opsVC P T F c.n (dstsOf ops) L l i m Γ K →
    ∃ Γs : Nat → Sy, Γs i = Γ ∧ K (Γs ops.size) ∧ ∀ j, i ≤ j → j < ops.size → (memN j L = true → Γs (j + 1) = Γs j) ∧ (memN j L = false → (j < i + m → Nonempty (PreOk P c ops j (Γs j) (Γs (j + 1)))) ∧ (i + m ≤ j → StepOk P c ops j (Γs j) (Γs (j + 1))))
  | [], m, i, Γ, hl, h => by
    have hi : ops.size ≤ i := by
      have := congrArg List.length hl
      simp at this
      omega
    refine ⟨fun _ => Γ, rfl, h, fun j h1 h2 => absurd h2 (by omega)⟩
  | o :: r, m, i, Γ, hl, h => by
    have hi : i < ops.size := by
      rcases Nat.lt_or_ge i ops.size with h1 | h1
      · exact h1
      · rw [List.drop_eq_nil_of_le (by simpa using h1)] at hl; cases hl
    have hoi : ops[i]? = some o := by
      have : (ops.toList.drop i)[0]? = some o := by rw [hl]; rfl
      rw [List.getElem?_drop] at this
      simpa using this
    have hr : ops.toList.drop (i + 1) = r := by
      have := congrArg List.tail hl
      simpa [List.tail_drop] using this
    -- gluing
    have glue : ∀ (m' : Nat) (Γ1 : Sy), opsVC P T F c.n (dstsOf ops) L r (i + 1) m' Γ1 K → (m = 0 → m' = 0) → (0 < m → m' + 1 = m) → (memN i L = true → Γ1 = Γ) → (memN i L = false → (m = 0 → StepOk P c ops i Γ Γ1) ∧ (0 < m → Nonempty (PreOk P c ops i Γ Γ1))) →
        ∃ Γs : Nat → Sy, Γs i = Γ ∧ K (Γs ops.size) ∧ ∀ j, i ≤ j → j < ops.size → (memN j L = true → Γs (j + 1) = Γs j) ∧ (memN j L = false → (j < i + m → Nonempty (PreOk P c ops j (Γs j) (Γs (j + 1)))) ∧ (i + m ≤ j → StepOk P c ops j (Γs j) (Γs (j + 1)))) := by
      intro m' Γ1 h1 hm0 hm1 hs hp
      obtain ⟨Γs, g1, g2, g3⟩ := opsVC.trace hT r m' (i + 1) Γ1 hr h1
      refine ⟨fun j => if j = i then Γ else Γs j, by simp, by dsimp only; rw [if_neg (by omega)]; exact g2, fun j h2 h3 => ?_⟩
      by_cases hj : j = i
      · subst hj
        simp only [if_true, if_neg (show ¬ j + 1 = j from by omega), g1]
        exact ⟨hs, fun h0 => ⟨fun h => (hp h0).2 (by omega), fun h => (hp h0).1 (by omega)⟩⟩
      · simp only [if_neg hj, if_neg (show ¬ j + 1 = i from by omega)]
        obtain ⟨g4, g5⟩ := g3 j (by omega) h3
        refine ⟨g4, fun h0 => ?_⟩
        obtain ⟨g6, g7⟩ := g5 h0
        by_cases hm : m = 0
        · have := hm0 hm
          exact ⟨fun h => absurd h (by omega), fun h => g7 (by omega)⟩
        · have := hm1 (by omega)
          exact ⟨fun h => g6 (by omega), fun h => g7 (by omega)⟩
    simp only [opsVC] at h
    split at h
    · rename_i hL
      exact glue (m - 1) Γ h (by omega) (by omega) (fun _ => rfl) (fun h0 => by rw [hL] at h0; cases h0)
    rename_i hL
    have noL : ∀ {Γ1 : Sy}, memN i L = true → Γ1 = Γ := fun h0 => by rw [hL] at h0; cases h0
    split at h
    · split at h
      · rename_i hgd
        obtain ⟨Γ1, h1, h2⟩ := mutVC.sound hT h
        refine glue 0 Γ1 h2 (fun _ => rfl) (fun h => absurd h (by omega)) noL (fun _ => ⟨fun _ => ?_, fun h => absurd h (by omega)⟩)
        intro Q g a w K' hst hK
        unfold wpOp
        rw [hoi]
        dsimp only
        have : Region.wanted o (yielded ops a.tmps) = true := by simp [Region.wanted, hgd]
        rw [if_pos this]
        exact .inl (h1 g a w _ _ hst hK)
      · exact h.elim
    · split at h
      · exact h.elim
      · rename_i G hG
        split at h
        · rename_i hd
          split at h
          · obtain ⟨A, N, h1, h2, h6⟩ := pureVC.sound (c := c) hT h
            split at h6
            rotate_left
            · exact h6.elim
            rename_i h4
            have h5 := h6
            refine glue 0 _ h5 (fun _ => rfl) (fun h => absurd h (by omega)) noL (fun _ => ⟨fun _ => ?_, fun h => absurd h (by omega)⟩)
            intro Q g a w K' hst hK
            unfold wpOp
            rw [hoi]
            dsimp only
            rw [if_pos ((guardOf.wanted (ops := ops) hst hG).2 trivial)]
            refine .inl (h1 trivial Γ g a w _ _ (fun _ _ => rfl) (fun _ _ h => h) (freeB_free h4) hst fun g' v w' h6 h7 => ?_)
            rw [hd]
            exact hK g' _ w' h6
          · exact h.elim
        · rename_i t hd
          split at h
          · obtain ⟨A, N, h1, h2, h6⟩ := pureVC.sound (c := c) hT h
            split at h6
            rotate_left
            · exact h6.elim
            rename_i h34
            simp only [Bool.and_eq_true] at h34
            obtain ⟨h3, h4⟩ := h34
            have h5 := h6
            refine glue 0 _ h5 (fun _ => rfl) (fun h => absurd h (by omega)) noL (fun _ => ⟨fun _ => ?_, fun h => absurd h (by omega)⟩)
            exact add_step hoi hd (Nat.le_of_ble_eq_true h3) hG h1 (fun h => h2 (.inl h)) (fun _ _ => rfl) (fun _ _ h => h) (freeB_free h4)
          · rename_i m'
            obtain ⟨A, N, h1, h2, h6⟩ := pureVC.sound (c := c) hT h
            split at h6
            rotate_left
            · exact h6.elim
            rename_i h3
            have h5 := h6
            have hN := h2 (.inr rfl)
            subst hN
            refine glue m' _ h5 (fun h => absurd h (by omega)) (fun _ => rfl) noL (fun _ => ⟨fun h => absurd h (by omega), fun _ => ⟨⟨o, hoi, t, hd, Nat.le_of_ble_eq_true h3, G, A, hG, h1, rfl⟩⟩⟩)
theorem region_seq {P : Program} {T : List (Nat × TE)} {F : List Nat} (hT : TOk P T) {c : Cx} {ops : Array Oper} {K : Sy → Prop} {Γ : Sy} (h : opsVC P T F c.n (dstsOf ops) [] ops.toList 0 0 Γ K) {Q : Exit → Act → World → Prop} {g : Nat → Value} {a : Act} {w : World} (hst : St c Γ g a w)
  (hQ : ∀ Γ' g' a' w', K Γ' → St c Γ' g' a' w' → Q .normal a' w') {id : Nat} : (Code.region id ops false).wp P Q a w := by
 obtain ⟨Γs, h1, h2, h3⟩ := opsVC.trace hT ops.toList 0 0 Γ (by simp) h
 refine wp_region ?_
 have key : ∀ (k i : Nat), i + k = ops.size → ∀ g a w, St c (Γs i) g a w → wpOps P ops Q (List.range' i k) a w := by
  intro k
  induction k with
  | zero =>
   intro i hi g a w hs
   simp only [Nat.add_zero] at hi
   subst hi
   exact hQ _ g a w h2 hs
  | succ k ih =>
   intro i hi g a w hs
   rw [List.range'_succ, wpOps_cons]
   exact ((h3 i (by omega) (by omega)).2 rfl).2 (by omega) Q g a w _ hs fun g' a' w' hs' => ih (i + 1) (by omega) g' a' w' hs'
 rw [List.range_eq_range']
 exact key ops.size 0 (by omega) g a w (by rw [h1]; exact hst)
def fD (tb : Nat → Nat × AV) (D : Nat → Bool) (l0 : List (Nat × AV)) : Nat → List (Nat × AV)
 | 0 => l0
 | k + 1 => if D k = true then set (fD tb D l0 k) (tb k).1 (tb k).2 else fD tb D l0 k
theorem fD_text {tb : Nat → Nat × AV} {D E : Nat → Bool} {l0 : List (Nat × AV)} {t j : Nat} : ∀ {m : Nat}, j ≤ m → (∀ k, k < m → (tb k).1 = t → D k = (decide (k < j) && E k)) → get? (fD tb D l0 m) t = get? (fD tb E l0 j) t := by
  intro m
  induction m generalizing j with
  | zero => intro hj _; have : j = 0 := by omega
            subst this; rfl
  | succ m ih =>
    intro hj h
    by_cases hjm : j = m + 1
    · subst hjm
      have ih' := ih (j := m) (Nat.le_refl _) (fun k hk ht => by rw [h k (by omega) ht]; congr 1; simp; omega)
      simp only [fD]
      by_cases ht : (tb m).1 = t
      · have hm := h m (by omega) ht
        have : D m = E m := by rw [hm]; simp
        rw [this]
        split
        · rw [get?_set, get?_set]
          simp [ht]
        · exact ih'
      · have e1 : ∀ l : List (Nat × AV), get? (set l (tb m).1 (tb m).2) t = get? l t := fun l => by rw [get?_set, if_neg (Ne.symm ht)]
        have e2 : get? (if D m = true then set (fD tb D l0 m) (tb m).1 (tb m).2 else fD tb D l0 m) t = get? (fD tb D l0 m) t := by split <;> simp only [e1]
        have e3 : get? (if E m = true then set (fD tb E l0 m) (tb m).1 (tb m).2 else fD tb E l0 m) t = get? (fD tb E l0 m) t := by split <;> simp only [e1]
        rw [e2, e3, ih']
    · have ih' := ih (j := j) (by omega) (fun k hk ht => h k (by omega) ht)
      simp only [fD]
      by_cases ht : (tb m).1 = t
      · have := h m (by omega) ht
        rw [if_neg (by rw [this]; simp; omega)]
        exact ih'
      · rw [← ih']
        split
        · rw [get?_set, if_neg (Ne.symm ht)]
        · rfl
theorem fD_add {tb : Nat → Nat × AV} {D D' : Nat → Bool} {l0 : List (Nat × AV)} {j : Nat} (hj : D' j = true) (hD : ∀ k, k ≠ j → D' k = D k) : ∀ {m : Nat} (t : Nat), j < m → D j = false → (∀ k, k < m → k ≠ j → (tb k).1 = (tb j).1 → D k = true → k < j) →
  get? (fD tb D' l0 m) t = if t = (tb j).1 then some (tb j).2 else get? (fD tb D l0 m) t := by
 intro m
 induction m with
 | zero => intro t h; omega
 | succ m ih =>
  intro t hjm hDj hlast
  by_cases hm : m = j
  · subst hm
    have same : ∀ n, n ≤ m → fD tb D' l0 n = fD tb D l0 n := by
     intro n
     induction n with
     | zero => intro _; rfl
     | succ n ihn =>
      intro hn
      simp only [fD]
      rw [hD n (by omega), ihn (by omega)]
    simp only [fD]
    have hDj' : ¬ D m = true := by rw [hDj]; simp
    rw [if_pos hj, if_neg hDj', get?_set, same m (Nat.le_refl _)]
  · have ih' := ih t (by omega) hDj (fun k hk => hlast k (by omega))
    simp only [fD]
    rw [hD m hm]
    by_cases hDm : D m = true
    · rw [if_pos hDm, if_pos hDm, get?_set, get?_set, ih']
      by_cases ht : t = (tb m).1
      · have hne : (tb m).1 ≠ (tb j).1 := fun e => by have := hlast m (by omega) hm e hDm; omega
        rw [if_pos ht, if_pos ht, if_neg (by rw [ht]; exact hne)]
      · rw [if_neg ht, if_neg ht]
    · rw [if_neg hDm, if_neg hDm]
      exact ih'
def upm (M : List Nat) : List Edge → Nat → Nat
 | [], s => s
 | e :: r, s => match Region.binds .any e with
  | true => upm M r (s ||| 2 ^ e.on ||| M.getD e.on 0)
  | false => upm M r s
theorem upm_bit {M : List Nat} : ∀ {l : List Edge} {s i : Nat}, (upm M l s).testBit i = true → s.testBit i = true ∨ ∃ e ∈ l, Region.binds .any e = true ∧ (e.on = i ∨ (M.getD e.on 0).testBit i = true)
 | [], s, i, h => .inl h
 | e :: r, s, i, h => by
  simp only [upm] at h
  split at h
  · rename_i hb
    rcases upm_bit h with h1 | ⟨e', h1, h2, h3⟩
    · simp only [Nat.testBit_or, Bool.or_eq_true] at h1
      rcases h1 with (h1 | h1) | h1
      · exact .inl h1
      · refine .inr ⟨e, by simp, hb, .inl ?_⟩
        rw [Nat.testBit_two_pow] at h1
        simpa using h1
      · exact .inr ⟨e, by simp, hb, .inr h1⟩
    · exact .inr ⟨e', by simp [h1], h2, h3⟩
  · rcases upm_bit h with h1 | ⟨e', h1, h2, h3⟩
    · exact .inl h1
    · exact .inr ⟨e', by simp [h1], h2, h3⟩
def allBelow (n : Nat) (f : Nat → Bool) : Bool := match n with
 | 0 => true
 | k + 1 => f k && allBelow k f
theorem allBelow_get : ∀ {n : Nat} {f : Nat → Bool}, allBelow n f = true → ∀ i, i < n → f i = true
 | 0, f, _, i, h => by omega
 | k + 1, f, h, i, hi => by
  simp only [allBelow, Bool.and_eq_true] at h
  by_cases e : i = k
  · rw [e]; exact h.1
  · exact allBelow_get h.2 i (by omega)
def edgesLt (j : Nat) : List Edge → Bool
 | [] => true
 | e :: r => (!(Region.binds .any e) || Nat.blt e.on j) && edgesLt j r
theorem edgesLt_get {j : Nat} : ∀ {l : List Edge} {e : Edge}, edgesLt j l = true → e ∈ l → Region.binds .any e = true → e.on < j
 | [], e, _, h, _ => by cases h
 | x :: r, e, hl, h, hb => by
  simp only [edgesLt, Bool.and_eq_true, Bool.or_eq_true, Bool.not_eq_true'] at hl
  rcases List.mem_cons.1 h with rfl | h
  · rcases hl.1 with h1 | h1
    · rw [hb] at h1; cases h1
    · exact Nat.le_of_ble_eq_true h1
  · exact edgesLt_get hl.2 h hb
def drawOk (ops : Array Oper) (M : List Nat) (L : List Nat) (m : Nat) : Bool :=
 Nat.ble m ops.size && allBelow ops.size (fun j => match ops[j]? with
  | none => false
  | some o => edgesLt j o.after.toList && Nat.beq (M.getD j 0) (upm M o.after.toList 0) && (match memN j L with
   | true => true
   | false => match Nat.blt j m with
    | true => allBelow j (fun i => memN i L || (M.getD j 0).testBit i || (match ops[i]? with
     | some x => x.apart ops o
     | none => false))
    | false => allBelow j (fun i => memN i L || (M.getD j 0).testBit i)))
structure DrawFacts (ops : Array Oper) (M : List Nat) (L : List Nat) (m : Nat) : Prop where
 hm : m ≤ ops.size
 edge : ∀ j o, ops[j]? = some o → ∀ e ∈ o.after, Region.binds .any e = true → e.on < j
 mask : ∀ j o i, ops[j]? = some o → (M.getD j 0).testBit i = true → ∃ e ∈ o.after, Region.binds .any e = true ∧ (e.on = i ∨ (M.getD e.on 0).testBit i = true)
 pre : ∀ i j x o, memN i L = false → memN j L = false → i < j → j < m → ops[i]? = some x → ops[j]? = some o → (M.getD j 0).testBit i = true ∨ x.apart ops o = true
 tail : ∀ i j, memN i L = false → memN j L = false → i < j → m ≤ j → j < ops.size → (M.getD j 0).testBit i = true
theorem drawOk.facts {ops : Array Oper} {M L : List Nat} {m : Nat} (h : drawOk ops M L m = true) : DrawFacts ops M L m := by
 simp only [drawOk, Bool.and_eq_true] at h
 obtain ⟨h0, h⟩ := h
 have hlt : ∀ j o, ops[j]? = some o → j < ops.size := fun j o ho => (Array.getElem?_eq_some_iff.1 ho).1
 have hj := fun j hj => allBelow_get h j hj
 refine ⟨Nat.le_of_ble_eq_true h0, fun j o ho e he hb => ?_, fun j o i ho hi => ?_, fun i j x o hiL hjL hij hjm hx ho => ?_, fun i j hiL hjL hij hmj hjs => ?_⟩
 · have := hj j (hlt j o ho)
   rw [ho] at this
   simp only [Bool.and_eq_true] at this
   exact edgesLt_get this.1.1 (by simpa using he) hb
 · have := hj j (hlt j o ho)
   rw [ho] at this
   simp only [Bool.and_eq_true] at this
   rw [Nat.eq_of_beq_eq_true this.1.2] at hi
   rcases upm_bit hi with h1 | ⟨e, h1, h2⟩
   · simp at h1
   · exact ⟨e, by simpa using h1, h2⟩
 · have := hj j (hlt j o ho)
   rw [ho] at this
   simp only [Bool.and_eq_true] at this
   have hb : Nat.blt j m = true := Nat.ble_eq_true_of_le hjm
   rw [hjL, hb] at this
   have h2 := allBelow_get this.2 i hij
   rw [hx, hiL] at h2
   simpa using h2
 · have ho : ops[j]? = some ops[j] := by simp [hjs]
   have := hj j hjs
   rw [ho] at this
   simp only [Bool.and_eq_true] at this
   have hb : Nat.blt j m = false := by
    cases hc : Nat.blt j m with
    | false => rfl
    | true => have := Nat.le_of_ble_eq_true hc; omega
   rw [hjL, hb] at this
   have h2 := allBelow_get this.2 i hij
   rw [hiL] at h2
   simpa using h2
def cnt (listed : Array Bool) : Nat := (listed.toList.filter (fun b => !b)).length
theorem cnt_set {listed : Array Bool} {i : Nat} (hi : listed[i]? = some false) : cnt (listed.setIfInBounds i true) + 1 = cnt listed := by
 unfold cnt
 rw [Array.toList_setIfInBounds]
 have hi' : listed.toList[i]? = some false := by simpa using hi
 clear hi
 generalize listed.toList = l at hi'
 induction l generalizing i with
 | nil => simp at hi'
 | cons b r ih =>
  cases i with
  | zero => simp at hi'; subst hi'; simp
  | succ i =>
   have := ih (i := i) (by simpa using hi')
   cases b <;> simp [List.filter_cons] <;> omega
theorem cnt_zero {listed : Array Bool} (h : cnt listed = 0) : ∀ i, i < listed.size → listed[i]? = some true := by
 intro i hi
 unfold cnt at h
 have h1 := List.eq_nil_of_length_eq_zero h
 have : listed.toList[i]? = some listed[i] := by simp [hi]
 cases hb : listed[i] with
 | true => simp [hi, hb]
 | false =>
  rw [hb] at this
  have h2 : (false : Bool) ∈ listed.toList.filter (fun b => !b) := List.mem_filter.2 ⟨List.mem_of_getElem? this, rfl⟩
  rw [h1] at h2; cases h2
theorem cnt_pos {listed : Array Bool} (h : 0 < cnt listed) : ∃ i : Nat, listed[i]? = some false ∧ ∀ k : Nat, k < i → listed[k]? = some true := by
 unfold cnt at h
 have : ∀ l : List Bool, 0 < (l.filter (fun b => !b)).length → ∃ i : Nat, l[i]? = some false ∧ ∀ k : Nat, k < i → l[k]? = some true := by
  intro l
  induction l with
  | nil => intro h; simp at h
  | cons b r ih =>
   intro h
   cases b with
   | false => exact ⟨0, rfl, fun k hk => by omega⟩
   | true =>
    obtain ⟨i, h1, h2⟩ := ih (by simpa using h)
    refine ⟨i + 1, by simpa using h1, fun k hk => ?_⟩
    cases k with
    | zero => rfl
    | succ k => simpa using h2 k (by omega)
 obtain ⟨i, h1, h2⟩ := this listed.toList h
 exact ⟨i, by simpa using h1, fun k hk => by simpa using h2 k hk⟩
theorem ready_mem {ops : Array Oper} {listed : Array Bool} {i : Nat} : i ∈ Region.ready .any ops listed ↔ i < ops.size ∧ listed.getD i true = false ∧ ∀ o, ops[i]? = some o → ∀ e ∈ o.after, Region.binds .any e = true → listed.getD e.on false = true := by
 unfold Region.ready
 simp only [List.mem_filter, List.mem_range, Bool.and_eq_true, Bool.not_eq_true']
 constructor
 · rintro ⟨h1, h2, h3⟩
   refine ⟨h1, h2, fun o ho e he hb => ?_⟩
   rw [ho] at h3
   simp only [Option.map_some, Option.getD_some] at h3
   have := Array.all_eq_true_iff_forall_mem.1 h3 e he
   simpa [hb] using this
 · rintro ⟨h1, h2, h3⟩
   refine ⟨h1, h2, ?_⟩
   have ho : ops[i]? = some ops[i] := by simp [h1]
   rw [ho]
   simp only [Option.map_some, Option.getD_some]
   refine Array.all_eq_true_iff_forall_mem.2 fun e he => ?_
   by_cases hb : Region.binds .any e = true
   · simp [hb, h3 _ ho e he hb]
   · simp [hb]
theorem guardOf_congr {ops : Array Oper} {Γ Γ' : Sy} {o : Oper} (h : ∀ t, t ∈ o.looksAt ops → get? Γ'.tmps t = get? Γ.tmps t) : guardOf (dstsOf ops) Γ' o.guard = guardOf (dstsOf ops) Γ o.guard := by
 cases hg : o.guard with
 | none => rfl
 | some x =>
  obtain ⟨j, b⟩ := x
  simp only [guardOf]
  cases hj : (dstsOf ops)[j]? with
  | none => rfl
  | some d =>
   cases d with
   | none => rfl
   | some t =>
    have : t ∈ o.looksAt ops := by
     unfold Oper.looksAt
     rw [hg]
     refine List.mem_append.2 (.inr ?_)
     simp only [dstsOf, List.getElem?_map] at hj
     obtain ⟨o', h1, h2⟩ := Option.map_eq_some_iff.1 hj
     have h3 : ops[j]? = some o' := by simpa using h1
     simp [h3, h2]
    simp only [h t this]
theorem look_congr {ops : Array Oper} {Γ Γ' : Sy} {o : Oper} (h : ∀ t, t ∈ o.looksAt ops → get? Γ'.tmps t = get? Γ.tmps t) : ∀ x ∈ o.op.operands, look Γ' x = look Γ x := by
 intro x hx
 cases x with
 | tmp t =>
  refine h t ?_
  unfold Oper.looksAt
  refine List.mem_append.2 (.inl (List.mem_filterMap.2 ⟨.tmp t, by simpa using hx, rfl⟩))
 | _ => rfl
def floatOk (ops : Array Oper) : List Nat → Array Bool → Bool
 | [], _ => true
 | i :: r, listed => Region.free .any ops listed i && (Region.ready .any ops listed).contains i && floatOk ops r (listed.setIfInBounds i true)
def listAll : List Nat → Array Bool → Array Bool
 | [], l => l
 | i :: r, l => listAll r (l.setIfInBounds i true)
theorem loadS.still {P : Program} {T : List (Nat × TE)} (hT : TOk P T) {c : Cx} {o : Oper} {Γ : Sy} {t : TypeId} {x : Operand} {fr : Bool} {B : SV} {K : AV → Prop} {G : Path} (ho : o.op = .load t x) (hx : Ev c Γ G x (.st fr (.sadr B))) (h : loadS T t fr B K) : ∃ R, (G.ok → Still P c o Γ R) ∧ K R := by
 obtain ⟨R, hK, hR⟩ := loadS.sound hT h
 refine ⟨R, fun hG Γ' g a w hl hown hst hfull => ?_, hK⟩
 have h1 := hx hG Γ' g a w (hl x (by simp [ho, Op.operands])) hst
 have h1' : RpS w (Av (Oset Γ'.own g) c.O0 fr) (a.eval x) (.sadr B) := h1
 have hrun : ∀ y w', (Instr.loadAt t (a.eval x)).run P w' = .ok y w' → (execOp a.eval o).run P w' = .ok (.value y) w' := fun y w' h => by simp [execOp, ho, h]
 revert hrun h1'
 generalize a.eval x = v
 intro h1' hrun
 cases h1' with
 | sadr b off _ y arr e fz hb hO hf hr =>
  refine ⟨y, fun w' hS => hrun y w' ?_, (hR w _ _ g y b off arr e fz hb hf hr).2⟩
  have keep : ∀ b x e fz, w.heap[b]? = some (.cells x e fz) → ¬ Av (Oset Γ'.own g) c.O0 fr b → w'.heap[b]? = some (.cells x e fz) ∧ ¬ Av (fun _ => False) (fun _ => False) fr b := fun b x e fz hb hn =>
   ⟨hS b (x, e, fz) (hfull b x e fz hb (fun h => hn (.inl h))), fun h => by rcases h with h | ⟨_, h⟩ <;> exact h⟩
  exact (hR w' (fun _ => False) (fun _ => False) g y b off arr e fz (keep b arr e fz hb hO).1 hf (hr.mono keep)).1
def floatVC (T : List (Nat × TE)) (n : Nat) (ops : Array Oper) : List Nat → Sy → (Sy → Prop) → Prop
 | [], Γ, K => K Γ
 | i :: r, Γ, K => match ops[i]? with
  | some o => match guardOf (dstsOf ops) Γ o.guard, o.dst with
   | some G, some t => match Nat.blt t n with
    | true => match o.op with
     | .move x => withOp Γ G x fun A => floatVC T n ops r (Γ.putB t (gd' G A)) K
     | .assign x => withOp Γ G x fun A => floatVC T n ops r (Γ.putB t (gd' G A)) K
     | .indexAddr ty x y => withOp Γ G x fun A => withOp Γ G y fun I => indexVC T Γ.own G ty A I fun R => floatVC T n ops r (Γ.putB t (gd' G R)) K
     | .fieldAddr s x f => withOp Γ G x fun A => fieldVC T s f A fun R => floatVC T n ops r (Γ.putB t (gd' G R)) K
     | .binOp op ty x y _ => withOp Γ G x fun A => withOp Γ G y fun B => binSVC T G op ty A B fun R => floatVC T n ops r (Γ.putB t (gd' G R)) K
     | .unOp op _ x => withOp Γ G x fun A => notVC op G A fun R => floatVC T n ops r (Γ.putB t (gd' G R)) K
     | .convert s e x => (get? T s).isSome = true ∧ withOp Γ G x fun A => convVC T G e A fun R => floatVC T n ops r (Γ.putB t (gd' G R)) K
     | .extract x i => withOp Γ G x fun A => extractVC A i fun R => floatVC T n ops r (Γ.putB t (gd' G R)) K
     | .nilCheck x => withOp Γ G x fun A => nilVC A fun R => floatVC T n ops r (Γ.putB t (gd' G R)) K
     | .pick z x y => pickVC Γ G z x y fun R => floatVC T n ops r (Γ.putB t (gd' G R)) K
     | .load ty x => withOp Γ G x fun A => match A with
      | .st fr (.sadr B) => loadS T ty fr B fun R => floatVC T n ops r (Γ.putB t (gd' G R)) K
      | _ => False
     | .slice ty x lo hi mx => withOp Γ G x fun A => match A with
      | .lit (.string s) => scutVC T Γ G ty s lo hi mx fun R => floatVC T n ops r (Γ.putB t (gd' G R)) K
      | A => cutSV T Γ G ty A lo hi mx fun R => floatVC T n ops r (Γ.putB t (gd' G R)) K
     | .call cl => match cl.callee with
      | .builtin .len => match cl.args.toList, cl.argTypes.toList with
       | [x], [ty] => withOp Γ G x fun A => match A with
        | .st fr S => lenVC T Γ.own ty (.st fr S) fun R => floatVC T n ops r (Γ.putB t (gd' G R)) K
        | _ => False
       | _, _ => False
      | .builtin b => withOps Γ G cl.args.toList fun l => minmaxVC b l fun R => floatVC T n ops r (Γ.putB t (gd' G R)) K
      | _ => False
     | _ => False
    | false => False
   | _, _ => False
  | none => False
theorem arr_of_one {α : Type} {xs : Array α} {x : α} (h : xs.toList = [x]) : xs = #[x] := by
 apply Array.ext'; simpa using h
theorem floats {P : Program} {T : List (Nat × TE)} (hT : TOk P T) {c : Cx} {ops : Array Oper} (hs : Region.noSelect ops = true) {Q : Exit → Act → World → Prop} (hQ : ∀ x a w, ¬ Q (.panic x) a w) {K : Sy → Prop} {g : Nat → Value} {w : World} {own : List (Nat × Ob)} (hfull : c.full w (Oset own g)) :
  ∀ (L : List Nat) (listed : Array Bool) (Γ : Sy) (a : Act) (fuel : Nat), Γ.own = own → floatOk ops L listed = true → floatVC T c.n ops L Γ K → St c Γ g a w →
    (∀ Γ' a', K Γ' → St c Γ' g a' w → wpAnyH P .any ops Q c.S fuel (listAll L listed) a' w) → wpAnyH P .any ops Q c.S (fuel + L.length) listed a w
 | [], listed, Γ, a, fuel, _, _, h, hst, hk => hk Γ a h hst
 | i :: r, listed, Γ, a, fuel, hown0, hok, h, hst, hk => by
  simp only [floatOk, Bool.and_eq_true] at hok
  obtain ⟨⟨h1, h2⟩, h3⟩ := hok
  simp only [floatVC] at h
  split at h
  · rename_i o ho
    split at h
    · rename_i G t hgd hd
      split at h
      · rename_i hlt
        have hwant := guardOf.wanted (ops := ops) hst hgd
        have step : ∀ R, (G.ok → Still P c o Γ R) → floatVC T c.n ops r (Γ.putB t (gd' G R)) K → wpAnyH P .any ops Q c.S (fuel + (i :: r).length) listed a w := by
         intro R hR hrest
         by_cases hG : G.ok
         · obtain ⟨v, h4, h5⟩ := hR hG Γ g a w (fun _ _ => rfl) (fun _ _ h => h) hst (by rw [hown0]; exact hfull)
           have hput : St c (Γ.putB t (gd' G R)) g (a.put (some t) v) w := hst.put (Nat.le_of_ble_eq_true hlt) (gd'_rp h5.ngd (fun _ => h5) (fun hn => absurd hG hn))
           refine wpAnyH_take (fuel := fuel + r.length) ho hs h1 h2 (fun x a' w' hq => absurd hq (hQ x _ _)) (v := v) (.inl ⟨hwant.2 hG, h4⟩) hst.s ?_
           rw [hd]
           exact floats hT hs hQ hfull r _ (Γ.putB t (gd' G R)) _ fuel hown0 h3 hrest hput hk
         · have hput : St c (Γ.putB t (gd' G R)) g (a.put (some t) undef) w := hst.put (Nat.le_of_ble_eq_true hlt) (by
            cases G with
            | nil => exact absurd trivial hG
            | cons x r' => exact ⟨fun h => absurd h hG, fun _ => rfl⟩)
           refine wpAnyH_take (fuel := fuel + r.length) ho hs h1 h2 (fun x a' w' hq => absurd hq (hQ x _ _)) (v := undef) (.inr ⟨by
            cases hw : Region.wanted o (yielded ops a.tmps) with
            | true => exact absurd (hwant.1 hw) hG
            | false => rfl, rfl⟩) hst.s ?_
           rw [hd]
           exact floats hT hs hQ hfull r _ (Γ.putB t (gd' G R)) _ fuel hown0 h3 hrest hput hk
        split at h
        · rename_i x hop
          obtain ⟨A, hA, h6⟩ := withOp.ev (c := c) h
          exact step A (fun hG => (Still0.move (.inl hop) hA hG).still) h6
        · rename_i x hop
          obtain ⟨A, hA, h6⟩ := withOp.ev (c := c) h
          exact step A (fun hG => (Still0.move (.inr hop) hA hG).still) h6
        · rename_i ty x y hop
          obtain ⟨A, hA, h6⟩ := withOp.ev (c := c) h
          obtain ⟨I, hI, h7⟩ := withOp.ev (c := c) h6
          obtain ⟨R, hR, h8⟩ := indexVC.any hT hop hA hI h7
          exact step R (fun hG => (hR hG).still) h8
        · rename_i s x f hop
          obtain ⟨A, hA, h6⟩ := withOp.ev (c := c) h
          obtain ⟨R, hR, h8⟩ := fieldVC.any hT hop hA h6
          exact step R (fun hG => (hR hG).still) h8
        · rename_i op ty x y ty' hop
          obtain ⟨A, hA, h6⟩ := withOp.ev (c := c) h
          obtain ⟨B, hB, h7⟩ := withOp.ev (c := c) h6
          obtain ⟨R, hR, h8⟩ := binSVC.any hT hop hA hB h7
          exact step R (fun hG => (hR hG).still) h8
        · rename_i op ty x hop
          obtain ⟨A, hA, h6⟩ := withOp.ev (c := c) h
          obtain ⟨R, hR, h8⟩ := notVC.any hop hA h6
          exact step R (fun hG => (hR hG).still) h8
        · rename_i s e x hop
          obtain ⟨hsm, h⟩ := h
          obtain ⟨A, hA, h6⟩ := withOp.ev (c := c) h
          obtain ⟨R, hR, h8⟩ := convVC.any hT hop (Option.isSome_iff_exists.1 hsm) hA h6
          exact step R (fun hG => (hR hG).still) h8
        · rename_i x i' hop
          obtain ⟨A, hA, h6⟩ := withOp.ev (c := c) h
          obtain ⟨R, hR, h8⟩ := extractVC.any hop hA h6
          exact step R (fun hG => (hR hG).still) h8
        · rename_i x hop
          obtain ⟨A, hA, h6⟩ := withOp.ev (c := c) h
          obtain ⟨R, hR, h8⟩ := nilVC.any hop hA h6
          exact step R (fun hG => (hR hG).still) h8
        · rename_i z x y hop
          obtain ⟨R, hR, h8⟩ := pickVC.any hop h
          exact step R (fun hG => (hR hG).still) h8
        · rename_i ty x hop
          obtain ⟨A, hA, h6⟩ := withOp.ev (c := c) h
          split at h6
          · rename_i fr B
            obtain ⟨R, hR, h8⟩ := loadS.still hT hop hA h6
            exact step R hR h8
          · exact h6.elim
        · rename_i ty x lo hi mx hop
          obtain ⟨A, hA, h6⟩ := withOp.ev (c := c) h
          split at h6
          · obtain ⟨R, hR, h8⟩ := scutVC.any hT hop hA h6
            exact step R (fun hG => (hR hG).still) h8
          obtain ⟨R, hR, h8⟩ := cutSV.any hT hop hA h6
          exact step R (fun hG => (hR hG).still) h8
        · rename_i cl hop
          split at h
          · rename_i hcl
            split at h
            · rename_i x ty hxs hts
              obtain ⟨A, hA, h6⟩ := withOp.ev (c := c) h
              split at h6
              · rename_i fr S
                have ho' : o.op = .call { callee := .builtin .len, args := #[x], argTypes := #[ty] } := by
                 rw [hop, ← arr_of_one hxs, ← arr_of_one hts, ← hcl]
                obtain ⟨R, hR, h8⟩ := lenVC.any hT ho' hA h6
                exact step R (fun hG => (hR hG).still) h8
              · exact h6.elim
            · exact h.elim
          · rename_i b _ hcl
            obtain ⟨l, hl, hxs, h6⟩ := withOps.ev (c := c) h
            have ho' : o.op = .call { callee := .builtin b, args := cl.args, argTypes := cl.argTypes } := by rw [hop, ← hcl]
            obtain ⟨R, hR, h8⟩ := minmaxVC.any ho' hl hxs h6
            exact step R (fun hG => (hR hG).still) h8
          · exact h.elim
        · exact h.elim
      · exact h.elim
    · exact h.elim
  · exact h.elim
theorem listAll_size : ∀ {L : List Nat} {l : Array Bool}, (listAll L l).size = l.size
 | [], l => rfl
 | i :: r, l => by simp [listAll, listAll_size (L := r)]
theorem listAll_get : ∀ {L : List Nat} {l : Array Bool} {k : Nat}, k < l.size → (listAll L l)[k]? = if memN k L then some true else l[k]?
 | [], l, k, _ => by simp [listAll, memN]
 | i :: r, l, k, hk => by
  have e : memN k (i :: r) = (Nat.beq i k || memN k r) := rfl
  rw [e]
  simp only [listAll]
  rw [listAll_get (by simpa using hk)]
  by_cases h : i = k
  · subst h
    simp [hk]
  · have : Nat.beq i k = false := by
     cases hb : Nat.beq i k with
     | false => rfl
     | true => exact absurd (Nat.eq_of_beq_eq_true hb) h
    simp only [this, Bool.false_or, Array.getElem?_setIfInBounds_ne h]
def listOnce (n : Nat) : List Nat → Bool
 | [] => true
 | i :: r => Nat.blt i n && !(memN i r) && listOnce n r
theorem cnt_listAll : ∀ {L : List Nat} {l : Array Bool} {n : Nat}, listOnce n L = true → l.size = n → (∀ i, memN i L = true → l[i]? = some false) → cnt (listAll L l) + L.length = cnt l
 | [], l, n, _, _, _ => rfl
 | i :: r, l, n, h, hn, hf => by
  simp only [listOnce, Bool.and_eq_true, Bool.not_eq_true'] at h
  have hi := hf i (by simp [memN])
  have h1 := cnt_set hi
  have h2 := cnt_listAll (L := r) (l := l.setIfInBounds i true) (n := n) h.2 (by simpa using hn) (fun k hk => by
   have : k ≠ i := fun e => by rw [e, h.1.2] at hk; cases hk
   rw [Array.getElem?_setIfInBounds_ne (Ne.symm this)]
   exact hf k (by simp [memN, hk]))
  simp only [listAll, List.length_cons]
  omega
theorem listAll_closed {ops : Array Oper} {M L : List Nat} {m : Nat} (F : DrawFacts ops M L m) (hf : floatOk ops L (Array.replicate ops.size false) = true) :
    ∀ j i, (listAll L (Array.replicate ops.size false))[j]? = some true → (M.getD j 0).testBit i = true → (listAll L (Array.replicate ops.size false)).getD i false = true := by
  have go : ∀ (L' : List Nat) (l : Array Bool), l.size = ops.size → floatOk ops L' l = true → (∀ j i, l[j]? = some true → (M.getD j 0).testBit i = true → l.getD i false = true) →
      ∀ j i, (listAll L' l)[j]? = some true → (M.getD j 0).testBit i = true → (listAll L' l).getD i false = true := by
    intro L'
    induction L' with
    | nil => intro l _ _ hcl; exact hcl
    | cons k r ih =>
      intro l hsz hok hcl
      simp only [floatOk, Bool.and_eq_true] at hok
      refine ih _ (by simpa using hsz) hok.2 fun j i hj hi => ?_
      have hk : k ∈ Region.ready .any ops l := by simpa using hok.1.2
      obtain ⟨hk1, hk2, hk3⟩ := ready_mem.1 hk
      have hget : ∀ q, (l.setIfInBounds k true)[q]? = if q = k then some true else l[q]? := by
        intro q
        by_cases hq : q = k
        · subst hq; simp [hsz, hk1]
        · rw [if_neg hq, Array.getElem?_setIfInBounds_ne (Ne.symm hq)]
      have up : l.getD i false = true → (l.setIfInBounds k true).getD i false = true := by
        intro h
        simp only [Array.getD_eq_getD_getElem?, hget] at h ⊢
        split
        · rfl
        · exact h
      rw [hget] at hj
      split at hj
      · rename_i e
        subst e
        have hok' : ops[j]? = some ops[j] := by simp [hk1]
        obtain ⟨e, he, hb, h1⟩ := F.mask j _ i hok' hi
        have h2 := hk3 _ hok' e he hb
        rcases h1 with rfl | h1
        · exact up h2
        · refine up (hcl e.on i ?_ h1)
          simp only [Array.getD_eq_getD_getElem?] at h2
          cases hb' : l[e.on]? with
          | none => rw [hb'] at h2; cases h2
          | some b => rw [hb'] at h2; simp at h2; rw [h2]
      · exact up (hcl j i hj hi)
  refine go L _ (by simp) hf fun j i hj => ?_
  simp [Array.getElem?_replicate] at hj
theorem region_draw {P : Program} {T : List (Nat × TE)} {Fz : List Nat} (hT : TOk P T) (hmx : P.follows .mixedOrders = true) {c : Cx} {ops : Array Oper} {M L : List Nat} {m : Nat} (hd : drawOk ops M L m = true)
    (hf : floatOk ops L (Array.replicate ops.size false) = true) (hsel : Region.noSelect ops = true) (honce : listOnce ops.size L = true) {K : Sy → Prop} {Γ : Sy}
    (h : floatVC T c.n ops L Γ fun Γ1 => opsVC P T Fz c.n (dstsOf ops) L ops.toList 0 m Γ1 K)
    {Q : Exit → Act → World → Prop} (hQp : ∀ x a w, ¬ Q (.panic x) a w) {g : Nat → Value} {a : Act} {w : World} (hst : St c Γ g a w) (hfull : c.full w (Oset Γ.own g)) (hQ : ∀ Γ' g' a' w', K Γ' → St c Γ' g' a' w' → Q .normal a' w') {id : Nat} : (Code.region id ops true).wp P Q a w := by
  have F := drawOk.facts hd
  have hLlt : ∀ k, memN k L = true → k < ops.size := by
    have : ∀ (L : List Nat), listOnce ops.size L = true → ∀ k, memN k L = true → k < ops.size := by
      intro L
      induction L with
      | nil => intro _ k hk; cases hk
      | cons i r ih =>
        intro h1 k hk
        simp only [listOnce, Bool.and_eq_true] at h1
        simp only [memN, Bool.or_eq_true] at hk
        rcases hk with hk | hk
        · rw [← Nat.eq_of_beq_eq_true hk]; exact Nat.le_of_ble_eq_true h1.1.1
        · exact ih h1.2 k hk
    exact this L honce
  -- the floats first
  have hLlen : L.length ≤ ops.size := by
    have := cnt_listAll (L := L) (l := Array.replicate ops.size false) honce (by simp) (fun i hi => by simp [hLlt i hi])
    simp [cnt, List.filter_replicate] at this
    omega
  refine wp_region_held (S := c.S) hmx ?_
  have hgo := floats (P := P) (w := { w with drawn := w.drawn + 1 }) hT hsel hQp hfull L (Array.replicate ops.size false) Γ a (ops.size - L.length) rfl hf h (hst.keepW (Keep.drew w))
  rw [Nat.sub_add_cancel hLlen] at hgo
  refine hgo fun Γ a h hst => ?_
  clear hgo
  obtain ⟨Γs, e1, e2, e3⟩ := opsVC.trace hT ops.toList m 0 Γ (by simp) h
  have pre : ∀ j, j < m → memN j L = false → Nonempty (PreOk P c ops j (Γs j) (Γs (j + 1))) := fun j hj hjL => ((e3 j (by omega) (by have := F.hm; omega)).2 hjL).1 (by omega)
  let pk : ∀ j, j < m → memN j L = false → PreOk P c ops j (Γs j) (Γs (j + 1)) := fun j hj hjL => Classical.choice (pre j hj hjL)
  let tb : Nat → Nat × AV := fun j => if hj : j < m ∧ memN j L = false then ((pk j hj.1 hj.2).t, gd' (pk j hj.1 hj.2).G (pk j hj.1 hj.2).A) else (0, .any)
  have htb : ∀ j (hj : j < m) (hjL : memN j L = false), tb j = ((pk j hj hjL).t, gd' (pk j hj hjL).G (pk j hj hjL).A) := fun j hj hjL => by simp [tb, hj, hjL]
  let E : Nat → Bool := fun k => !(memN k L)
  -- the text's states
  have text : ∀ j, j ≤ m → Γs j = ⟨fD tb E Γ.tmps j, Γ.own⟩ := by
    intro j
    induction j with
    | zero => intro _; rw [e1]; rfl
    | succ j ih =>
      intro hj
      have ih' := ih (by omega)
      cases hjL : memN j L with
      | true =>
        rw [(e3 j (by omega) (by have := F.hm; omega)).1 hjL, ih']
        simp [fD, E, hjL]
      | false =>
        have h1 := congrArg Sy.tmps ih'
        have h2 := congrArg Sy.own ih'
        have h3 := (pk j (by omega) hjL).hΓ
        rw [h3]
        have hEj : E j = true := by simp [E, hjL]
        simp only [fD, hEj, if_true, htb j (by omega) hjL]
        dsimp only at h1 h2
        rw [← h2]
        congr 1
        rw [← h1]
  -- over those of L nothing happens
  have skip : ∀ q i, q ≤ i → i ≤ ops.size → (∀ k, q ≤ k → k < i → memN k L = true) → Γs i = Γs q := by
    intro q i hqi
    induction i with
    | zero => intro _ _; have : q = 0 := by omega
              rw [this]
    | succ i ih =>
      intro hi hk
      by_cases e : q = i + 1
      · rw [e]
      · rw [(e3 i (by omega) (by omega)).1 (hk i (by omega) (by omega))]
        exact ih (by omega) (by omega) (fun k h1 h2 => hk k h1 (by omega))
  let dn : Array Bool → Nat → Bool := fun listed j => listed.getD j false && E j
  have key : ∀ (fuel : Nat) (listed : Array Bool) (g : Nat → Value) (a : Act) (w : World), listed.size = ops.size → cnt listed = fuel → (∀ k, memN k L = true → listed[k]? = some true) →
      (∀ j i, listed[j]? = some true → (M.getD j 0).testBit i = true → listed.getD i false = true) →
      (((∀ j, m ≤ j → j < ops.size → memN j L = false → listed[j]? = some false) ∧ St c ⟨fD tb (dn listed) Γ.tmps m, Γ.own⟩ g a w) ∨
        ∃ q, m ≤ q ∧ q ≤ ops.size ∧ (∀ j, j < q → listed[j]? = some true) ∧ (∀ j, q ≤ j → j < ops.size → memN j L = false → listed[j]? = some false) ∧ St c (Γs q) g a w) →
      wpAnyH P .any ops Q c.S fuel listed a w := by
    intro fuel
    induction fuel with
    | zero =>
      intro listed g a w hsz hc hLl hcl hs
      have hall := cnt_zero hc
      have hrd : Region.ready .any ops listed = [] := by
        refine List.eq_nil_iff_forall_not_mem.2 fun i hi => ?_
        obtain ⟨h1, h2, _⟩ := ready_mem.1 hi
        have := hall i (by omega)
        simp [Array.getD_eq_getD_getElem?, this] at h2
      refine ⟨hrd, ?_⟩
      have fin : ∀ q, q ≤ ops.size → (∀ j, q ≤ j → j < ops.size → memN j L = false → listed[j]? = some false) → St c (Γs q) g a w → Q .normal a w := by
        intro q hq h1 h2
        have : Γs ops.size = Γs q := skip q ops.size hq (Nat.le_refl _) (fun k h3 h4 => by
          cases hk : memN k L with
          | true => rfl
          | false => have h5 := h1 k h3 h4 hk; rw [hall k (by omega)] at h5; cases h5)
        exact hQ _ g a w e2 (by rw [this]; exact h2)
      rcases hs with ⟨h1, h2⟩ | ⟨q, h1, h2, h3, h4, h5⟩
      · refine fin m F.hm h1 ?_
        rw [text m (Nat.le_refl _)]
        refine h2.congr (fun t => ?_) (fun _ => rfl)
        refine (fD_text (j := m) (Nat.le_refl _) (fun k hk _ => ?_)).symm
        have hm := F.hm
        simp [dn, Array.getD_eq_getD_getElem?, hall k (by omega), hk]
      · exact fin q h2 h4 h5
    | succ fuel ih =>
      intro listed g a w hsz hc hLl hcl hs
      refine ⟨fun hrd => ?_, fun i hi => ?_⟩
      · -- something is ready
        obtain ⟨i, h1, h2⟩ := cnt_pos (listed := listed) (by omega)
        have hi : i < ops.size := by rw [← hsz]; exact (Array.getElem?_eq_some_iff.1 h1).1
        have : i ∈ Region.ready .any ops listed := ready_mem.2 ⟨hi, by simp [Array.getD_eq_getD_getElem?, h1], fun o ho e he hb => by
          have := h2 e.on (F.edge i o ho e he hb)
          simp [Array.getD_eq_getD_getElem?, this]⟩
        rw [hrd] at this; cases this
      · obtain ⟨hi, hli, hpre⟩ := ready_mem.1 hi
        have hlf : listed[i]? = some false := by
          have : i < listed.size := by omega
          simp only [Array.getD_eq_getD_getElem?] at hli
          cases hb : listed[i]? with
          | none => rw [hb] at hli; cases hli
          | some b => rw [hb] at hli; simp at hli; rw [hli]
        have hlf' : listed.getD i false = false := by simp [Array.getD_eq_getD_getElem?, hlf]
        have hiL : memN i L = false := by
          cases hb : memN i L with
          | false => rfl
          | true => rw [hLl i hb] at hlf; cases hlf
        have hoi : ops[i]? = some ops[i] := by simp [hi]
        have hmask : ∀ k, (M.getD i 0).testBit k = true → listed.getD k false = true := by
          intro k hk
          obtain ⟨e, he, hb, h1⟩ := F.mask i _ k hoi hk
          have h2 := hpre _ hoi e he hb
          rcases h1 with rfl | h1
          · exact h2
          · refine hcl e.on k ?_ h1
            simp only [Array.getD_eq_getD_getElem?] at h2
            cases hb' : listed[e.on]? with
            | none => rw [hb'] at h2; cases h2
            | some b => rw [hb'] at h2; simp at h2; rw [h2]
        have hsz' : (listed.setIfInBounds i true).size = ops.size := by simp [hsz]
        have hc' : cnt (listed.setIfInBounds i true) = fuel := by have := cnt_set hlf; omega
        have hget : ∀ k, (listed.setIfInBounds i true)[k]? = if k = i then some true else listed[k]? := by
          intro k
          by_cases hk : k = i
          · subst hk; simp [hsz, hi]
          · rw [if_neg hk, Array.getElem?_setIfInBounds_ne (Ne.symm hk)]
        have hgetD : ∀ k, (listed.setIfInBounds i true).getD k false = if k = i then true else listed.getD k false := by
          intro k
          simp only [Array.getD_eq_getD_getElem?, hget]
          split <;> rfl
        have hLl' : ∀ k, memN k L = true → (listed.setIfInBounds i true)[k]? = some true := by
          intro k hk
          rw [hget]
          split
          · rfl
          · exact hLl k hk
        have hcl' : ∀ j k, (listed.setIfInBounds i true)[j]? = some true → (M.getD j 0).testBit k = true → (listed.setIfInBounds i true).getD k false = true := by
          intro j k hj hk
          rw [hgetD]
          split
          · rfl
          · rw [hget] at hj
            split at hj
            · rename_i e; rw [e] at hk; exact hmask k hk
            · exact hcl j k hj hk
        have toGet : ∀ k, listed.getD k false = true → listed[k]? = some true := by
          intro k hk
          simp only [Array.getD_eq_getD_getElem?] at hk
          cases hb' : listed[k]? with
          | none => rw [hb'] at hk; cases hk
          | some b => rw [hb'] at hk; simp at hk; rw [hk]
        -- which phase
        have phase2 : ∀ q, m ≤ q → q ≤ ops.size → (∀ j, j < q → listed[j]? = some true) → (∀ j, q ≤ j → j < ops.size → memN j L = false → listed[j]? = some false) → St c (Γs q) g a w → wpOp P ops Q i (fun a' w' => c.S w' ∧ wpAnyH P .any ops Q c.S fuel (listed.setIfInBounds i true) a' w') a w := by
          intro q h1 h2 h3 h4 h5
          have hge : q ≤ i := by
            rcases Nat.lt_or_ge i q with h6 | h6
            · rw [h3 i h6] at hlf; cases hlf
            · exact h6
          have hbet : ∀ k, q ≤ k → k < i → memN k L = true := by
            intro k hk1 hk2
            cases hk : memN k L with
            | true => rfl
            | false =>
              have h7 := hmask k (F.tail k i hk hiL hk2 (by omega) hi)
              have h8 := h4 k hk1 (by omega) hk
              simp [Array.getD_eq_getD_getElem?, h8] at h7
          have hsk := skip q i hge (by omega) hbet
          refine ((e3 i (by omega) hi).2 hiL).2 (by omega) Q g a w _ (by rw [hsk]; exact h5) fun g' a' w' h6 => ⟨h6.s, ?_⟩
          refine ih _ g' a' w' hsz' hc' hLl' hcl' (.inr ⟨i + 1, by omega, by omega, fun j hj => ?_, fun j hj hj2 hjL => ?_, h6⟩)
          · rw [hget]
            split
            · rfl
            · rcases Nat.lt_or_ge j q with h7 | h7
              · exact h3 j h7
              · exact hLl j (hbet j h7 (by omega))
          · rw [hget, if_neg (by omega)]
            exact h4 j (by omega) hj2 hjL
        rcases hs with ⟨h1, h2⟩ | ⟨q, h1, h2, h3, h4, h5⟩
        · by_cases him : i < m
          · -- one of the first ones
            have dstOf : ∀ k (hk : k < m) (hkL : memN k L = false), ops[k]? = some (pk k hk hkL).o ∧ (pk k hk hkL).o.dst = some (tb k).1 := fun k hk hkL => ⟨(pk k hk hkL).ho, by rw [(pk k hk hkL).ht, htb k hk hkL]⟩
            have hlook : ∀ t, t ∈ (ops[i]).looksAt ops → get? (fD tb (dn listed) Γ.tmps m) t = get? (Γs i).tmps t := by
              intro t ht
              rw [text i (by omega)]
              refine fD_text (by omega) fun k hk hkt => ?_
              cases hkL : memN k L with
              | true => simp [dn, E, hkL]
              | false =>
                have hks : k < ops.size := by have := F.hm; omega
                have hok : ops[k]? = some ops[k] := by simp [hks]
                have hdk : (ops[k]).dst = some t := by
                  obtain ⟨h6, h7⟩ := dstOf k hk hkL
                  rw [Option.some.inj (hok.symm.trans h6), h7, hkt]
                have hE : E k = true := by simp [E, hkL]
                rcases Nat.lt_trichotomy k i with h6 | h6 | h6
                · have : listed.getD k false = true := by
                    rcases F.pre k i _ _ hkL hiL h6 him hok hoi with h7 | h7
                    · exact hmask k h7
                    · exact absurd ht ((Oper.apart_spec h7).1 t hdk)
                  simp only [dn, this, hE, h6, decide_true, Bool.and_self]
                · subst h6
                  simp only [dn, hlf', Bool.false_and, Nat.lt_irrefl, decide_false]
                · have : listed.getD k false = false := by
                    cases hb : listed.getD k false with
                    | false => rfl
                    | true =>
                      rcases F.pre i k _ _ hiL hkL h6 hk hoi hok with h7 | h7
                      · have h8 := hcl k i (toGet k hb) h7
                        rw [hlf'] at h8; cases h8
                      · exact absurd ht ((Oper.apart_spec h7).2.2 t hdk)
                  have h7 : decide (k < i) = false := by simp; omega
                  simp only [dn, this, Bool.false_and, h7]
            have hpo : (pk i him hiL).o = ops[i] := Option.some.inj ((pk i him hiL).ho.symm.trans hoi)
            have hstep := add_step (P := P) (c := c) (ops := ops) (j := i) (Γ := Γs i) (Γ' := ⟨fD tb (dn listed) Γ.tmps m, Γ.own⟩) (N := []) (pk i him hiL).ho (pk i him hiL).ht (pk i him hiL).hn
              (by rw [guardOf_congr (Γ := Γs i) (by rw [hpo]; exact hlook)]; exact (pk i him hiL).hG) (pk i him hiL).hA (fun _ => rfl) (look_congr (by rw [hpo]; exact hlook))
              (fun k b hk => by rw [text i (by omega)] at hk; exact hk) (fun k b hk => by cases hk)
            refine hstep Q g a w _ h2 fun g' a' w' h6 => ⟨h6.s, ?_⟩
            refine ih _ g' a' w' hsz' hc' hLl' hcl' (.inl ⟨fun j hj hj2 hjL => by rw [hget, if_neg (by omega)]; exact h1 j hj hj2 hjL, ?_⟩)
            refine h6.congr (fun t => ?_) (fun _ => rfl)
            have hEi : E i = true := by simp [E, hiL]
            have h7 := fD_add (tb := tb) (l0 := Γ.tmps) (j := i) (D := dn listed) (D' := dn (listed.setIfInBounds i true)) (by simp only [dn, hgetD, if_true, hEi, Bool.and_self]) (fun k hk => by simp only [dn, hgetD, if_neg hk]) (m := m) t him (by simp only [dn, hlf', Bool.false_and]) (fun k hk hki hkt hDk => by
              rcases Nat.lt_or_ge k i with h8 | h8
              · exact h8
              · have hik : i < k := by omega
                simp only [dn, Bool.and_eq_true] at hDk
                have hkL : memN k L = false := by
                  have := hDk.2
                  simp only [E, Bool.not_eq_true'] at this
                  exact this
                obtain ⟨hok, hd2⟩ := dstOf k hk hkL
                obtain ⟨hoi', hd1⟩ := dstOf i him hiL
                rcases F.pre i k _ _ hiL hkL hik hk hoi' hok with h9 | h9
                · have h10 := hcl k i (toGet k hDk.1) h9
                  rw [hlf'] at h10; cases h10
                · exact absurd (by rw [hd2, hkt]) ((Oper.apart_spec h9).2.1 _ hd1))
            rw [h7, get?_set, htb i him hiL]
          · -- the rest has begun
            have hall : ∀ j, j < m → listed[j]? = some true := by
              intro j hj
              cases hjL : memN j L with
              | true => exact hLl j hjL
              | false => exact toGet j (hmask j (F.tail j i hjL hiL (by omega) (by omega) hi))
            refine phase2 m (Nat.le_refl _) F.hm hall h1 ?_
            rw [text m (Nat.le_refl _)]
            refine h2.congr (fun t => ?_) (fun _ => rfl)
            refine (fD_text (j := m) (Nat.le_refl _) (fun k hk _ => ?_)).symm
            simp [dn, Array.getD_eq_getD_getElem?, hall k hk, hk]
        · exact phase2 q h1 h2 h3 h4 h5
  have hcn := cnt_listAll (L := L) (l := Array.replicate ops.size false) honce (by simp) (fun i hi => by simp [hLlt i hi])
  have hcr : cnt (Array.replicate ops.size false) = ops.size := by simp [cnt, List.filter_replicate]
  refine key (ops.size - L.length) (listAll L (Array.replicate ops.size false)) g a _ (by rw [listAll_size]; simp) (by omega) (fun k hk => by rw [listAll_get (by simpa using hLlt k hk), hk]; rfl) ?_ (.inl ⟨fun j _ hj hjL => by rw [listAll_get (by simpa using hj), hjL]; simp [hj], ?_⟩)
  · -- what is listed has all before it
    exact listAll_closed F hf
  · refine hst.congr (fun t => ?_) (fun _ => rfl)
    have : ∀ n, n ≤ ops.size → fD tb (dn (listAll L (Array.replicate ops.size false))) Γ.tmps n = Γ.tmps := by
      intro n
      induction n with
      | zero => intro _; rfl
      | succ n ih =>
        intro hn
        simp only [fD]
        rw [if_neg, ih (by omega)]
        simp only [dn, Array.getD_eq_getD_getElem?]
        rw [listAll_get (by simp; omega)]
        cases hL : memN n L with
        | true => simp [E, hL]
        | false => simp [show n < ops.size by omega]
    rw [this m F.hm]
set_option linter.unusedSectionVars false
abbrev Ren := List (Nat × Option Nat)
def notIn (k : Nat) : Ren → Bool
 | [] => true
 | (_, some j) :: r => !(Nat.beq j k) && notIn k r
 | (_, none) :: r => notIn k r
def nodupR : Ren → Bool
 | [] => true
 | (_, some j) :: r => notIn j r && nodupR r
 | (_, none) :: r => nodupR r
def Ty.flat : Ty → Bool
 | .int _ => true
 | .bool => true
 | .str => true
 | .nil => true
 | .cons h t => Ty.flat h && Ty.flat t
 | .sl _ => false
theorem flat_both {w : World} {O O' : Nat → Prop} : ∀ {t : Ty}, Ty.flat t = true → (∀ (x : t.T) (v : Value), RpS w O v (t.enc x) → RpS w O' v (t.enc x)) ∧ ∀ (x : t.T) (i : Nat) (B : SV), (t.encL x)[i]? = some B → ∀ v, RpS w O v B → RpS w O' v B
  | .int k, _ => ⟨fun x v h => by cases h with | lit _ h => exact .lit _ h, fun x i B h => by simp [Ty.encL] at h⟩
  | .bool, _ => ⟨fun x v h => by cases h with | lit _ h => exact .lit _ h, fun x i B h => by simp [Ty.encL] at h⟩
  | .str, _ => ⟨fun x v h => by cases h with | lit _ h => exact .lit _ h, fun x i B h => by simp [Ty.encL] at h⟩
  | .sl t, h => by cases h
  | .nil, _ => ⟨fun x v h => by
      have h : RpS w O v (.agg []) := h
      cases h with | agg cs l f hs hf hr => exact .agg cs [] f hs hf fun i B hB => by simp at hB, fun x i B h => by simp [Ty.encL] at h⟩
  | .cons h t, hf => by
    have hf : (Ty.flat h && Ty.flat t) = true := hf
    rw [Bool.and_eq_true] at hf
    have key : ∀ (x : (Ty.cons h t).T) (i : Nat) (B : SV), (h.enc x.1 :: t.encL x.2)[i]? = some B → ∀ v, RpS w O v B → RpS w O' v B := fun x i B hB v hv => by
      cases i with
      | zero =>
        simp at hB
        subst hB
        exact (flat_both (t := h) hf.1).1 x.1 v hv
      | succ i => exact (flat_both (t := t) hf.2).2 x.2 i B (by simpa using hB) v hv
    refine ⟨fun x v hv => ?_, fun x i B hB v hv => key x i B hB v hv⟩
    have hv : RpS w O v (.agg (h.enc x.1 :: t.encL x.2)) := hv
    cases hv with
    | agg cs l f hs hf hr => exact .agg cs _ f hs hf fun i B hB => key x i B hB _ (hr i B hB)
theorem flat_mono {w : World} {O O' : Nat → Prop} {v : Value} {t : Ty} {x : t.T} (hf : Ty.flat t = true) (h : RpS w O v (t.enc x)) : RpS w O' v (t.enc x) :=
 (flat_both hf).1 x v h
def matchE (own : List (Nat × Ob)) (ρ : Ren) (fr' : Bool) (A : AV) (B : SV) : Prop := match A with
 | .lit v => match B with
  | .lit u => v = u
  | .arr _ ys => v = .slice none 0 0 ∧ ys = []
  | _ => False
 | .st fr S => (fr' = true → fr = true) ∧ S = B
 | .own k => match get? own k with
  | some (.row _ t fr xs) => notIn k ρ = true ∧ (fr' = true → (fr || Ty.flat t) = true) ∧ SV.arr t xs = B
  | _ => False
 | .mown k => match get? own k with
  | some (.mat _ _ t fr xs none) => notIn k ρ = true ∧ (fr' = true → (fr || Ty.flat t) = true) ∧ SV.arr (.sl t) xs = B
  | _ => False
 | _ => False
def matchB (own : List (Nat × Ob)) (ρ : Ren) (fr' : Bool) : List AV → List SV → Prop
 | [], [] => True
 | A :: r, B :: m => matchE own ρ fr' A B ∧ matchB own ρ fr' r m
 | _, _ => False
def match1 (own : List (Nat × Ob)) (ρ : Ren) (A A' : AV) : Prop := match A' with
 | .any => True
 | .lit u => match A with
  | .lit v => v = u
  | _ => False
 | .own k' => match A with
  | .own k => get? ρ k' = some (some k)
  | .lit (.slice none 0 0) => get? ρ k' = some none
  | _ => False
 | .padr k' j' => match A with
  | .padr k j => get? ρ k' = some (some k) ∧ j = j'
  | _ => False
 | .oadr k' es' i' j' => match A with
  | .oadr k es i j => get? ρ k' = some (some k) ∧ es = es' ∧ j = j' ∧ i = i'
  | _ => False
 | .mown k' => match A with
  | .mown k => get? ρ k' = some (some k)
  | _ => False
 | .st fr' S' => match A with
  | .st fr S => (fr' = true → fr = true) ∧ (S = S' ∨ match S, S' with
   | .narr t xs, .arr t' ys => SV.arr t xs = .arr t' ys
   | .arr t xs, .narr t' ys => SV.arr t xs = .arr t' ys ∧ xs ≠ []
   | _, _ => False)
  | .lit (.slice none 0 0) => match S' with
   | .arr _ ys => ys = []
   | .narr _ ys => ys = []
   | _ => False
  | .lit v => S' = .lit v
  | .own k => match get? own k with
   | some (.row _ t fr xs) => notIn k ρ = true ∧ (fr' = true → (fr || Ty.flat t) = true) ∧ match S' with
    | .arr t' ys => SV.arr t xs = .arr t' ys
    | .narr t' ys => SV.arr t xs = .arr t' ys ∧ xs ≠ []
    | _ => False
   | _ => False
  | .mown k => match get? own k with
   | some (.mat _ _ t fr xs none) => notIn k ρ = true ∧ (fr' = true → (fr || Ty.flat t) = true) ∧ match S' with
    | .arr t' ys => SV.arr (.sl t) xs = .arr t' ys
    | _ => False
   | _ => False
  | .padr k j => match j, S' with
   | 0, .sadr (.agg m) => match get? own k with
    | some (.box l) => notIn k ρ = true ∧ matchB own ρ fr' l m
    | _ => False
   | 0, .sadr B => match get? own k with
    | some (.box1 A) => notIn k ρ = true ∧ B.isAgg = false ∧ matchE own ρ fr' A B
    | _ => False
   | _, _ => False
  | _ => False
 | _ => False
def matchL (own : List (Nat × Ob)) (ρ : Ren) : List AV → List AV → Prop
 | [], [] => True
 | A :: r, A' :: r' => match1 own ρ A A' ∧ matchL own ρ r r'
 | _, _ => False
def matchM (own : List (Nat × Ob)) (ρ : Ren) (A A' : AV) : Prop := match A' with
 | .strct l' => match A with
  | .strct l => matchL own ρ l l'
  | .st fr (.agg l) => matchL own ρ (upL fr l) l'
  | _ => False
 | A' => match1 own ρ A A'
def matchML (own : List (Nat × Ob)) (ρ : Ren) : List AV → List AV → Prop
 | [], [] => True
 | A :: r, A' :: r' => matchM own ρ A A' ∧ matchML own ρ r r'
 | _, _ => False
def match2 (own : List (Nat × Ob)) (ρ : Ren) (A A' : AV) : Prop := match A' with
 | .tup l' => match A with
  | .tup l => matchML own ρ l l'
  | _ => False
 | .fn f' l' => match A with
  | .fn f l => f = f' ∧ matchL own ρ l l'
  | _ => False
 | A' => matchM own ρ A A'
def matchL2 (own : List (Nat × Ob)) (ρ : Ren) : List AV → List AV → Prop
 | [], [] => True
 | A :: r, A' :: r' => match2 own ρ A A' ∧ matchL2 own ρ r r'
 | _, _ => False
def matchO (own : List (Nat × Ob)) (ρ : Ren) (k' : Nat) (o' : Ob) : Prop := match get? ρ k' with
 | some (some k) => match get? own k, o' with
  | some (.row e t fr xs), .row e' t' fr' ys => e = e' ∧ (fr' = true → (fr || Ty.flat t) = true) ∧ SV.arr t xs = .arr t' ys
  | some (.mat e1 e2 t fr xs st), .mat e1' e2' t' fr' ys st' => e1 = e1' ∧ e2 = e2' ∧ (fr' = true → (fr || Ty.flat t) = true) ∧ SV.arr (.sl t) xs = .arr (.sl t') ys ∧ st = st'
  | some (.box l), .box l' => matchL2 own ρ l l'
  | some (.box1 A), .box1 A' => match2 own ρ A A'
  | some (.mp kk t m n), .mp kk' t' m' n' => Ob.mp kk t m n = .mp kk' t' m' n'
  | some (.que e kk xs), .que e' kk' ys => e = e' ∧ kk = kk' ∧ xs = ys
  | some (.sit s p), .sit s' p' => Ob.sit s p = .sit s' p'
  | some (.mps l), .mps l' => l = l'
  | some (.mit km st), .mit km' st' => get? ρ km' = some (some km) ∧ st = st'
  | some (.row e t fr xs), .que e' kk' ys => e = e' ∧ xs ≠ [] ∧ SV.arr t xs = .arr (.int kk') ys
  | _, _ => False
 | some none => match o' with
  | .row _ _ _ ys => ys = []
  | _ => False
 | none => False
def matchOs (own : List (Nat × Ob)) (ρ : Ren) : List (Nat × Ob) → Prop
 | [] => True
 | (k', o') :: r => matchO own ρ k' o' ∧ matchOs own ρ r
theorem matchL_get {own : List (Nat × Ob)} {ρ : Ren} : ∀ {l l' : List AV}, matchL own ρ l l' → l.length = l'.length ∧ ∀ (i : Nat) (A' : AV), l'[i]? = some A' → ∃ A, l[i]? = some A ∧ match1 own ρ A A'
 | [], [], _ => ⟨rfl, fun i A h => by simp at h⟩
 | A :: r, A' :: r', h => by
  obtain ⟨h1, h2⟩ := matchL_get h.2
  refine ⟨by simp [h1], fun i B hB => ?_⟩
  cases i with
  | zero => simp at hB; subst hB; exact ⟨A, rfl, h.1⟩
  | succ i => obtain ⟨C, h3, h4⟩ := h2 i B (by simpa using hB); exact ⟨C, by simpa using h3, h4⟩
 | [], _ :: _, h => h.elim
 | _ :: _, [], h => h.elim
theorem matchML_get {own : List (Nat × Ob)} {ρ : Ren} : ∀ {l l' : List AV}, matchML own ρ l l' → l.length = l'.length ∧ ∀ (i : Nat) (A' : AV), l'[i]? = some A' → ∃ A, l[i]? = some A ∧ matchM own ρ A A'
 | [], [], _ => ⟨rfl, fun i A h => by simp at h⟩
 | A :: r, A' :: r', h => by
  obtain ⟨h1, h2⟩ := matchML_get h.2
  refine ⟨by simp [h1], fun i B hB => ?_⟩
  cases i with
  | zero => simp at hB; subst hB; exact ⟨A, rfl, h.1⟩
  | succ i => obtain ⟨C, h3, h4⟩ := h2 i B (by simpa using hB); exact ⟨C, by simpa using h3, h4⟩
 | [], _ :: _, h => h.elim
 | _ :: _, [], h => h.elim
theorem match2_mk {own : List (Nat × Ob)} {ρ : Ren} {A A' : AV} (h : match2 own ρ A A') (hm : mkA A' = true) : mkA A = true := by
 cases A' with
 | lit u => cases A with
  | lit v =>
   have h : v = u := h
   rw [h]; exact hm
  | _ => exact h.elim
 | padr k j => cases A with
  | padr k j => rfl
  | _ => exact h.elim
 | _ => cases hm
theorem matchL2_get {own : List (Nat × Ob)} {ρ : Ren} : ∀ {l l' : List AV}, matchL2 own ρ l l' → l.length = l'.length ∧ ∀ (i : Nat) (A' : AV), l'[i]? = some A' → ∃ A, l[i]? = some A ∧ match2 own ρ A A'
 | [], [], _ => ⟨rfl, fun i A h => by simp at h⟩
 | A :: r, A' :: r', h => by
  obtain ⟨h1, h2⟩ := matchL2_get h.2
  refine ⟨by simp [h1], fun i B hB => ?_⟩
  cases i with
  | zero => simp at hB; subst hB; exact ⟨A, rfl, h.1⟩
  | succ i => obtain ⟨C, h3, h4⟩ := h2 i B (by simpa using hB); exact ⟨C, by simpa using h3, h4⟩
 | [], _ :: _, h => h.elim
 | _ :: _, [], h => h.elim
theorem matchOs_get {own : List (Nat × Ob)} {ρ : Ren} : ∀ {l : List (Nat × Ob)} {k : Nat} {o : Ob}, matchOs own ρ l → get? l k = some o → matchO own ρ k o
 | [], k, o, _, h => by cases h
 | (k', o') :: r, k, o, hl, h => by
  simp only [get?] at h
  split at h
  · rename_i hb
    cases h
    rw [← Nat.eq_of_beq_eq_true hb]
    exact hl.1
  · exact matchOs_get hl.2 h
def gR (ρ : Ren) (g : Nat → Value) : Nat → Value := fun k' => match get? ρ k' with
 | some (some k) => g k
 | some none => .slice none 0 0
 | none => g k'
theorem notIn_get {k : Nat} : ∀ {ρ : Ren} {k' j : Nat}, notIn k ρ = true → get? ρ k' = some (some j) → j ≠ k
 | [], k', j, _, h => by cases h
 | (a, some b) :: r, k', j, hl, h => by
  simp only [notIn, Bool.and_eq_true, Bool.not_eq_true'] at hl
  simp only [get?] at h
  split at h
  · cases h; exact Nat.ne_of_beq_eq_false hl.1
  · exact notIn_get hl.2 h
 | (a, none) :: r, k', j, hl, h => by
  simp only [notIn] at hl
  simp only [get?] at h
  split at h
  · cases h
  · exact notIn_get hl h
theorem nodupR_inj : ∀ {ρ : Ren} {k1 k2 j : Nat}, nodupR ρ = true → get? ρ k1 = some (some j) → get? ρ k2 = some (some j) → k1 = k2
 | [], k1, k2, j, _, h, _ => by cases h
 | (a, some b) :: r, k1, k2, j, hl, h1, h2 => by
  simp only [nodupR, Bool.and_eq_true] at hl
  simp only [get?] at h1 h2
  cases e1 : Nat.beq a k1 with
  | true =>
   rw [e1] at h1
   cases h1
   cases e2 : Nat.beq a k2 with
   | true => rw [← Nat.eq_of_beq_eq_true e1, ← Nat.eq_of_beq_eq_true e2]
   | false => rw [e2] at h2; exact absurd rfl (notIn_get hl.1 h2)
  | false =>
   rw [e1] at h1
   cases e2 : Nat.beq a k2 with
   | true => rw [e2] at h2; cases h2; exact absurd rfl (notIn_get hl.1 h1)
   | false => rw [e2] at h2; exact nodupR_inj hl.2 h1 h2
 | (a, none) :: r, k1, k2, j, hl, h1, h2 => by
  simp only [nodupR] at hl
  simp only [get?] at h1 h2
  cases e1 : Nat.beq a k1 with
  | true => rw [e1] at h1; cases h1
  | false =>
   rw [e1] at h1
   cases e2 : Nat.beq a k2 with
   | true => rw [e2] at h2; cases h2
   | false => rw [e2] at h2; exact nodupR_inj hl h1 h2
section sub
variable {base : Nat} {O0 O0' : Nat → Prop} {own own' : List (Nat × Ob)} {g : Nat → Value} {w : World} {ρ : Ren} (hp : Hp base O0 own g w) (hO : ∀ b, O0' b → O0 b) (hlt : ∀ b, O0' b → ¬ Oset own g b) (hm : matchOs own ρ own') (hnd : nodupR ρ = true)
include hp hO hlt hm
theorem sub_oset {b : Nat} (h : Oset own' (gR ρ g) b) : ∃ k' k, get? ρ k' = some (some k) ∧ (∃ o, get? own k = some o) ∧ Blk (g k) b := by
 obtain ⟨k', o', h1, h2⟩ := h
 have h3 := matchOs_get hm h1
 unfold matchO at h3
 cases hk : get? ρ k' with
 | none => rw [hk] at h3; exact h3.elim
 | some x =>
  simp only [gR, hk] at h2
  cases x with
  | none => exact (Blk.nil h2).elim
  | some k =>
   refine ⟨k', k, hk, ?_, h2⟩
   rw [hk] at h3
   dsimp only at h3
   cases ho : get? own k with
   | none => rw [ho] at h3; exact h3.elim
   | some o => exact ⟨o, rfl⟩
theorem sub_av {fr fr' : Bool} (hfr : fr' = true → fr = true) {v : Value} {A : SV} (h : RpS w (Av (Oset own g) O0 fr) v A) : RpS w (Av (Oset own' (gR ρ g)) O0' fr') v A :=
 h.mono fun b x e fz hb hn => ⟨hb, fun h' => hn (by
  rcases h' with h' | ⟨h', h''⟩
  · obtain ⟨k', k, _, ⟨o, ho⟩, h3⟩ := sub_oset hp hO hlt hm h'
    exact .inl ⟨k, o, ho, h3⟩
  · exact .inr ⟨hfr h', hO b h''⟩)⟩
theorem sub_el {fr fr' : Bool} {t : Ty} {x : t.T} (hfr : fr' = true → (fr || Ty.flat t) = true) {v : Value} (h : RpS w (Av (Oset own g) O0 fr) v (t.enc x)) : RpS w (Av (Oset own' (gR ρ g)) O0' fr') v (t.enc x) := by
 cases hf : Ty.flat t with
 | true => exact flat_mono hf h
 | false => exact sub_av hp hO hlt hm (fun h' => by have := hfr h'; rw [hf, Bool.or_false] at this; exact this) h
theorem RpS.to_narr {w : World} {O : Nat → Prop} {v : Value} {t t' : Ty} {xs : List t.T} {ys : List t'.T} (h : RpS w O v (.arr t xs)) (e : SV.arr t xs = .arr t' ys) (hne : xs ≠ []) : RpS w O v (.narr t' ys) := by
 cases e
 exact .narr _ _ v h (fun h => absurd h hne)
theorem rowok_stable {k : Nat} {o : Ob} {v : Value} {e : TypeId} {t : Ty} {fr fr' : Bool} {xs : List t.T} (hk : get? own k = some o) (hB : ∀ b, blk v = some b → Blk (g k) b) (hr : RowOk w base (Oset own g) O0 v e t fr xs)
  (hni : notIn k ρ = true) (hfr : fr' = true → (fr || Ty.flat t) = true) : RpS w (Av (Oset own' (gR ρ g)) O0' fr') v (.arr t xs) := by
 have hr' : OwnOk w base (Oset own g) O0 g v (.row e t fr xs) := hr
 obtain ⟨ys, ho, _⟩ := hr
 rcases ho.2 with ⟨h3, h4⟩ | ⟨b, cap, cur, h3, _⟩
 · have : xs = [] := List.eq_nil_of_length_eq_zero h4
   subst this
   rw [h3]
   exact .nil t
 · obtain ⟨arr, f, h6, h7, h8, h9, h10, h11, h12⟩ := ownRow hr' h3
   have hblk : Blk (g k) b := hB b (by rw [h3]; rfl)
   rw [h3]
   refine .arr b 0 cap _ t xs arr e (0, 0) f h6 (fun h' => ?_) rfl h8 h9 (fun i hi => ⟨(h11 i hi).1, fun j hj => by rw [Nat.zero_add]; exact (h11 i hi).2 j hj⟩) (fun i x hx => sub_el hp hO hlt hm hfr (h12 i x hx))
   rcases h' with h' | ⟨_, h'⟩
   · obtain ⟨k', j, h13, ⟨o, ho'⟩, h14⟩ := sub_oset hp hO hlt hm h'
     exact notIn_get hni h13 (hp.inj j k _ _ b ho' hk h14 hblk)
   · exact hlt b h' ⟨k, _, hk, hblk⟩
theorem row_stable {k : Nat} {e : TypeId} {t : Ty} {fr fr' : Bool} {xs : List t.T} (hk : get? own k = some (.row e t fr xs)) (hni : notIn k ρ = true) (hfr : fr' = true → (fr || Ty.flat t) = true) : RpS w (Av (Oset own' (gR ρ g)) O0' fr') (g k) (.arr t xs) :=
 rowok_stable hp hO hlt hm hk (fun b hb => .of hb) (hp.ok k _ hk) hni hfr
theorem mat_stable {k : Nat} {e e' : TypeId} {t : Ty} {fr fr' : Bool} {xs : List (List t.T)} (hk : get? own k = some (.mat e e' t fr xs none)) (hni : notIn k ρ = true) (hfr : fr' = true → (fr || Ty.flat t) = true) : RpS w (Av (Oset own' (gR ρ g)) O0' fr') (hd (g k)) (.arr (.sl t) xs) := by
 obtain ⟨⟨cells, h1, h2, h3⟩, h4, h5, h6⟩ := hp.ok k _ hk
 have inn : ∀ i, RpS w (Av (Oset own' (gR ρ g)) O0' fr') (sub (g k) i) (.arr t (xs.getD i [])) := fun i => rowok_stable hp hO hlt hm hk (fun b hb => .inr ⟨i, hb⟩) (h4 i) hni hfr
 rcases h1.2 with ⟨h7, h8⟩ | ⟨b, cap, cur, h7, h8, h9, h10, h11, h12, h13⟩
 · have : xs = [] := List.eq_nil_of_length_eq_zero h8
   subst this
   rw [h7]
   exact .nil _
 · have hblk : Blk (g k) b := .inl (by rw [h7]; rfl)
   rw [h7]
   refine .arr b 0 cap _ (.sl t) xs cur e (0, 0) (sub (g k)) h9 (fun h' => ?_) rfl h10 h11 (fun i hi => ?_) (fun i x hx => ?_)
   · rcases h' with h' | ⟨_, h'⟩
     · obtain ⟨k', j, h13, ⟨o, ho'⟩, h14⟩ := sub_oset hp hO hlt hm h'
       exact notIn_get hni h13 (hp.inj j k _ _ b ho' hk h14 hblk)
     · exact hlt b h' ⟨k, _, hk, hblk⟩
   · have hc := (inn i).cells1 rfl
     refine ⟨by rw [hc]; rfl, fun j hj => ?_⟩
     have hj0 : j = 0 := by have : j < 1 := hj; omega
     subst hj0
     rw [hc]
     have h14 := h3 i hi (by simp)
     show cur[0 + (i * 1 + 0)]? = some (sub (g k) i)
     rw [Nat.zero_add, Nat.mul_one, Nat.add_zero]
     rw [← h14, ← h13, List.getElem?_take, if_pos (by omega)]
     simp
   · have hx' : @getElem? (List (List t.T)) Nat (List t.T) _ _ xs i = some x := hx
     have : xs.getD i [] = x := by rw [List.getD_eq_getElem?_getD, hx']; rfl
     rw [← this]
     exact inn i
theorem matchE_ok {fr' : Bool} {v : Value} {A : AV} {B : SV} (h : matchE own ρ fr' A B) (hr : Rp2 w (Oset own g) O0 g v A) : RpS w (Av (Oset own' (gR ρ g)) O0' fr') v B := by
 unfold matchE at h
 split at h
 · split at h
   · subst h
     rw [hr.1]
     exact .lit _ hr.2
   · rw [hr.1, h.1, h.2]; exact .nil _
   · exact h.elim
 · obtain ⟨h1, rfl⟩ := h
   exact sub_av hp hO hlt hm h1 hr
 · rename_i k
   split at h
   · rename_i hk
     obtain ⟨h1, h2, rfl⟩ := h
     have hv : v = g k := hr
     rw [hv]
     exact row_stable hp hO hlt hm hk h1 h2
   · exact h.elim
 · rename_i k
   split at h
   · rename_i hk
     obtain ⟨h1, h2, rfl⟩ := h
     have hv : v = hd (g k) := hr
     rw [hv]
     exact mat_stable hp hO hlt hm hk h1 h2
   · exact h.elim
 · exact h.elim
theorem matchB_get {fr' : Bool} : ∀ {l : List AV} {m : List SV}, matchB own ρ fr' l m → l.length = m.length ∧ ∀ (i : Nat) (B : SV), m[i]? = some B → ∃ A, l[i]? = some A ∧ ∀ v, Rp2 w (Oset own g) O0 g v A → RpS w (Av (Oset own' (gR ρ g)) O0' fr') v B
 | [], [], _ => ⟨rfl, fun i A h => by simp at h⟩
 | A :: r, B :: m, h => by
  unfold matchB at h
  obtain ⟨h1, h2⟩ := matchB_get h.2
  refine ⟨by simp [h1], fun i C hC => ?_⟩
  cases i with
  | zero =>
   simp at hC; subst hC
   exact ⟨A, rfl, fun x hx => matchE_ok hp hO hlt hm h.1 hx⟩
  | succ i => obtain ⟨D, h3, h4⟩ := h2 i C (by simpa using hC); exact ⟨D, by simpa using h3, h4⟩
theorem box1_stable {k : Nat} {A : AV} {fr' : Bool} {B : SV} {v : Value} (hk : get? own k = some (.box1 A)) (hni : notIn k ρ = true) (hB : B.isAgg = false) (hA : matchE own ρ fr' A B) (hv : Rp1 w (Oset own g) O0 g v (.padr k 0)) : RpS w (Av (Oset own' (gR ρ g)) O0' fr') v (.sadr B) := by
 obtain ⟨b, h1, h2⟩ := hv
 have hok := hp.ok k _ hk
 obtain ⟨b', x, e, h3, h4, h5, h6, h7⟩ := hok
 have hb : b' = b := by rw [h3] at h1; cases h1; rfl
 subst hb
 have hblk : Blk (g k) b' := .of (by rw [h3]; rfl)
 have hx := matchE_ok hp hO hlt hm hA h7
 rw [h2]
 refine .sadr b' 0 _ x #[x] e (0, 0) h5 (fun h' => ?_) (fun j hj => ?_) hx
 · rcases h' with h' | ⟨_, h'⟩
   · obtain ⟨k', j, h13, ⟨o, ho'⟩, h14⟩ := sub_oset hp hO hlt hm h'
     exact notIn_get hni h13 (hp.inj j k _ _ b' ho' hk h14 hblk)
   · exact hlt b' h' ⟨k, _, hk, hblk⟩
 · rw [hx.cells1 hB] at hj ⊢
   simp only [Nat.zero_add]
theorem box_stable {k : Nat} {l : List AV} {fr' : Bool} {m : List SV} {v : Value} (hk : get? own k = some (.box l)) (hni : notIn k ρ = true) (hB : matchB own ρ fr' l m) (hv : Rp1 w (Oset own g) O0 g v (.padr k 0)) : RpS w (Av (Oset own' (gR ρ g)) O0' fr') v (.sadr (.agg m)) := by
 obtain ⟨b, h1, h2⟩ := hv
 have hok := hp.ok k _ hk
 obtain ⟨b', arr, e, h3, h4, h5, h6, h7⟩ := hok
 have hb : b' = b := by rw [h3] at h1; cases h1; rfl
 subst hb
 obtain ⟨h8, h9⟩ := matchB_get hp hO hlt hm hB
 have hblk : Blk (g k) b' := .of (by rw [h3]; rfl)
 rw [h2]
 refine .sadr b' 0 _ (.agg arr) arr e (0, 0) h5 (fun h' => ?_) (fun j _ => by simp [Value.cells]) (.agg arr m (fun i => arr.getD i undef) (by rw [h6, h8]) (fun i hi => ?_) (fun i B hB => ?_))
 · rcases h' with h' | ⟨_, h'⟩
   · obtain ⟨k', j, h13, ⟨o, ho'⟩, h14⟩ := sub_oset hp hO hlt hm h'
     exact notIn_get hni h13 (hp.inj j k _ _ b' ho' hk h14 hblk)
   · exact hlt b' h' ⟨k, _, hk, hblk⟩
 · have hi' : i < l.length := by rw [h8]; exact hi
   obtain ⟨x, h10, h11, h12⟩ := h7 i _ (List.getElem?_eq_getElem hi')
   have : arr.getD i undef = x := by simp [Array.getD_eq_getD_getElem?, h10]
   rw [this]
   exact ⟨h10, h11⟩
 · obtain ⟨A, h10, h11⟩ := h9 i B hB
   obtain ⟨x, h12, h13, h14⟩ := h7 i A h10
   have : arr.getD i undef = x := by simp [Array.getD_eq_getD_getElem?, h12]
   rw [this]
   exact h11 x h14
theorem match1_ok {v : Value} {A A' : AV} (h : match1 own ρ A A') (hr : Rp1 w (Oset own g) O0 g v A) : Rp1 w (Oset own' (gR ρ g)) O0' (gR ρ g) v A' := by
 unfold match1 at h
 split at h
 · trivial
 · split at h
   · subst h; exact hr
   · exact h.elim
 · split at h
   · show v = gR ρ g _
     simp only [gR, h]
     exact hr
   · show v = gR ρ g _
     simp only [gR, h]
     exact hr.1
   · exact h.elim
 · split at h
   · obtain ⟨h1, rfl⟩ := h
     obtain ⟨b, h2, h3⟩ := hr
     exact ⟨b, by simp only [gR, h1]; exact h2, h3⟩
   · exact h.elim
 · split at h
   · obtain ⟨h1, rfl, rfl, rfl⟩ := h
     obtain ⟨b, n, c, h2, h3⟩ := hr
     exact ⟨b, n, c, by simp only [gR, h1]; exact h2, h3⟩
   · exact h.elim
 · split at h
   · show v = hd (gR ρ g _)
     simp only [gR, h]
     exact hr
   · exact h.elim
 · split at h
   · rename_i fr S
     obtain ⟨h1, h2⟩ := h
     have h3 : RpS w (Av (Oset own' (gR ρ g)) O0' _) v S := sub_av hp hO hlt hm h1 hr
     rcases h2 with rfl | h2
     · exact h3
     · split at h2
       · show RpS _ _ _ _
         cases h2
         cases h3 with | narr _ _ _ h4 _ => exact h4
       · exact RpS.to_narr hp hO hlt hm h3 h2.1 h2.2
       · exact h2.elim
   · show RpS _ _ _ _
     have hv : v = .slice none 0 0 := hr.1
     rw [hv]
     split at h
     · subst h; exact .nil _
     · subst h; exact .narr _ _ _ (.nil _) (fun _ => rfl)
     · exact h.elim
   · subst h
     show RpS _ _ _ _
     rw [hr.1]
     exact .lit _ hr.2
   · rename_i k
     split at h
     · rename_i e t fr xs hk
       obtain ⟨h1, h2, h3⟩ := h
       have hv : v = g k := hr
       have h4 := row_stable hp hO hlt hm hk h1 h2
       show RpS _ _ _ _
       rw [hv]
       split at h3
       · cases h3; exact h4
       · exact RpS.to_narr hp hO hlt hm h4 h3.1 h3.2
       · exact h3.elim
     · exact h.elim
   · rename_i k
     split at h
     · rename_i e e' t fr xs hk
       obtain ⟨h1, h2, h3⟩ := h
       have hv : v = hd (g k) := hr
       have h4 := mat_stable hp hO hlt hm hk h1 h2
       show RpS _ _ _ _
       rw [hv]
       split at h3
       · cases h3; exact h4
       · exact h3.elim
     · exact h.elim
   · split at h
     · split at h
       · rename_i hk
         show RpS _ _ _ _
         exact box_stable hp hO hlt hm hk h.1 h.2 hr
       · exact h.elim
     · split at h
       · rename_i hk
         exact box1_stable hp hO hlt hm hk h.1 h.2.1 h.2.2 hr
       · exact h.elim
     · exact h.elim
   · exact h.elim
 · exact h.elim
theorem matchM_ok {v : Value} {A A' : AV} (h : matchM own ρ A A') (hr : RpM w (Oset own g) O0 g v A) : RpM w (Oset own' (gR ρ g)) O0' (gR ρ g) v A' := by
 unfold matchM at h
 split at h
 · split at h
   · obtain ⟨f, vs, h1, h2, h3⟩ := hr
     obtain ⟨h4, h5⟩ := matchL_get h
     refine ⟨f, vs, h1, by rw [h2, h4], fun i B hB => ?_⟩
     obtain ⟨C, h6, h7⟩ := h5 i B hB
     exact ⟨(h3 i C h6).1, match1_ok hp hO hlt hm h7 (h3 i C h6).2⟩
   · rename_i fr l
     have hr' : RpS w (Av (Oset own g) O0 fr) v (.agg l) := hr
     obtain ⟨cs, h1, h2, h3⟩ := hr'.aggc
     obtain ⟨h4, h5⟩ := matchL_get h
     rw [upL_len] at h4
     refine ⟨fun i => cs.getD i undef, cs, h1, by rw [h2, h4], fun i B hB => ?_⟩
     obtain ⟨C, h6, h7⟩ := h5 i B hB
     rw [upL_get] at h6
     obtain ⟨D, hD, rfl⟩ := Option.map_eq_some_iff.1 h6
     obtain ⟨x, h8, h9, h10⟩ := h3 i D hD
     have : cs.getD i undef = x := by simp [Array.getD_eq_getD_getElem?, h8]
     dsimp only
     rw [this]
     exact ⟨⟨h8, h9⟩, match1_ok hp hO hlt hm h7 (up_one h10)⟩
   · exact h.elim
 · have hr1 : Rp1 w (Oset own g) O0 g v A ∨ A' = .any := by
    cases A <;> first | exact .inl hr | (cases A' <;> first | exact .inr rfl | exact h.elim)
   rcases hr1 with hr1 | rfl
   · exact (match1_ok hp hO hlt hm h hr1).mid
   · trivial
theorem match2_ok {v : Value} {A A' : AV} (h : match2 own ρ A A') (hr : Rp2 w (Oset own g) O0 g v A) : Rp2 w (Oset own' (gR ρ g)) O0' (gR ρ g) v A' := by
 unfold match2 at h
 split at h
 · split at h
   · obtain ⟨f, vs, h1, h2, h3⟩ := hr
     obtain ⟨h4, h5⟩ := matchML_get h
     refine ⟨f, vs, h1, by rw [h2, h4], fun i B hB => ?_⟩
     obtain ⟨C, h6, h7⟩ := h5 i B hB
     exact ⟨(h3 i C h6).1, matchM_ok hp hO hlt hm h7 (h3 i C h6).2⟩
   · exact h.elim
 · split at h
   · obtain ⟨rfl, h⟩ := h
     obtain ⟨f, vs, h1, h2, h3⟩ := hr
     obtain ⟨h4, h5⟩ := matchL_get h
     refine ⟨f, vs, h1, by rw [h2, h4], fun i B hB => ?_⟩
     obtain ⟨C, h6, h7⟩ := h5 i B hB
     exact ⟨(h3 i C h6).1, match1_ok hp hO hlt hm h7 (h3 i C h6).2⟩
   · exact h.elim
 · have hr1 : RpM w (Oset own g) O0 g v A ∨ A' = .any := by
    cases A <;> first | exact .inl hr | (cases A' <;> first | exact .inr rfl | exact h.elim)
   rcases hr1 with hr1 | rfl
   · exact (matchM_ok hp hO hlt hm h hr1).two
   · trivial
include hnd
theorem sub_hp {base' : Nat} (hb : base' ≤ base) : Hp base' O0' own' (gR ρ g) w := by
 refine ⟨fun k' o' hk' => ?_, fun k1 k2 o1 o2 b h1 h2 h3 h4 => ?_⟩
 · have h := matchOs_get hm hk'
   unfold matchO at h
   cases hρ : get? ρ k' with
   | none => rw [hρ] at h; exact h.elim
   | some x =>
    rw [hρ] at h
    have hg : gR ρ g k' = match x with | some k => g k | none => .slice none 0 0 := by simp only [gR, hρ]; cases x <;> rfl
    cases x with
    | none =>
     dsimp only at h hg
     rw [hg]
     split at h
     · subst h
       exact ⟨[], World.ownsRow_nil _ _ _ _, by simp, fun _ => undef, fun i hi => by simp at hi, fun i x hx => by simp at hx⟩
     · exact h.elim
    | some k =>
     dsimp only at h hg
     rw [hg]
     split at h
     · rename_i e t fr xs e' t' fr' ys hk
       obtain ⟨rfl, h1, h2⟩ := h
       cases h2
       obtain ⟨zs, h3, h4, f, h5, h6⟩ := hp.ok k _ hk
       refine ⟨zs, ⟨h3.1, ?_⟩, h4, f, h5, fun i x hx => sub_el hp hO hlt hm h1 (h6 i x hx)⟩
       rcases h3.2 with h7 | ⟨b, cap, cur, h7, h8, h9⟩
       · exact .inl h7
       · exact .inr ⟨b, cap, cur, h7, Nat.le_trans hb h8, h9⟩
     · rename_i e1 e2 t fr xs st e1' e2' t' fr' ys st' hk
       obtain ⟨rfl, rfl, h1, h2, rfl⟩ := h
       cases h2
       obtain ⟨⟨cells, g1, g2, g3⟩, g4, g5, g6⟩ := hp.ok k _ hk
       exact ⟨⟨cells, ownsRow_base hb g1, g2, g3⟩, fun i => RowOk.turn hb (fun _ _ h => sub_el hp hO hlt hm h1 h) (g4 i), g5, g6⟩
     · rename_i l l' hk
       obtain ⟨b, arr, e, h3, h4, h5, h6, h7⟩ := hp.ok k _ hk
       obtain ⟨h8, h9⟩ := matchL2_get h
       have hmk : mk2 l' = true → mk2 l = true := mk2_of h8 fun A A' hA hA' hm => by
        obtain ⟨C, h10, h11⟩ := h9 0 A' hA'
        rw [hA] at h10
        cases h10
        exact match2_mk h11 hm
       refine ⟨b, arr, e.of hmk, h3, Nat.le_trans hb h4, h5, by rw [h6, h8], fun i B hB => ?_⟩
       obtain ⟨C, h10, h11⟩ := h9 i B hB
       obtain ⟨x, h12, h13, h14⟩ := h7 i C h10
       exact ⟨x, h12, h13, match2_ok hp hO hlt hm h11 h14⟩
     · rename_i A A' hk
       obtain ⟨b, x, e, h3, h4, h5, h6, h7⟩ := hp.ok k _ hk
       exact ⟨b, x, e, h3, Nat.le_trans hb h4, h5, h6, match2_ok hp hO hlt hm h h7⟩
     · rename_i kk t m n kk' t' m' n' hk
       obtain ⟨b, es, cl, h3, h4, h5, h6⟩ := hp.ok k _ hk
       cases h
       exact ⟨b, es, cl, h3, Nat.le_trans hb h4, h5, h6⟩
     · rename_i e kk xs e' kk' ys hk
       obtain ⟨rfl, rfl, rfl⟩ := h
       obtain ⟨b, off, cap, arr, h3, h4, h5⟩ := hp.ok k _ hk
       exact ⟨b, off, cap, arr, h3, Nat.le_trans hb h4, h5⟩
     · rename_i s p s' p' hk
       obtain ⟨b, h3, h4, h5⟩ := hp.ok k _ hk
       cases h
       exact ⟨b, h3, Nat.le_trans hb h4, h5⟩
     · rename_i l l' hk
       obtain ⟨b, h3, h4, h5⟩ := hp.ok k _ hk
       cases h
       exact ⟨b, h3, Nat.le_trans hb h4, h5⟩
     · rename_i km st km' st' hk
       obtain ⟨b, mb, h3, h4, h5, h6⟩ := hp.ok k _ hk
       obtain ⟨h7, rfl⟩ := h
       exact ⟨b, mb, h3, Nat.le_trans hb h4, h5, by simp only [gR, h7]; exact h6⟩
     · rename_i e t fr xs e' kk' ys hk
       obtain ⟨rfl, hne, h2⟩ := h
       cases h2
       obtain ⟨zs, h3, h4, f, h5, h6⟩ := hp.ok k _ hk
       rcases h3.2 with ⟨_, h7⟩ | ⟨b, cap, cur, h7, h8, h9, h10, h11, h12, h13⟩
       · exact absurd (List.eq_nil_of_length_eq_zero h7) hne
       · refine ⟨b, 0, cap, cur, h7, Nat.le_trans hb h8, h9, h10, h11, by simp only [Ty.size] at h12; omega, fun i x hx => ?_⟩
         have hi := (List.getElem?_eq_some_iff.1 hx).1
         have h14 := (h5 i hi).2 0 (by simp [Ty.size])
         have h15 : f i = .int kk' x := by
          have h16 := h6 i x hx
          have h17 : RpS w (Av (Oset own g) O0 fr) (f i) (.lit (.int kk' x)) := h16
          generalize f i = u at h17
          cases h17; rfl
         rw [h15] at h14
         have h18 : zs[i]? = some (.int kk' x) := by simpa [Ty.size, Value.cells] using h14
         rw [← h13, List.getElem?_take] at h18
         split at h18
         · simpa using h18
         · cases h18
     · exact h.elim
 · have f1 := matchOs_get hm h1
   have f2 := matchOs_get hm h2
   unfold matchO at f1 f2
   cases r1 : get? ρ k1 with
   | none => rw [r1] at f1; exact f1.elim
   | some x1 =>
    cases r2 : get? ρ k2 with
    | none => rw [r2] at f2; exact f2.elim
    | some x2 =>
     simp only [gR, r1] at h3
     simp only [gR, r2] at h4
     cases x1 with
     | none => exact (Blk.nil h3).elim
     | some j1 =>
      cases x2 with
      | none => exact (Blk.nil h4).elim
      | some j2 =>
       rw [r1] at f1
       rw [r2] at f2
       dsimp only at f1 f2 h3 h4
       cases ho1 : get? own j1 with
       | none => rw [ho1] at f1; exact f1.elim
       | some q1 =>
        cases ho2 : get? own j2 with
        | none => rw [ho2] at f2; exact f2.elim
        | some q2 =>
         have : j1 = j2 := hp.inj j1 j2 q1 q2 b ho1 ho2 h3 h4
         subst this
         exact nodupR_inj hnd r1 r2
end sub
def mkRen1 : AV → AV → Ren → Ren
 | .own k, .own k', ρ => (k', some k) :: ρ
 | .lit _, .own k', ρ => (k', none) :: ρ
 | .mown k, .mown k', ρ => (k', some k) :: ρ
 | .padr k _, .padr k' _, ρ => (k', some k) :: ρ
 | .oadr k _ _ _, .oadr k' _ _ _, ρ => (k', some k) :: ρ
 | _, _, ρ => ρ
def mkRenL : List AV → List AV → Ren → Ren
 | A :: r, A' :: r', ρ => mkRen1 A A' (mkRenL r r' ρ)
 | _, _, ρ => ρ
def mkRenM : AV → AV → Ren → Ren
 | .strct l, .strct l', ρ => mkRenL l l' ρ
 | A, A', ρ => mkRen1 A A' ρ
def mkRenML : List AV → List AV → Ren → Ren
 | A :: r, A' :: r', ρ => mkRenM A A' (mkRenML r r' ρ)
 | _, _, ρ => ρ
def mkRen2 : AV → AV → Ren → Ren
 | .tup l, .tup l', ρ => mkRenML l l' ρ
 | .fn _ l, .fn _ l', ρ => mkRenL l l' ρ
 | A, A', ρ => mkRenM A A' ρ
def dedupR : Ren → Ren
 | [] => []
 | (k, x) :: r => (k, x) :: dropK k (dedupR r)
where
 dropK (k : Nat) : Ren → Ren
  | [] => []
  | (j, x) :: r => match Nat.beq j k with
   | true => dropK k r
   | false => (j, x) :: dropK k r
def mkRenT (Γ : Sy) : List (Nat × AV) → Ren
 | [] => []
 | (t, A') :: r => match get? Γ.tmps t with
  | some A => mkRen2 A A' (mkRenT Γ r)
  | none => mkRenT Γ r
def mkRenL2 : List AV → List AV → Ren → Ren
 | A :: r, A' :: r', ρ => mkRen2 A A' (mkRenL2 r r' ρ)
 | _, _, ρ => ρ
def mkRenO (own : List (Nat × Ob)) : List (Nat × Ob) → Ren → Ren
 | [], ρ => ρ
 | (k', o') :: r, ρ => match get? ρ k' with
  | some (some k) => match get? own k, o' with
   | some (.box l), .box l' => mkRenO own r (dedupR (mkRenL2 l l' ρ))
   | some (.box1 A), .box1 A' => mkRenO own r (dedupR (mkRen2 A A' ρ))
   | _, _ => mkRenO own r ρ
  | _ => mkRenO own r ρ
def mkRen (Γ Γ' : Sy) : Ren := mkRenO Γ.own Γ'.own (dedupR (mkRenT Γ Γ'.tmps))
def pinR : Ren → Bool
 | [] => true
 | (k', x) :: r => (Nat.blt (k' % 2000000000) 1000000000 || (match x with | some k => Nat.beq k' k | none => false)) && pinR r
theorem pinR_get {ρ : Ren} : ∀ {k' : Nat} {x : Option Nat}, pinR ρ = true → get? ρ k' = some x → PK ≤ k' % PK2 → x = some k' := by
 induction ρ with
 | nil => intro k' x _ h; cases h
 | cons y r ih =>
  obtain ⟨a, z⟩ := y
  intro k' x hp h hk
  simp only [pinR, Bool.and_eq_true] at hp
  simp only [get?] at h
  split at h
  · rename_i hb
    cases h
    have := Nat.eq_of_beq_eq_true hb
    subst this
    have h1 := hp.1
    rw [Bool.or_eq_true] at h1
    rcases h1 with h1 | h1
    · have h2 := Nat.le_of_ble_eq_true h1
      have h3 : 1000000000 ≤ a % 2000000000 := hk
      omega
    · cases z with
      | none => cases h1
      | some k => rw [Nat.eq_of_beq_eq_true h1]
  · exact ih hp.2 h hk
theorem gR_pin {ρ : Ren} {g : Nat → Value} (hp : pinR ρ = true) (k : Nat) (hk : PK ≤ k % PK2) : gR ρ g k = g k := by
 unfold gR
 cases h : get? ρ k with
 | none => rfl
 | some x => rw [pinR_get hp h hk]
def subT (Γ : Sy) (ρ : Ren) : List (Nat × AV) → Prop
 | [] => True
 | (t, A') :: r => (match get? Γ.tmps t with
  | some (.gd _ _) => False
  | some A => match2 Γ.own ρ A A'
  | none => False) ∧ subT Γ ρ r
theorem subT_get {Γ : Sy} {ρ : Ren} : ∀ {l : List (Nat × AV)} {t : Nat} {A' : AV}, subT Γ ρ l → get? l t = some A' → ∃ A, get? Γ.tmps t = some A ∧ (∀ p B, A ≠ .gd p B) ∧ match2 Γ.own ρ A A'
 | [], t, A', _, h => by cases h
 | (t', B) :: r, t, A', hl, h => by
  simp only [get?] at h
  split at h
  · rename_i hb
    cases h
    have := Nat.eq_of_beq_eq_true hb
    subst this
    have h1 := hl.1
    split at h1
    · exact h1.elim
    · rename_i A hne hA
      exact ⟨A, hA, fun p B e => hne p B e, h1⟩
    · exact h1.elim
  · exact subT_get hl.2 h
def Sub (Γ Γ' : Sy) (ρ : Ren) : Prop := (nodupR ρ && pinR ρ) = true ∧ subT Γ ρ Γ'.tmps ∧ matchOs Γ.own ρ Γ'.own
theorem Sub.st {Γ Γ' : Sy} {ρ : Ren} (h : Sub Γ Γ' ρ) {c : Cx} {g : Nat → Value} {a : Act} {w : World} (hst : St c Γ g a w) : St c Γ' (gR ρ g) a w := by
 obtain ⟨h1, h2, h3⟩ := h
 rw [Bool.and_eq_true] at h1
 have hO : ∀ b, Oset Γ'.own (gR ρ g) b → Oset Γ.own g b := fun b h' => by
  obtain ⟨k', k, _, ⟨o, ho⟩, h4⟩ := sub_oset hst.hp (fun _ h => h) hst.apart h3 h'
  exact ⟨k, o, ho, h4⟩
 refine ⟨hst.defers, hst.size, hst.keep, hst.o0, fun t A' hA' => ?_, fun b x hb => ⟨(hst.kept b x hb).1, fun h' => (hst.kept b x hb).2 (hO b h')⟩,
  sub_hp hst.hp (fun _ h => h) hst.apart h3 h1.1 (Nat.le_refl _), fun b hb => hst.low b (hO b hb), fun k hk => (gR_pin h1.2 k hk).trans (hst.pin k hk)⟩
 obtain ⟨A, h4, h5, h6⟩ := subT_get h2 hA'
 have h7 := hst.tmps t A h4
 have h8 : Rp2 w (Oset Γ.own g) c.O0 g (a.tmps.getD t undef) A := by
  cases A <;> first | exact h7 | exact absurd rfl (h5 _ _)
 exact Rp.of2 (match2_ok hst.hp (fun _ h => h) hst.apart h3 h6 h8)
structure W (P : Program) (n : Nat) (code : Code) (Γ : Sy) (Q : Exit → Sy → Prop) : Prop where
 out : ∀ (c : Cx) (g : Nat → Value) (a : Act) (w : World), c.n = n → St c Γ g a w → code.wp P (fun e a' w' => ∃ Γ' g', Q e Γ' ∧ St c Γ' g' a' w') a w
def thenQ (K : Sy → Prop) (Q : Exit → Sy → Prop) : Exit → Sy → Prop
 | .normal, Γ => K Γ
 | e, Γ => Q e Γ
def blockQ (id : Nat) (Q : Exit → Sy → Prop) : Exit → Sy → Prop
 | .exit id', Γ => match Nat.beq id' id with
  | true => Q .normal Γ
  | false => Q (.exit id') Γ
 | e, Γ => Q e Γ
section rules
variable {P : Program} {n : Nat} {Γ : Sy} {Q : Exit → Sy → Prop}
theorem W.seq {x y : Code} (h : W P n x Γ (thenQ (fun Γ' => W P n y Γ' Q) Q)) : W P n (.seq x y) Γ Q := by
 refine ⟨fun c g a w hn hst => wp_seq (wp_mono (h.out c g a w hn hst) fun e a' w' hq => ?_)⟩
 obtain ⟨Γ', g', h1, h2⟩ := hq
 cases e with
 | normal => exact W.out h1 c g' a' w' hn h2
 | _ => exact ⟨Γ', g', h1, h2⟩
theorem W.skip (h : Q .normal Γ) : W P n .skip Γ Q := ⟨fun c g a w hn hst => wp_skip ⟨Γ, g, h, hst⟩⟩
theorem W.ret (h : Q .ret Γ) : W P n .ret Γ Q := ⟨fun c g a w hn hst => wp_ret ⟨Γ, g, h, hst⟩⟩
theorem W.exit {id : Nat} (h : Q (.exit id) Γ) : W P n (.exit id) Γ Q := ⟨fun c g a w hn hst => wp_exit ⟨Γ, g, h, hst⟩⟩
theorem W.block {id : Nat} {x : Code} (h : W P n x Γ (blockQ id Q)) : W P n (.block id x) Γ Q := by
 refine ⟨fun c g a w hn hst => wp_block (wp_mono (h.out c g a w hn hst) fun e a' w' hq => ?_)⟩
 obtain ⟨Γ', g', h1, h2⟩ := hq
 cases e with
 | exit id' =>
  simp only [Exit.inBlock]
  simp only [blockQ] at h1
  cases hb : Nat.beq id' id with
  | true => rw [hb] at h1; rw [if_pos (Nat.eq_of_beq_eq_true hb)]; exact ⟨Γ', g', h1, h2⟩
  | false => rw [hb] at h1; rw [if_neg (Nat.ne_of_beq_eq_false hb)]; exact ⟨Γ', g', h1, h2⟩
 | _ => exact ⟨Γ', g', h1, h2⟩
theorem W.cond {x : Operand} {b : Bool} {t e : Code} (hx : look Γ x = some (.lit (.bool b))) (ht : b = true → W P n t Γ Q) (he : b = false → W P n e Γ Q) : W P n (.cond x t e) Γ Q := by
 refine ⟨fun c g a w hn hst => ?_⟩
 have h1 := hst.look hx
 simp only [Rp, Rp2, Rp1] at h1
 exact wp_cond_split h1.1 (fun h => (ht h).out c g a w hn hst) (fun h => (he h).out c g a w hn hst)
theorem W.region {T : List (Nat × TE)} (hT : TOk P T) (F : List Nat) {id : Nat} {ops : Array Oper} (h : opsVC P T F n (dstsOf ops) [] ops.toList 0 0 Γ (Q .normal)) : W P n (.region id ops false) Γ Q := by
 refine ⟨fun c g a w hn hst => region_seq hT (K := Q .normal) (by rw [hn]; exact h) hst fun Γ' g' a' w' h1 h2 => ⟨Γ', g', h1, h2⟩⟩
theorem keepAll (w : World) (O : Nat → Prop) : ∃ K : Nat → Option (Array Value × TypeId × (Nat × Nat)), (∀ b x, K b = some x → w.heap[b]? = some (.cells x.1 x.2.1 x.2.2) ∧ ¬ O b) ∧ (∀ b x e fz, w.heap[b]? = some (.cells x e fz) → ¬ O b → K b = some (x, e, fz)) := by
 have each : ∀ b, ∃ k : Option (Array Value × TypeId × (Nat × Nat)), (∀ x, k = some x → w.heap[b]? = some (.cells x.1 x.2.1 x.2.2) ∧ ¬ O b) ∧ (∀ x e fz, w.heap[b]? = some (.cells x e fz) → ¬ O b → k = some (x, e, fz)) := by
  intro b
  by_cases h : ∃ x e fz, w.heap[b]? = some (.cells x e fz) ∧ ¬ O b
  · obtain ⟨x, e, fz, h1, h2⟩ := h
    refine ⟨some (x, e, fz), fun y hy => (by cases hy; exact ⟨h1, h2⟩), fun y e' fz' hy _ => ?_⟩
    rw [h1] at hy
    cases hy
    rfl
  · exact ⟨none, fun y hy => (by cases hy), fun y e fz hy hn => absurd ⟨y, e, fz, hy, hn⟩ h⟩
 obtain ⟨K, hK⟩ := Classical.axiomOfChoice each
 exact ⟨K, fun b x h => (hK b).1 x h, fun b x e fz h h' => (hK b).2 x e fz h h'⟩
theorem W.draw {T : List (Nat × TE)} (hT : TOk P T) (F : List Nat) (hmx : P.follows .mixedOrders = true) {id : Nat} {ops : Array Oper} (M L : List Nat) (m : Nat)
  (hd : (drawOk ops M L m && floatOk ops L (Array.replicate ops.size false) && Region.noSelect ops && listOnce ops.size L) = true) (h : floatVC T n ops L Γ fun Γ1 => opsVC P T F n (dstsOf ops) L ops.toList 0 m Γ1 (Q .normal)) : W P n (.region id ops true) Γ Q := by
 simp only [Bool.and_eq_true] at hd
 obtain ⟨⟨⟨h1, h2⟩, h3⟩, h4⟩ := hd
 refine ⟨fun c g a w hn hst => ?_⟩
 -- all that is not the call's own is kept throughout
 obtain ⟨K, hK1, hK2⟩ := keepAll w (Oset Γ.own g)
 let c' : Cx := { c with K := K }
 have hst' : St c' Γ g a w := ⟨hst.defers, hst.size, hst.keep, hst.o0, hst.tmps, hK1, hst.hp, hst.low, hst.pin⟩
 have hcK : ∀ b x, c.K b = some x → K b = some x := fun b x hb => hK2 b _ _ _ (hst.kept b x hb).1 (hst.kept b x hb).2
 have key : (Code.region id ops true).wp P (fun e a' w' => match e with | .normal => ∃ Γ' g', Q .normal Γ' ∧ St c Γ' g' a' w' | _ => False) a w :=
  region_draw (c := c') hT hmx h1 h2 h3 h4 (K := Q .normal) (by show floatVC T c.n ops L Γ fun Γ1 => opsVC P T F c.n (dstsOf ops) L ops.toList 0 m Γ1 (Q .normal); rw [hn]; exact h) (fun _ _ _ h => h) hst' hK2
   fun Γ' g' a' w' h1 h2 => ⟨Γ', g', h1, ⟨h2.defers, h2.size, h2.keep, h2.o0, h2.tmps, fun b x hb => h2.kept b x (hcK b x hb), h2.hp, h2.low, h2.pin⟩⟩
 refine wp_mono key fun e a' w' hq => ?_
 cases e with
 | normal => exact hq
 | _ => exact hq.elim
theorem W.mono {x : Code} {Q' : Exit → Sy → Prop} (h : W P n x Γ Q) (hq : ∀ e Γ, Q e Γ → Q' e Γ) : W P n x Γ Q' :=
 ⟨fun c g a w hn hst => wp_mono (h.out c g a w hn hst) fun e a' w' ⟨Γ', g', h1, h2⟩ => ⟨Γ', g', hq _ _ h1, h2⟩⟩
theorem W.sub {x : Code} {Γ' : Sy} {ρ : Ren} (hs : Sub Γ Γ' ρ) (h : W P n x Γ' Q) : W P n x Γ Q := ⟨fun c g a w hn hst => h.out c _ a w hn (hs.st hst)⟩
theorem W.loop {α : Type} (I : α → Sy) (J : α → Prop) (μ : α → Nat) (x0 : α) {body : Code} (h0 : J x0 ∧ Sub Γ (I x0) (mkRen Γ (I x0)))
  (round : ∀ x, J x → W P n body (I x) (thenQ (fun Γ' => ∃ y, (J y ∧ μ y < μ x) ∧ Sub Γ' (I y) (mkRen Γ' (I y))) Q)) : W P n (.loop body) Γ Q := by
 refine ⟨fun c g a w hn hst => ?_⟩
 refine wp_loop_ghost (fun k a w => ∃ x g, J x ∧ μ x = k ∧ St c (I x) g a w) (μ x0) ⟨x0, _, h0.1, rfl, h0.2.st hst⟩ ?_
 rintro k a w ⟨x, g, h1, rfl, h2⟩
 refine wp_mono ((round x h1).out c g a w hn h2) fun e a' w' hq => ?_
 obtain ⟨Γ', g', h3, h4⟩ := hq
 cases e with
 | normal =>
  obtain ⟨y, ⟨h5, h6⟩, h7⟩ := h3
  exact ⟨μ y, h6, y, _, h5, rfl, h7.st h4⟩
 | _ => exact ⟨Γ', g', h3, h4⟩
end rules
def inA (fr : Bool) : SV → AV
 | .lit v => .lit v
 | .fn f l => match isPl f with
  | true => .fn f (upL fr l)
  | false => .any
 | A => .st fr A
def initT (fr : Bool) : List SV → Nat → List (Nat × AV)
 | [], _ => []
 | A :: r, i => (i, inA fr A) :: initT fr r (i + 1)
theorem initT_get {fr : Bool} : ∀ {l : List SV} {i t : Nat} {A : AV}, get? (initT fr l i) t = some A → i ≤ t ∧ ∃ S, l[t - i]? = some S ∧ A = inA fr S
 | [], i, t, A, h => by cases h
 | S :: r, i, t, A, h => by
  simp only [initT, get?] at h
  split at h
  · rename_i hb
    cases h
    have := Nat.eq_of_beq_eq_true hb
    subst this
    exact ⟨Nat.le_refl _, S, by simp, rfl⟩
  · rename_i hb
    obtain ⟨h1, S', h2, h3⟩ := initT_get h
    refine ⟨by omega, S', ?_, h3⟩
    rw [show t - i = (t - (i + 1)) + 1 from by omega]
    simpa using h2
theorem inA_ok {w : World} {O O0 : Nat → Prop} {g : Nat → Value} {fr : Bool} {v : Value} {S : SV} (h : RpS w (Av O O0 fr) v S) : Rp w O O0 g v (inA fr S) := by
 cases S with
 | lit u => cases h with | lit _ h => exact ⟨rfl, h⟩
 | fn f l =>
  cases h with
  | fn _ _ cs f' hs hf hr =>
   simp only [inA]
   cases hF : isPl f with
   | false => exact trivial
   | true =>
   show Rp2 w O O0 g (.func (.func f) #[] cs) (.fn f (upL fr l))
   refine ⟨f', cs, (by unfold fnV; rw [hF]), by rw [upL_len]; exact hs, fun i B hB => ?_⟩
   rw [upL_get] at hB
   obtain ⟨C, hC, rfl⟩ := Option.map_eq_some_iff.1 hB
   exact ⟨hf i (List.getElem?_eq_some_iff.1 hC).1, up_one (hr i C hC)⟩
 | _ => exact h
def resA (T : List (Nat × TE)) (Γ : Sy) : ResultVar → Option AV
 | .tmp t => match get? Γ.tmps t with
  | some (.gd _ _) => none
  | x => x
 | .cell a ty => match get? Γ.tmps a with
  | some (.padr k j) => match j with
   | 0 => match get? Γ.own k with
    | some (.box l) => match get? T ty with
     | some te => match te.kind.isAgg && Nat.beq te.size l.length && lv1 l with
      | true => some (.strct l)
      | false => none
     | none => none
    | some (.box1 A) => match get? T ty with
     | some te => match te.kind.isAgg with
      | true => none
      | false => some A
     | none => none
    | _ => none
   | _ => none
  | _ => none
def resL (T : List (Nat × TE)) (Γ : Sy) : List ResultVar → Option (List AV)
 | [] => some []
 | r :: l => match resA T Γ r with
  | some A => match resL T Γ l with
   | some m => some (A :: m)
   | none => none
  | none => none
def lvM : List AV → Bool
 | [] => true
 | .tup _ :: _ => false
 | .fn _ _ :: _ => false
 | _ :: r => lvM r
theorem lvM_get {w : World} {O O0 : Nat → Prop} {g : Nat → Value} {x : Value} : ∀ {l : List AV} {i : Nat} {B : AV}, lvM l = true → l[i]? = some B → Rp2 w O O0 g x B → RpM w O O0 g x B
 | [], _, _, _, h, _ => by simp at h
 | A :: r, 0, B, hl, h, hr => by
  simp at h
  subst h
  cases A <;> first | exact hr | cases hl
 | A :: r, i + 1, B, hl, h, hr => lvM_get (l := r) (i := i) (by cases A <;> first | exact hl | cases hl) (by simpa using h) hr
def retQ (T : List (Nat × TE)) (rs : List ResultVar) (R : AV) (N : List (Nat × Ob)) (Γ : Sy) : Prop := match resL T Γ rs with
 | some [A] => ∃ ρ : Ren, ρ = dedupR (mkRen2 A R []) ∧ nodupR ρ = true ∧ match2 Γ.own ρ A R ∧ matchOs Γ.own ρ N
 | some l => ∃ ρ : Ren, ρ = dedupR (mkRen2 (.tup l) R []) ∧ nodupR ρ = true ∧ (lvM l = true ∧ match2 Γ.own ρ (.tup l) R) ∧ matchOs Γ.own ρ N
 | none => False
def bodyQ (T : List (Nat × TE)) (rs : List ResultVar) (R : AV) (N : List (Nat × Ob)) : Exit → Sy → Prop
 | .normal, Γ => retQ T rs R N Γ
 | .ret, Γ => retQ T rs R N Γ
 | _, _ => False
def resSem (tmps : Array Value) : ResultVar → Sem Value
 | .tmp t => pure (tmps.getD t undef)
 | .cell b t => do loadVar t (← asAddr (tmps.getD b undef))
theorem resA_ok {P : Program} {T : List (Nat × TE)} (hT : TOk P T) {c : Cx} {Γ : Sy} {g : Nat → Value} {a : Act} {w : World} (hst : St c Γ g a w) {r : ResultVar} {A : AV} (h : resA T Γ r = some A) :
  ∃ v, (resSem a.tmps r).run P w = .ok v w ∧ Rp2 w (Oset Γ.own g) c.O0 g v A := by
 cases r with
 | tmp t =>
  refine ⟨_, rfl, ?_⟩
  simp only [resA] at h
  split at h
  · cases h
  · rename_i hne
    have h1 := hst.tmps t A h
    cases A <;> first | exact h1 | exact absurd h (hne _ _)
 | cell b ty =>
  simp only [resA] at h
  split at h
  · rename_i k j hb
    split at h
    · have h1 := hst.tmps b _ hb
      obtain ⟨bb, h2, h3⟩ := h1
      split at h
      · rename_i l hk
        split at h
        · rename_i te hte
          split at h
          · rename_i hc
            cases h
            simp only [Bool.and_eq_true] at hc
            obtain ⟨b', arr, e, h4, h5, h6, h7, h8⟩ := hst.hp.ok k _ hk
            rw [h2] at h4
            cases h4
            have hsz := Nat.eq_of_beq_eq_true hc.1.2
            have hrun := run_load_agg (P := P) (hT _ _ hte) hc.1.1 (p := 0) h6 (by rw [h7, hsz]) (fun j _ => by simp)
            refine ⟨.agg arr, ?_, fun i => arr.getD i undef, arr, rfl, h7, fun i B hB => ?_⟩
            · have h3' : a.tmps.getD b undef = .pointer (some ⟨bb, 0, none⟩) := h3
              simp only [Instr.loadAt, Instr.sureAddr, Sem.run_bind, Sem.run_pure, Result.andThen_ok] at hrun
              simp [resSem, h3', asAddr, hrun]
            · obtain ⟨y, h11, h12, h13⟩ := h8 i B hB
              have : arr.getD i undef = y := by simp [Array.getD_eq_getD_getElem?, h11]
              dsimp only
              rw [this]
              exact ⟨⟨h11, h12⟩, lv1_get hc.2 hB h13⟩
          · cases h
        · cases h
      · rename_i B hk
        split at h
        · rename_i te hte
          split at h
          · cases h
          · rename_i hagg
            cases h
            obtain ⟨b', y, e, h4, h5, h6, h7, h8⟩ := hst.hp.ok k _ hk
            rw [h2] at h4
            cases h4
            have hrun := run_load_scalar (P := P) (hT _ _ hte) hagg (p := 0) h6 (v := y) (by simp)
            refine ⟨y, ?_, h8⟩
            have h3' : a.tmps.getD b undef = .pointer (some ⟨bb, 0, none⟩) := h3
            simp only [Instr.loadAt, Instr.sureAddr, Sem.run_bind, Sem.run_pure, Result.andThen_ok] at hrun
            simp [resSem, h3', asAddr, hrun]
        · cases h
      · cases h
    · cases h
  · cases h
theorem resL_ok {P : Program} {T : List (Nat × TE)} (hT : TOk P T) {c : Cx} {Γ : Sy} {g : Nat → Value} {a : Act} {w : World} (hst : St c Γ g a w) : ∀ {rs : List ResultVar} {l : List AV}, resL T Γ rs = some l →
  ∃ vs : List Value, (rs.mapM (resSem a.tmps)).run P w = .ok vs w ∧ vs.length = l.length ∧
    ∀ (i : Nat) (A : AV) (v : Value), l[i]? = some A → vs[i]? = some v → Rp2 w (Oset Γ.own g) c.O0 g v A
 | [], l, h => by cases h; exact ⟨[], by simp [List.mapM_nil], rfl, fun i A v h => by simp at h⟩
 | r :: rs, l, h => by
  simp only [resL] at h
  split at h
  · rename_i A hA
    split at h
    · rename_i m hm
      cases h
      obtain ⟨v, h1, h2⟩ := resA_ok hT hst hA
      obtain ⟨vs, h3, h4, h5⟩ := resL_ok hT hst hm
      refine ⟨v :: vs, ?_, by simp [h4], fun i B u hB hu => ?_⟩
      · rw [List.mapM_cons, Sem.run_bind, h1]
        simp only [Result.andThen_ok, Sem.run_bind, h3, Sem.run_pure]
      · cases i with
        | zero => simp at hB hu; subst hB; subst hu; exact h2
        | succ i => exact h5 i B u (by simpa using hB) (by simpa using hu)
    · cases h
  · cases h
def resV : List Value → Value
 | [v] => v
 | vs => .tuple vs.toArray
theorem results_run {P : Program} {fn : Func} {tmps : Array Value} {w : World} {vs : List Value} (h : (fn.results.toList.mapM (resSem tmps)).run P w = .ok vs w) :
  (results fn tmps).run P w = .ok (resV vs) w := by
 have e : results fn tmps = (do let vs ← fn.results.mapM (resSem tmps); pure (if h : vs.size = 1 then vs[0] else .tuple vs)) := by
  unfold results
  congr 1
 rw [e, Array.mapM_eq_mapM_toList]
 simp only [Sem.run_bind, Sem.run_map, h, Result.andThen_ok, Sem.run_pure]
 cases vs with
 | nil => rfl
 | cons v r =>
  cases r with
  | nil => rfl
  | cons u r => rfl
theorem FnAt.of_body {P : Program} {T : List (Nat × TE)} (hT : TOk P T) {al : Bool} {f : FuncId} {fn : Func} {code : Code} {n : Nat} {rs : List ResultVar} {args : List SV} {R : AV} {N : List (Nat × Ob)} (hf : P.funcs[f]? = some fn)
  (hname : (fn.name == "runtime.NumGoroutine") = false) (hb : fn.body = some code) (hn : fn.ntmps = n) (hrs : fn.results.toList = rs) (hlen : args.length ≤ n)
  (h : W P n code ⟨initT al args 0, []⟩ (bodyQ T rs R N)) : FnAt P al f args R N := by
 refine ⟨⟨fn, hf, hname, by rw [hb]; rfl⟩, fun w O vals hO hargs => ?_⟩
 -- the call's own context
 let c : Cx := { w0 := w, n := n, O0 := fun b => (al = true ∧ O b) ∨ (al = false ∧ b < w.heap.size) }
 have hO0 : ∀ b, O b → c.O0 b := by
  intro b hb
  cases al with
  | true => exact .inl ⟨rfl, hb⟩
  | false => exact .inr ⟨rfl, hO b hb⟩
 have hclt : ∀ b, c.O0 b → b < w.heap.size := by
  rintro b (⟨_, hb⟩ | ⟨_, hb⟩)
  · exact hO b hb
  · exact hb
 have hsz : vals.length ≤ n := by rw [hargs.1]; exact hlen
 have hst : St c ⟨initT al args 0, []⟩ (fun _ => undef) { tmps := vals.toArray ++ Array.replicate (fn.ntmps - vals.toArray.size) undef, defers := [] } w := by
  refine ⟨rfl, ?_, (Keep.refl w).toB, fun b hb => ⟨hclt b hb, fun h => h⟩, fun t A hA => ?_, fun b x hb => (by cases hb), ⟨fun k o hk => (by cases hk), fun k k' o o' b hk => (by cases hk)⟩, fun b hb => (by obtain ⟨k, o, hk, _⟩ := hb; cases hk), fun _ _ => rfl⟩
  · simp [hn]
    show vals.length + (n - vals.length) = n
    omega
  · obtain ⟨_, S, h2, rfl⟩ := initT_get hA
    have ht : t < vals.length := by
     rw [hargs.1]
     simpa using (List.getElem?_eq_some_iff.1 h2).1
    have hv : vals[t]? = some vals[t] := List.getElem?_eq_getElem ht
    have h3 := hargs.2 t _ S hv (by simpa using h2)
    have : (vals.toArray ++ Array.replicate (fn.ntmps - vals.toArray.size) undef).getD t undef = vals[t] := by
     rw [Array.getD_eq_getD_getElem?, Array.getElem?_append_left (by simpa using ht)]
     simp [ht]
    dsimp only
    rw [this]
    refine inA_ok (h3.mono fun b x e fz hb hn => ⟨hb, fun h' => ?_⟩)
    rcases h' with ⟨k, o, hk, _⟩ | ⟨h', h''⟩
    · cases hk
    · rcases h'' with ⟨h4, h5⟩ | ⟨h4, _⟩
      · exact hn ⟨h4, h5⟩
      · rw [h4] at h'; cases h'
 refine calls_of_wp hf hb (wp_mono (h.out c _ _ w rfl hst) fun e a' w' hq => ?_)
 obtain ⟨Γ', g', h1, h2⟩ := hq
 have fin : retQ T rs R N Γ' → ∃ v, (results fn a'.tmps).run P w' = .ok v w' ∧ ∃ r, Ending.returned v = .returned r ∧ Keep w w' ∧ RetOk w w' O r R N := by
  intro hr
  unfold retQ at hr
  have conv : ∀ (ρ : Ren) (A : AV) (v : Value), nodupR ρ = true → match2 Γ'.own ρ A R → matchOs Γ'.own ρ N → Rp2 w' (Oset Γ'.own g') c.O0 g' v A → RetOk w w' O v R N := by
   intro ρ A v h3 h4 h5 h6
   have hap : ∀ b, O b → ¬ Oset Γ'.own g' b := fun b hb hO' => by
    have := hO b hb
    rcases h2.low b hO' with h7 | h7
    · have h7 : w.heap.size ≤ b := h7
      omega
    · exact h7
   refine ⟨gR ρ g', match2_ok h2.hp hO0 hap h5 h4 h6, (sub_hp h2.hp hO0 hap h5 h3 (Nat.le_refl _)).raise fun b hb => ?_⟩
   obtain ⟨k', k, _, ⟨o, ho⟩, h7⟩ := sub_oset h2.hp hO0 hap h5 hb
   exact (h2.low b ⟨k, o, ho, h7⟩).resolve_right id
  split at hr
  · rename_i A hA
    obtain ⟨ρ, _, h3, h4, h5⟩ := hr
    obtain ⟨vs, h6, h7, h8⟩ := resL_ok hT h2 hA
    have h9 := results_run (fn := fn) (by rw [hrs]; exact h6)
    match vs, h7 with
    | [v], _ => exact ⟨v, h9, v, rfl, h2.keep.none (fun _ => id), conv ρ A v h3 h4 h5 (h8 0 A v rfl rfl)⟩
  · rename_i l hne hA
    obtain ⟨ρ, _, h3, ⟨h4, h4'⟩, h5⟩ := hr
    obtain ⟨vs, h6, h7, h8⟩ := resL_ok hT h2 hA
    have h9 := results_run (fn := fn) (by rw [hrs]; exact h6)
    have hvs : resV vs = .tuple vs.toArray := by
     match vs, h7 with
     | [], _ => rfl
     | [v], h7 =>
      match l, h7, hne with
      | [A], _, hne => exact (hne A rfl).elim
     | _ :: _ :: _, _ => rfl
    rw [hvs] at h9
    refine ⟨_, h9, _, rfl, h2.keep.none (fun _ => id), conv ρ (.tup l) _ h3 h4' h5 ⟨fun i => vs.getD i undef, vs.toArray, rfl, by simp [h7], fun i B hB => ?_⟩⟩
    have hi : i < vs.length := by rw [h7]; exact (List.getElem?_eq_some_iff.1 hB).1
    have hv : vs[i]? = some vs[i] := List.getElem?_eq_getElem hi
    have : vs.getD i undef = vs[i] := by simp [List.getD, hi]
    dsimp only
    rw [this]
    exact ⟨by simp [hi], lvM_get h4 hB (h8 i B _ hB hv)⟩
  · exact hr.elim
 cases e with
 | normal => obtain ⟨v, h3, h4⟩ := fin h1; exact ⟨h2.defers, v, h3, h4⟩
 | ret => obtain ⟨v, h3, h4⟩ := fin h1; exact ⟨h2.defers, v, h3, h4⟩
 | exit id => exact h1.elim
 | goto l => exact h1.elim
 | panic ch => exact h1.elim
 | outgrown => exact h1.elim
def noSel : List Oper → Bool
 | [] => true
 | o :: r => (match o.op with | .select _ _ => false | _ => true) && noSel r
theorem noSel_ok {ops : Array Oper} (h : noSel ops.toList = true) : Region.noSelect ops = true := by
 have go : ∀ l : List Oper, noSel l = true → ∀ o ∈ l, (match o.op with | .select _ _ => false | _ => true) = true := by
  intro l
  induction l with
  | nil => intro _ o ho; cases ho
  | cons x r ih =>
   intro h o ho
   simp only [noSel, Bool.and_eq_true] at h
   rcases List.mem_cons.1 ho with rfl | ho
   · exact h.1
   · exact ih h.2 o ho
 unfold Region.noSelect
 rw [Array.all_eq_true_iff_forall_mem]
 intro o ho
 exact go _ h o (by simpa using ho)
def Side (p : Prop) : Prop := p
theorem Side.out {p : Prop} (h : Side p) : p := h
theorem Path.imp_of {p : Prop} (h : p) : ∀ {G : Path}, Path.imp G p
 | [] => h
 | _ :: r => fun _ => Path.imp_of h (G := r)
theorem W.resub {P : Program} {n : Nat} {Q : Exit → Sy → Prop} {x : Code} {Γ Γ' : Sy} (hs : Side (Sub Γ Γ' (mkRen Γ Γ'))) (h : W P n x Γ' Q) : W P n x Γ Q := W.sub hs h
def masks (ops : Array Oper) : List Nat := ops.toList.foldl (fun M o => M ++ [upm M o.after.toList 0]) []
theorem W.drawAll {P : Program} {n : Nat} {Q : Exit → Sy → Prop} {Γ : Sy} {T : List (Nat × TE)} (hT : TOk P T) (F : List Nat) (hmx : P.follows .mixedOrders = true) {id : Nat} {ops : Array Oper}
  (hd : (drawOk ops (masks ops) [] ops.size && noSel ops.toList) = true) (h : opsVC P T F n (dstsOf ops) [] ops.toList 0 ops.size Γ (Q .normal)) :
  W P n (.region id ops true) Γ Q := by
 simp only [Bool.and_eq_true] at hd
 exact W.draw hT F hmx (masks ops) [] ops.size (by rw [hd.1, noSel_ok hd.2]; rfl) h
def Ty.wf : (t : Ty) → t.T → Prop
 | .int k, (n : Int) => (Lit.int k n).wf = true
 | .bool, _ => True
 | .str, (s : ByteArray) => s.size ≤ maxLen
 | .sl t, (xs : List t.T) => xs.length ≤ maxLen ∧ ∀ x ∈ xs, t.wf x
 | .nil, _ => True
 | .cons h t, (x : h.T × t.T) => h.wf x.1 ∧ t.wf x.2
def fieldsOf (T : List (Nat × TE)) (e : TypeId) : Option (List TypeId) := match get? T e with
 | some te => match te.kind with
  | .strct l => match decide (l.map (·.1) = List.range l.length) && Nat.beq te.size l.length with
   | true => some (l.map (·.2))
   | false => none
  | .arr n e' => match Nat.beq te.size n with
   | true => some (List.replicate n e')
   | false => none
  | _ => none
 | none => none
def isKind (T : List (Nat × TE)) (e : TypeId) (p : TK → Bool) : Bool := match get? T e with
 | some te => p te.kind
 | none => false
def size1 (T : List (Nat × TE)) (e : TypeId) : Bool := match get? T e with
 | some te => Nat.beq te.size 1
 | none => false
mutual
def okLeaf (T : List (Nat × TE)) : Ty → TypeId → Bool
 | .int k, e => isKind T e fun | .int k' => decide (k = k') | _ => false
 | .bool, e => isKind T e fun | .bool => true | _ => false
 | .str, e => isKind T e fun | .str => true | _ => false
 | .sl t, e => match get? T e with
  | some te => match te.kind with
   | .sl e' => match get? T e' with
    | some te' => Nat.beq te'.size t.size && decide (0 < t.size) && t.good && (match t.leaf with
     | true => okLeaf T t e'
     | false => match fieldsOf T e' with
      | some fs => okFields T t fs
      | none => false)
    | none => false
   | _ => false
  | none => false
 | _, _ => false
def okFields (T : List (Nat × TE)) : Ty → List TypeId → Bool
 | .nil, [] => true
 | .cons h t, f :: fs => h.leaf && okLeaf T h f && size1 T f && okFields T t fs
 | _, _ => false
end
def okArg (T : List (Nat × TE)) (t : Ty) (e : TypeId) : Bool := match get? T e with
 | some te' => Nat.beq te'.size t.size && t.good && (match t.leaf with
  | true => okLeaf T t e
  | false => match fieldsOf T e with
   | some fs => okFields T t fs
   | none => false)
 | none => false
theorem TE.ok.cellsOf {P : Program} {t : TypeId} {x : TE} (h : x.ok P t) : P.cellsOf t = x.size := by
 obtain ⟨i, hi, _, hs, _⟩ := h.info
 simp [Program.cellsOf, hi, hs]
theorem TE.ok.str {P : Program} {t : TypeId} {x : TE} (h : x.ok P t) (hk : x.kind = .str) : P.underlying t = some .string := by
  obtain ⟨d, h1, h2⟩ := h.under
  rw [hk] at h2
  cases d with
  | struct fs => simp only [TK.of] at h2; split at h2 <;> cases h2
  | _ => first | (simp [TK.of] at h2; done) | (try simp [TK.of] at h2); (
      exact h1)
theorem TE.ok.arr {P : Program} {t : TypeId} {x : TE} (h : x.ok P t) {n : Nat} {e : TypeId} (hk : x.kind = .arr n e) : P.underlying t = some (.array n e) := by
  obtain ⟨d, h1, h2⟩ := h.under
  rw [hk] at h2
  cases d with
  | struct fs => simp only [TK.of] at h2; split at h2 <;> cases h2
  | _ => first | (simp [TK.of] at h2; done) | (try simp [TK.of] at h2); (
      obtain ⟨rfl, rfl⟩ := h2
      exact h1)
section
variable {H : Type} {enc : TypeId × Value → H} {P : Program} {T : List (Nat × TE)} {w : World} {held : Bool}
def FieldsRead (enc : TypeId × Value → H) (P : Program) (w : World) (held : Bool) (n : Nat) (fs : List TypeId) (cs : List Value) : Prop :=
 cs.length = fs.length ∧ ∀ (i : Nat) (f : TypeId) (v : Value), fs[i]? = some f → cs[i]? = some v → ∃ y, DataW.trod enc P w 0 (fun _ => true) held n f [v] = some y
theorem FieldsRead.tail {n : Nat} {f : TypeId} {fs : List TypeId} {v : Value} {cs : List Value} (h : FieldsRead enc P w held n (f :: fs) (v :: cs)) : FieldsRead enc P w held n fs cs :=
 ⟨by simpa using h.1, fun i f v h1 h2 => h.2 (i + 1) f v (by simpa using h1) (by simpa using h2)⟩
theorem size1_get {f : TypeId} (h : size1 T f = true) : ∃ te, get? T f = some te ∧ te.size = 1 := by
 unfold size1 at h
 split at h
 · rename_i te hte; exact ⟨te, hte, Nat.eq_of_beq_eq_true h⟩
 · cases h
theorem okFields_sizes : ∀ {t : Ty} {fs : List TypeId}, okFields T t fs = true → ∀ (i : Nat) (f : TypeId), fs[i]? = some f → size1 T f = true
 | .nil, [], _, i, f, hi => by simp at hi
 | .cons h t, g :: fs, hk, i, f, hi => by
  simp only [okFields, Bool.and_eq_true] at hk
  cases i with
  | zero =>
   simp at hi
   subst hi
   exact hk.1.2
  | succ i => exact okFields_sizes (t := t) (fs := fs) hk.2 i f (by simpa using hi)
 | .nil, _ :: _, hk, _, _, _ => by simp [okFields] at hk
 | .cons _ _, [], hk, _, _, _ => by simp [okFields] at hk
 | .int _, fs, hk, _, _, _ => by cases fs <;> simp [okFields] at hk
 | .bool, fs, hk, _, _, _ => by cases fs <;> simp [okFields] at hk
 | .str, fs, hk, _, _, _ => by cases fs <;> simp [okFields] at hk
 | .sl _, fs, hk, _, _, _ => by cases fs <;> simp [okFields] at hk
theorem take_one {cs : List Value} {i : Nat} {v : Value} (h : cs[i]? = some v) : (cs.drop i).take 1 = [v] := by
 have hi := (List.getElem?_eq_some_iff.1 h)
 obtain ⟨h1, h2⟩ := hi
 rw [List.drop_eq_getElem_cons h1, h2]
 rfl
theorem fields_of (hT : TOk P T) {n : Nat} {e : TypeId} {t : Ty} {fs : List TypeId} {cs : List Value} {x : DataW H × List MemPlace} (hf : fieldsOf T e = some fs) (hk : okFields T t fs = true) (h : DataW.trod enc P w 0 (fun _ => true) held n e cs = some x) :
  ∃ m, FieldsRead enc P w held m fs cs := by
 have hsz := okFields_sizes hk
 have one : ∀ (i : Nat) (f : TypeId), fs[i]? = some f → P.cellsOf f = 1 := fun i f hi => by
  obtain ⟨te, h1, h2⟩ := size1_get (hsz i f hi)
  rw [(hT _ _ h1).cellsOf, h2]
 unfold fieldsOf at hf
 split at hf
 · rename_i te hte
   have hok := hT _ _ hte
   split at hf
   · rename_i l hl
     split at hf
     · rename_i hr
       cases hf
       simp only [Bool.and_eq_true, decide_eq_true_eq] at hr
       obtain ⟨gs, hu, hgs⟩ := hok.strct hl
       obtain ⟨xs, m, _, _, hlen, hxl, hx⟩ := DataW.trod_struct hu h
       have hll : l.length = gs.size := by rw [← hgs]; simp
       have hcl : cs.length = l.length := by rw [hlen, hok.cellsOf, Nat.eq_of_beq_eq_true hr.2]
       refine ⟨m, by simpa using hcl, fun i f v hf hv => ?_⟩
       have hi : i < gs.size := by have := (List.getElem?_eq_some_iff.1 hf).1; simp at this; omega
       have hg : gs[i]? = some gs[i] := by simp [hi]
       have h1 : (gs.toList.map fun f => (f.offset, f.type))[i]? = some (gs[i].offset, gs[i].type) := by simp [hg]
       rw [hgs] at h1
       have h2 : (l.map (·.1))[i]? = some gs[i].offset := by simp [h1]
       rw [hr.1, List.getElem?_range (by omega)] at h2
       have h3 : (l.map (·.2))[i]? = some gs[i].type := by simp [h1]
       rw [h3] at hf
       cases hf
       have h4 := hx i _ hg
       have h5 : gs[i].offset = i := by simpa using h2.symm
       rw [h5, one i _ h3, take_one hv] at h4
       exact ⟨xs[i]'(by omega), by rw [h4, List.getElem?_eq_getElem]⟩
     · cases hf
   · rename_i m e' hl
     split at hf
     · rename_i hr
       cases hf
       obtain ⟨xs, m', _, _, hlen, hxl, hx⟩ := DataW.trod_array (hok.arr hl) h
       have hcl : cs.length = m := by rw [hlen, hok.cellsOf, Nat.eq_of_beq_eq_true hr]
       refine ⟨m', by simpa using hcl, fun i f v hf hv => ?_⟩
       have hi : i < m := by have := (List.getElem?_eq_some_iff.1 hf).1; simpa using this
       have h1 : P.cellsOf e' = 1 := one 0 e' (by rw [List.getElem?_replicate, if_pos (by omega)])
       rw [List.getElem?_replicate, if_pos hi] at hf
       cases hf
       have h4 := hx i hi
       rw [h1, Nat.mul_one, take_one hv] at h4
       exact ⟨xs[i]'(by omega), by rw [h4, List.getElem?_eq_getElem]⟩
     · cases hf
   · cases hf
 · cases hf
theorem isKind_get {e : TypeId} {p : TK → Bool} (h : isKind T e p = true) : ∃ te, get? T e = some te ∧ p te.kind = true := by
 unfold isKind at h
 split at h
 · rename_i te hte; exact ⟨te, hte, h⟩
 · cases h
theorem row_open (hT : TOk P T) {t : Ty} (hg : t.good = true) (hpos : 0 < t.size) {e e' : TypeId} {n : Nat} {cs : List Value} {x : DataW H × List MemPlace} (hu : P.underlying e = some (.slice e')) (hsz : P.cellsOf e' = t.size)
  (h : DataW.trod enc P w 0 (fun _ => true) held n e cs = some x)
  (each : ∀ (m : Nat) (ds : List Value) (y : DataW H × List MemPlace), ds.length = t.size → DataW.trod enc P w 0 (fun _ => true) held m e' ds = some y →
   ∃ (z : t.T) (v : Value), t.wf z ∧ v.cells.toList = ds ∧ RpS w (fun _ => False) v (t.enc z)) :
  ∃ (v : Value) (zs : List t.T), cs = [v] ∧ (Ty.sl t).wf zs ∧ RpS w (fun _ => False) v (.arr t zs) := by
 rcases DataW.trod_slice hu h with ⟨rfl, _⟩ | ⟨a, len, cap, elems, rest, m, _, rfl, _, _, hl, hm, hel, hx, _⟩
 · exact ⟨_, [], rfl, ⟨Nat.zero_le _, fun x hx => by simp at hx⟩, .nil t⟩
 · have one : ∀ i, i < len → ∃ (z : t.T) (v : Value) (ds : List Value), t.wf z ∧ v.cells.toList = ds ∧ ds.length = t.size ∧ RpS w (fun _ => False) v (t.enc z) ∧ ∀ j, j < t.size → w.cell? ((a.add (i * t.size)).add j) = ds[j]? := by
    intro i hi
    have h1 := hx i hi
    rw [List.getElem?_eq_getElem (by omega), Option.bind_eq_some_iff] at h1
    obtain ⟨ds, h2, h3⟩ := h1
    obtain ⟨_, h4, h5⟩ := World.cells?_some h2
    rw [hsz] at h4 h5
    obtain ⟨z, v, h6, h7, h8⟩ := each m ds _ h4 h3
    exact ⟨z, v, ds, h6, h7, h4, h8, fun j hj => h5 j hj⟩
   cases len with
   | zero => exact ⟨_, [], rfl, ⟨Nat.zero_le _, fun x hx => by simp at hx⟩, .emp t a cap⟩
   | succ len =>
    have ⟨zs, hzl, hzs⟩ : ∃ zs : List t.T, zs.length = len + 1 ∧ ∀ i z, zs[i]? = some z → t.wf z ∧ ∃ (v : Value) (ds : List Value), v.cells.toList = ds ∧ ds.length = t.size ∧ RpS w (fun _ => False) v (t.enc z) ∧ ∀ j, j < t.size → w.cell? ((a.add (i * t.size)).add j) = ds[j]? := by
     have go : ∀ k, k ≤ len + 1 → ∃ zs : List t.T, zs.length = k ∧ ∀ i z, zs[i]? = some z → t.wf z ∧ ∃ (v : Value) (ds : List Value), v.cells.toList = ds ∧ ds.length = t.size ∧ RpS w (fun _ => False) v (t.enc z) ∧ ∀ j, j < t.size → w.cell? ((a.add (i * t.size)).add j) = ds[j]? := by
      intro k
      induction k with
      | zero => exact fun _ => ⟨[], rfl, fun i z h => by simp at h⟩
      | succ k ih =>
       intro hk
       obtain ⟨zs, h1, h2⟩ := ih (by omega)
       obtain ⟨z, v, ds, h3, h4, h5, h6, h7⟩ := one k (by omega)
       refine ⟨zs ++ [z], by simp [h1], fun i y hy => ?_⟩
       rcases Nat.lt_or_ge i k with hik | hik
       · rw [List.getElem?_append_left (by omega)] at hy
         exact h2 i y hy
       · rw [List.getElem?_append_right (by omega)] at hy
         have : i = k := by
          have := (List.getElem?_eq_some_iff.1 hy).1
          simp at this
          omega
         subst this
         rw [h1] at hy
         simp at hy
         subst hy
         exact ⟨h3, v, ds, h4, h5, h6, h7⟩
     exact go (len + 1) (Nat.le_refl _)
    -- the block
    obtain ⟨z0, v0, ds0, _, _, hl0, _, hc0⟩ := one 0 (by omega)
    have hfirst := hc0 0 hpos
    rw [List.getElem?_eq_getElem (by omega)] at hfirst
    have e0 : (a.add (0 * t.size)).add 0 = a := by simp [Addr.add]
    rw [e0] at hfirst
    obtain ⟨b, off, spot⟩ := a
    have ⟨arr, el, fz, hb, hsp⟩ : ∃ arr el fz, w.heap[b]? = some (.cells arr el fz) ∧ spot = none := by
     unfold World.cell? at hfirst
     split at hfirst
     · rename_i c el fz hb
       split at hfirst
       · cases hfirst
       · rename_i hs
         refine ⟨c, el, fz, hb, ?_⟩
         simpa using hs
     · cases hfirst
    subst hsp
    have hzs' : ∀ i, ∃ v : Value, ∀ z, zs[i]? = some z → v.cells.size = t.size ∧ RpS w (fun _ => False) v (t.enc z) ∧ ∀ j, j < t.size → arr[off + (i * t.size + j)]? = v.cells[j]? := by
     intro i
     cases hz : zs[i]? with
     | none => exact ⟨undef, fun z h => by cases h⟩
     | some z =>
      obtain ⟨_, v, ds, h1, h2, h3, h4⟩ := hzs i z hz
      refine ⟨v, fun z' hz' => ?_⟩
      cases hz'
      refine ⟨by rw [← Array.length_toList, h1, h2], h3, fun j hj => ?_⟩
      have := h4 j hj
      rw [Addr.add_lit, Addr.add_lit, cell_of_row w b _ arr el fz hb, Nat.add_assoc] at this
      rw [this, ← h1]
      simp
    obtain ⟨f, hf⟩ := Classical.axiomOfChoice hzs'
    refine ⟨_, zs, rfl, ⟨by omega, fun z hz => ?_⟩, .arr b off cap (len + 1) t zs arr el fz f hb (fun h => h) hzl.symm hl hm (fun i hi => ?_) (fun i z hz => (hf i z hz).2.1)⟩
    · obtain ⟨i, hi⟩ := List.getElem?_of_mem hz
      exact (hzs i z hi).1
    · have hz : zs[i]? = some (zs[i]'(by omega)) := by rw [List.getElem?_eq_getElem]
      exact ⟨(hf i _ hz).1, (hf i _ hz).2.2⟩
theorem rec_mk {t : Ty} (hg : t.good = true) (hl : t.leaf = false) {ds : List Value} {z : t.T} (hlen : (t.encL z).length = ds.length)
  (h : ∀ (i : Nat) (B : SV), (t.encL z)[i]? = some B → ∃ v, ds[i]? = some v ∧ v.oneCell' = true ∧ RpS w (fun _ => False) v B) : RpS w (fun _ => False) (.agg ds.toArray) (t.enc z) := by
 rw [enc_cons t z hl]
 refine RpS.agg _ _ (fun i => ds.getD i undef) (by simpa using hlen.symm) (fun i hi => ?_) (fun i B hB => ?_)
 · obtain ⟨v, h1, h2, _⟩ := h i _ (List.getElem?_eq_getElem hi)
   simp [List.getD_eq_getElem?_getD, h1, h2]
 · obtain ⟨v, h1, _, h3⟩ := h i B hB
   simpa [List.getD_eq_getElem?_getD, h1] using h3
theorem good_cons {h t : Ty} (hg : (Ty.cons h t).good = true) : h.leaf = true ∧ h.good = true ∧ t.good = true ∧ t.leaf = false := by
 simp only [Ty.good, Bool.and_eq_true] at hg
 refine ⟨hg.1.1.1, hg.1.1.2, hg.1.2, ?_⟩
 cases t <;> first | rfl | (simp at hg)
mutual
theorem leaf_open (hT : TOk P T) : ∀ (t : Ty) (e : TypeId), okLeaf T t e = true → t.good = true → ∀ (n : Nat) (cs : List Value) (x : DataW H × List MemPlace), DataW.trod enc P w 0 (fun _ => true) held n e cs = some x →
  ∃ (v : Value) (z : t.T), cs = [v] ∧ t.wf z ∧ RpS w (fun _ => False) v (t.enc z)
 | .int k, e, hk, _, n, cs, x, h => by
  simp only [okLeaf] at hk
  obtain ⟨te, hte, hp⟩ := isKind_get hk
  cases hkd : te.kind <;> rw [hkd] at hp <;> first | (cases hp; done) | skip
  rename_i k'
  have : k = k' := by simpa using hp
  subst this
  obtain ⟨m, h1, h2, h3⟩ := DataW.trod_int ((hT _ _ hte).int hkd) h
  exact ⟨_, m, h1, h3, .lit _ rfl⟩
 | .bool, e, hk, _, n, cs, x, h => by
  simp only [okLeaf] at hk
  obtain ⟨te, hte, hp⟩ := isKind_get hk
  cases hkd : te.kind <;> rw [hkd] at hp <;> first | (cases hp; done) | skip
  obtain ⟨m, h1, h2⟩ := DataW.trod_bool ((hT _ _ hte).bool hkd) h
  exact ⟨_, m, h1, trivial, .lit _ rfl⟩
 | .str, e, hk, _, n, cs, x, h => by
  simp only [okLeaf] at hk
  obtain ⟨te, hte, hp⟩ := isKind_get hk
  cases hkd : te.kind <;> rw [hkd] at hp <;> first | (cases hp; done) | skip
  obtain ⟨m, h1, h2, h3⟩ := DataW.trod_string ((hT _ _ hte).str hkd) h
  exact ⟨_, m, h1, h3, .lit _ rfl⟩
 | .sl t, e, hk, hg, n, cs, x, h => by
  simp only [okLeaf] at hk
  split at hk
  · rename_i te hte
    split at hk
    · rename_i e' hkd
      split at hk
      · rename_i te' hte'
        simp only [Bool.and_eq_true] at hk
        obtain ⟨⟨⟨h1, hpos⟩, hgt⟩, h2⟩ := hk
        have hsz : P.cellsOf e' = t.size := by rw [(hT _ _ hte').cellsOf, Nat.eq_of_beq_eq_true h1]
        obtain ⟨v, zs, h3, h4, h5⟩ := row_open hT hgt (by simpa using hpos) ((hT _ _ hte).sl hkd) hsz h (fun m ds y hds hy => by
         cases hl : t.leaf with
         | true =>
          rw [hl] at h2
          obtain ⟨v, z, h6, h7, h8⟩ := leaf_open hT t e' h2 hgt m ds y hy
          refine ⟨z, v, h7, ?_, h8⟩
          rw [h6, h8.cells1 (enc_leaf t z hl)]
         | false =>
          rw [hl] at h2
          dsimp only at h2
          split at h2
          · rename_i fs hfs
            obtain ⟨m', hr⟩ := fields_of hT hfs h2 hy
            obtain ⟨z, h6, h7, h8⟩ := fields_open hT t fs h2 hgt hl m' ds hr
            exact ⟨z, .agg ds.toArray, h6, by simp [Value.cells], rec_mk hgt hl h7 h8⟩
          · cases h2)
        exact ⟨v, zs, h3, h4, h5⟩
      · cases hk
    · cases hk
  · cases hk
 | .nil, e, hk, _, n, cs, x, h => by simp [okLeaf] at hk
 | .cons _ _, e, hk, _, n, cs, x, h => by simp [okLeaf] at hk
theorem fields_open (hT : TOk P T) : ∀ (t : Ty) (fs : List TypeId), okFields T t fs = true → t.good = true → t.leaf = false → ∀ (n : Nat) (cs : List Value), FieldsRead enc P w held n fs cs →
  ∃ z : t.T, t.wf z ∧ (t.encL z).length = cs.length ∧ ∀ (i : Nat) (B : SV), (t.encL z)[i]? = some B → ∃ v, cs[i]? = some v ∧ v.oneCell' = true ∧ RpS w (fun _ => False) v B
 | .nil, [], _, _, _, n, cs, hr => by
  have : cs = [] := List.eq_nil_of_length_eq_zero (by simpa using hr.1)
  subst this
  exact ⟨(), trivial, rfl, fun i B h => by simp [Ty.encL] at h⟩
 | .cons hd t, f :: fs, hk, hg, _, n, cs, hr => by
  simp only [okFields, Bool.and_eq_true] at hk
  obtain ⟨g1, g2, g3, g4⟩ := good_cons hg
  cases cs with
  | nil => have := hr.1; simp at this
  | cons v cs =>
   obtain ⟨y, hy⟩ := hr.2 0 f v rfl rfl
   obtain ⟨v', z, h1, h2, h3⟩ := leaf_open hT hd f hk.1.1.2 g2 n [v] y hy
   cases h1
   obtain ⟨zs, h4, h5, h6⟩ := fields_open hT t fs hk.2 g3 g4 n cs (FieldsRead.tail hr)
   refine ⟨(z, zs), ⟨h2, h4⟩, by simp [Ty.encL, h5], fun i B hB => ?_⟩
   cases i with
   | zero =>
    simp [Ty.encL] at hB
    subst hB
    exact ⟨v, rfl, h3.one (enc_leaf hd z g1), h3⟩
   | succ i =>
    obtain ⟨u, h7, h8⟩ := h6 i B (by simpa [Ty.encL] using hB)
    exact ⟨u, by simpa using h7, h8⟩
 | .nil, _ :: _, hk, _, _, _, _, _ => by simp [okFields] at hk
 | .cons _ _, [], hk, _, _, _, _, _ => by simp [okFields] at hk
 | .int _, fs, hk, _, hl, _, _, _ => by cases hl
 | .bool, fs, hk, _, hl, _, _, _ => by cases hl
 | .str, fs, hk, _, hl, _, _, _ => by cases hl
 | .sl _, fs, hk, _, hl, _, _, _ => by cases hl
end
theorem okWide_noAgg {P : Program} {W : World} {r : Reach} {base : Nat} {e : TypeId} {te : TE} (hte : te.ok P e) {v : Value} (hv : Value.okWide P W r base e v) : match te.kind with
  | .int _ => ∀ cs, v ≠ .agg cs
  | .bool => ∀ cs, v ≠ .agg cs
  | .str => ∀ cs, v ≠ .agg cs
  | .sl _ => ∀ cs, v ≠ .agg cs
  | .strct _ => ∃ cs, v = .agg cs
  | .arr _ _ => ∃ cs, v = .agg cs
  | _ => True := by
 obtain ⟨d, h1, h2⟩ := hte.under
 rw [← h2]
 cases d <;> simp only [TK.of] <;> first | trivial | skip
 all_goals simp only [Value.okWide, h1, Cell.okWide] at hv
 all_goals first
  | (obtain ⟨cs, h3, _⟩ := hv; exact ⟨cs, h3⟩)
  | (obtain ⟨cs, h3, _⟩ := hv; generalize (List.all _ _) = b; cases b; exact trivial; exact ⟨cs, h3⟩)
  | (intro cs e; subst e; simp [Cell.ok, h1] at hv)
theorem arg_open (hT : TOk P T) {t : Ty} {e : TypeId} (hk : okArg T t e = true) {v : Value} {d : DataW H} {ps : List MemPlace} {base : Nat} {r : Reach} (hv : Value.okWide P w r base e v)
  (h : DataW.Trod enc P w 0 (fun _ => true) held e v d ps) : ∃ z : t.T, t.wf z ∧ RpS w (fun _ => False) v (t.enc z) := by
 obtain ⟨n, h⟩ := h
 unfold okArg at hk
 split at hk
 · rename_i te hte
   simp only [Bool.and_eq_true] at hk
   obtain ⟨⟨h1, hg⟩, h2⟩ := hk
   cases hl : t.leaf with
   | true =>
    rw [hl] at h2
    obtain ⟨u, z, h3, h4, h5⟩ := leaf_open hT t e h2 hg n _ _ h
    refine ⟨z, h4, ?_⟩
    have : v = u := by
     have hu := h5.one (enc_leaf t z hl)
     cases v with
     | agg cs =>
      exfalso
      have h6 := okWide_noAgg (hT _ _ hte) hv
      cases t <;> simp only [okLeaf] at h2 <;> first | (cases hl; done) | skip
      case sl =>
       rw [hte] at h2
       dsimp only at h2
       split at h2
       · rename_i hkd; rw [hkd] at h6; exact h6 _ rfl
       · cases h2
      all_goals
       obtain ⟨te', hte', hp⟩ := isKind_get h2
       rw [hte] at hte'
       cases hte'
       cases hkd : te.kind <;> rw [hkd] at hp h6 <;> first | (cases hp; done) | exact h6 _ rfl
     | _ => simpa [Value.cells] using h3
    rw [this]; exact h5
   | false =>
    rw [hl] at h2
    dsimp only at h2
    split at h2
    · rename_i fs hfs
      obtain ⟨m, hr⟩ := fields_of hT hfs h2 h
      obtain ⟨z, h4, h5, h6⟩ := fields_open hT t fs h2 hg hl m _ hr
      refine ⟨z, h4, ?_⟩
      have : v = .agg (v.cells.toList.toArray) := by
       have h7 := okWide_noAgg (hT _ _ hte) hv
       have h8 : ∃ cs, v = .agg cs := by
        unfold fieldsOf at hfs
        rw [hte] at hfs
        dsimp only at hfs
        split at hfs
        · rename_i hkd; rw [hkd] at h7; exact h7
        · rename_i hkd; rw [hkd] at h7; exact h7
        · cases hfs
       obtain ⟨cs, rfl⟩ := h8
       simp [Value.cells]
      rw [this]
      exact rec_mk hg hl h5 h6
    · cases h2
 · cases hk
end
open Go.ChangeShapes Go.WideShapes Go.ChangeAt Go.RowKit
def TyArgs : List Ty → Type
 | [] => Unit
 | t :: r => t.T × TyArgs r
def wfArgs : (l : List Ty) → TyArgs l → Prop
 | [], _ => True
 | t :: r, x => t.wf x.1 ∧ wfArgs r x.2
def encArgs : (l : List Ty) → TyArgs l → List SV
 | [], _ => []
 | t :: r, x => t.enc x.1 :: encArgs r x.2
def okArgs (T : List (Nat × TE)) : List Ty → List TypeId → Bool
 | [], [] => true
 | t :: r, e :: es => okArg T t e && okArgs T r es
 | _, _ => false
def rowedArgs (P : Program) (ts : List TypeId) : Bool := ts.all fun t => P.readableRec t && decide (t < P.types.size)
theorem Keep.below {w w' : World} (h : Keep w w') : Below w.heap.size w w' := ⟨h.os, h.tape, h.output, h.size, h.b⟩
section
variable {H : Type} {enc : TypeId × Value → H} {P : Program} {T : List (Nat × TE)}
theorem args_open (hT : TOk P T) {w : World} {held : Bool} {base : Nat} {r : Reach} : ∀ {τs : List Ty} {ts : List TypeId} {vs : List Value} {ds : List (DataW H)} {ps : List MemPlace}, okArgs T τs ts = true →
  (∀ (j : Nat) t v, ts[j]? = some t → vs[j]? = some v → Value.okWide P w r base t v) → DataW.TrodAll enc P w 0 (fun _ => true) held ts vs ds ps →
  ∃ zs : TyArgs τs, wfArgs τs zs ∧ ArgsOk w (fun _ => False) vs (encArgs τs zs) ∧ ds.length = ts.length
 | [], [], [], [], _, _, _, _ => ⟨(), trivial, ⟨rfl, fun i v A h => by simp at h⟩, rfl⟩
 | τ :: τs, t :: ts, v :: vs, d :: ds, _, hk, hv, ⟨p, q, h1, h2, _⟩ => by
  simp only [okArgs, Bool.and_eq_true] at hk
  obtain ⟨z, h3, h4⟩ := arg_open hT hk.1 (hv 0 t v rfl rfl) h1
  obtain ⟨zs, h5, h6, h7⟩ := args_open hT (τs := τs) hk.2 (fun j t v h h' => hv (j + 1) t v (by simpa using h) (by simpa using h')) h2
  refine ⟨(z, zs), ⟨h3, h5⟩, ⟨by simp [encArgs, h6.1], fun i v A hv hA => ?_⟩, by simp [h7]⟩
  cases i with
  | zero => simp [encArgs] at hv hA; subst hv; subst hA; exact h4
  | succ i => exact h6.2 i v A (by simpa using hv) (by simpa [encArgs] using hA)
 | [], _ :: _, _, _, _, hk, _, _ => by simp [okArgs] at hk
 | _ :: _, [], _, _, _, hk, _, _ => by simp [okArgs] at hk
 | [], [], _ :: _, _, _, _, _, h => h.elim
 | [], [], [], _ :: _, _, _, _, h => h.elim
 | _ :: _, _ :: _, [], _, _, _, _, h => h.elim
 | _ :: _, _ :: _, _ :: _, [], _, _, _, h => h.elim
theorem args_shut (hl : laidOutB P = true) {W W' : World} (hb : Below W.heap.size W W') : ∀ {ts : List TypeId} {vs : List Value} {ds : List (DataW H)} {ps : List MemPlace}, rowedArgs P ts = true →
  (∀ x ∈ ps, x.block < W.heap.size) → DataW.TrodAll enc P W 0 (fun _ => true) true ts vs ds ps → DataW.TrodAll enc P W' 0 (fun b => decide (b < W.heap.size)) true ts vs ds ps
 | [], [], [], _, _, _, h => h
 | t :: ts, v :: vs, d :: ds, _, hr, hlt, ⟨p, q, h1, h2, h3⟩ => by
  simp only [rowedArgs, List.all_cons, Bool.and_eq_true, decide_eq_true_eq] at hr
  subst h3
  exact ⟨p, q, Below.trod hl hr.1.1 hr.1.2 h1 hb (fun x hx => hlt x (by simp [hx])), args_shut hl hb hr.2 (fun x hx => hlt x (by simp [hx])) h2, rfl⟩
 | [], [], _ :: _, _, _, _, h => h.elim
 | [], _ :: _, _, _, _, _, h => h.elim
 | _ :: _, [], _, _, _, _, h => h.elim
 | _ :: _, _ :: _, [], _, _, _, h => h.elim
theorem law_contract (hT : TOk P T) (hl : laidOutB P = true) {f : FuncId} {fn : Func} {s : ChangeSpec} (hvars : s.vars = []) {ts : List TypeId} (hts : fn.params.toList = ts) (hro : rowedArgs P ts = true) {tb : TypeId}
  (hres : fn.resultTypes = #[tb]) (hub : P.underlying tb = some .bool) {τs : List Ty} (hk : okArgs T τs ts = true)
  (hs : ∀ ds : List (DataW H), ds.length = ts.length → (s.fn H ds).results = [.lit (.bool true)] ∧ (s.fn H ds).args = ds ∧ (s.fn H ds).vars = [])
  (hfn : ∀ zs : TyArgs τs, wfArgs τs zs → FnAt P false f (encArgs τs zs) (.lit (.bool true)) [])
  {W : World} {base : Nat} {args : Array Value} {ds gs : List (DataW H)} {before : List MemPlace}
  (hval : ∀ (j : Nat) t v, fn.params[j]? = some t → args[j]? = some v → Value.okWide P W .any base t v)
  (hW : DataW.Whole enc P fn.params.toList s.vars false W args.toList ds gs before) :
  Calls P f args W fun e W' => ∃ v, e = .returned v ∧ s.post enc P fn false true false false W args v W' := by
 have hW' := hW
 obtain ⟨p, q, hA, hV, rfl, hfz, hnd⟩ := hW
 rw [hvars] at hV
 obtain ⟨rfl, rfl⟩ := trodVars_none hV
 rw [hts] at hA
 obtain ⟨zs, h1, h2, h3⟩ := args_open hT (τs := τs) hk (fun j t v ht hv => hval j t v (by rw [← hts] at ht; simpa using ht) (by simpa using hv)) hA
 obtain ⟨_, h4⟩ := hfn zs h1
 have h5 := h4 W (fun _ => False) args.toList (fun _ h => h.elim) ⟨h2.1, fun i v A hv hB => (h2.2 i v A hv hB).mono fun b x e fz hb hn => ⟨hb, fun h => h.2⟩⟩
 refine h5.mono fun e W' ⟨r, he, hkp, g, hr, _⟩ => ?_
 have hrv : r = .bool true := hr.1
 subst hrv
 have hb := hkp.below
 obtain ⟨h6, h7, h8⟩ := hs ds h3
 have hlt : ∀ x ∈ p, x.block < W.heap.size := DataW.TrodAll.lt hA
 refine ⟨_, he, ds, [], p ++ [], [], p, [], hW', ?_, ?_, ?_, hb.frame _, fun h => by cases h⟩
 · rw [hres]
   simp only [List.append_nil, h6]
   exact trodAll_mk1 (shut_bool hub _)
 · rw [hts]
   simp only [List.append_nil, h7]
   exact args_shut hl hb hro hlt hA
 · rw [hvars]
   simp only [List.append_nil, h8]
   rfl
end
end Go.Vc
