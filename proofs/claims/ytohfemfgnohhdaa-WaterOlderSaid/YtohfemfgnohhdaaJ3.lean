/- Joined of: Tys Vc24 Vc25 Vc26 W1 W2 W3 W4 W5 W6 W7. No condition. -/
import Derived.Test.YtohfemfgnohhdaaProg
import Derived.Test.YtohfemfgnohhdaaJ2

/- The table of types of the translation, for the symbolic machine. No condition. -/
namespace Go.Proofs.Ytohfemfgnohhdaa
open Go Go.Vc
set_option linter.unusedVariables false
def te2 : TE := { kind := .int .i64, size := 1, bytes := 8, zero := .int .i64 0, ty := some (.int .i64) }
theorem te2_ok : te2.ok Try.prog 2 := ⟨by kernel_rfl, by kernel_rfl, fun y h => by cases h; exact ⟨rfl, rfl, rfl, by decide, by decide, rfl⟩⟩
def te3 : TE := { kind := .int .i64, size := 1, bytes := 8, zero := .int .i64 0, ty := some (.int .i64) }
theorem te3_ok : te3.ok Try.prog 3 := ⟨by kernel_rfl, by kernel_rfl, fun y h => by cases h; exact ⟨rfl, rfl, rfl, by decide, by decide, rfl⟩⟩
def te4 : TE := { kind := .bool, size := 1, bytes := 1, zero := .bool false, ty := some .bool }
theorem te4_ok : te4.ok Try.prog 4 := ⟨by kernel_rfl, by kernel_rfl, fun y h => by cases h; exact ⟨rfl, rfl, rfl, by decide, by decide, rfl⟩⟩
def te5 : TE := { kind := .int .u8, size := 1, bytes := 1, zero := .int .u8 0, ty := some (.int .u8) }
theorem te5_ok : te5.ok Try.prog 5 := ⟨by kernel_rfl, by kernel_rfl, fun y h => by cases h; exact ⟨rfl, rfl, rfl, by decide, by decide, rfl⟩⟩
def te9 : TE := { kind := .str, size := 1, bytes := 16, zero := .string ByteArray.empty, ty := some .str }
theorem te9_ok : te9.ok Try.prog 9 := ⟨by kernel_rfl, by kernel_rfl, fun y h => by cases h; exact ⟨rfl, rfl, rfl, by decide, by decide, rfl⟩⟩
def te12 : TE := { kind := .int .u64, size := 1, bytes := 8, zero := .int .u64 0, ty := some (.int .u64) }
theorem te12_ok : te12.ok Try.prog 12 := ⟨by kernel_rfl, by kernel_rfl, fun y h => by cases h; exact ⟨rfl, rfl, rfl, by decide, by decide, rfl⟩⟩
def te17 : TE := { kind := .oth, size := 1, bytes := 8, zero := .pointer none, ty := none }
theorem te17_ok : te17.ok Try.prog 17 := ⟨by kernel_rfl, by kernel_rfl, fun y h => by cases h⟩
def te21 : TE := { kind := .int .i32, size := 1, bytes := 4, zero := .int .i32 0, ty := some (.int .i32) }
theorem te21_ok : te21.ok Try.prog 21 := ⟨by kernel_rfl, by kernel_rfl, fun y h => by cases h; exact ⟨rfl, rfl, rfl, by decide, by decide, rfl⟩⟩
def te22 : TE := { kind := .sl 3, size := 1, bytes := 24, zero := .slice none 0 0, ty := some (.sl (.int .i64)) }
theorem te22_ok : te22.ok Try.prog 22 := ⟨by kernel_rfl, by kernel_rfl, fun y h => by cases h; exact ⟨rfl, rfl, rfl, by decide, by decide, rfl⟩⟩
def te23 : TE := { kind := .sl 22, size := 1, bytes := 24, zero := .slice none 0 0, ty := some (.sl (.sl (.int .i64))) }
theorem te23_ok : te23.ok Try.prog 23 := ⟨by kernel_rfl, by kernel_rfl, fun y h => by cases h; exact ⟨rfl, rfl, rfl, by decide, by decide, rfl⟩⟩
def te24 : TE := { kind := .strct [(0, 22), (1, 23)], size := 2, bytes := 48, zero := .agg #[.slice none 0 0, .slice none 0 0], ty := some (.cons (.sl (.int .i64)) (.cons (.sl (.sl (.int .i64))) .nil)) }
theorem te24_ok : te24.ok Try.prog 24 := ⟨by kernel_rfl, by kernel_rfl, fun y h => by cases h; exact ⟨rfl, rfl, rfl, by decide, by decide, rfl⟩⟩
def te25 : TE := { kind := .strct [(0, 22), (1, 23)], size := 2, bytes := 48, zero := .agg #[.slice none 0 0, .slice none 0 0], ty := some (.cons (.sl (.int .i64)) (.cons (.sl (.sl (.int .i64))) .nil)) }
theorem te25_ok : te25.ok Try.prog 25 := ⟨by kernel_rfl, by kernel_rfl, fun y h => by cases h; exact ⟨rfl, rfl, rfl, by decide, by decide, rfl⟩⟩
def te28 : TE := { kind := .int .i64, size := 1, bytes := 8, zero := .int .i64 0, ty := some (.int .i64) }
theorem te28_ok : te28.ok Try.prog 28 := ⟨by kernel_rfl, by kernel_rfl, fun y h => by cases h; exact ⟨rfl, rfl, rfl, by decide, by decide, rfl⟩⟩
def te42 : TE := { kind := .arr 3 5, size := 3, bytes := 3, zero := .agg #[.int .u8 0, .int .u8 0, .int .u8 0], ty := none }
theorem te42_ok : te42.ok Try.prog 42 := ⟨by kernel_rfl, by kernel_rfl, fun y h => by cases h⟩
def te56 : TE := { kind := .strct [(0, 22), (1, 23)], size := 2, bytes := 48, zero := .agg #[.slice none 0 0, .slice none 0 0], ty := some (.cons (.sl (.int .i64)) (.cons (.sl (.sl (.int .i64))) .nil)) }
theorem te56_ok : te56.ok Try.prog 56 := ⟨by kernel_rfl, by kernel_rfl, fun y h => by cases h; exact ⟨rfl, rfl, rfl, by decide, by decide, rfl⟩⟩
def te57 : TE := { kind := .strct [(0, 22), (1, 23)], size := 2, bytes := 48, zero := .agg #[.slice none 0 0, .slice none 0 0], ty := some (.cons (.sl (.int .i64)) (.cons (.sl (.sl (.int .i64))) .nil)) }
theorem te57_ok : te57.ok Try.prog 57 := ⟨by kernel_rfl, by kernel_rfl, fun y h => by cases h; exact ⟨rfl, rfl, rfl, by decide, by decide, rfl⟩⟩
def te66 : TE := { kind := .sl 4, size := 1, bytes := 24, zero := .slice none 0 0, ty := some (.sl .bool) }
theorem te66_ok : te66.ok Try.prog 66 := ⟨by kernel_rfl, by kernel_rfl, fun y h => by cases h; exact ⟨rfl, rfl, rfl, by decide, by decide, rfl⟩⟩
def te82 : TE := { kind := .int .u32, size := 1, bytes := 4, zero := .int .u32 0, ty := some (.int .u32) }
theorem te82_ok : te82.ok Try.prog 82 := ⟨by kernel_rfl, by kernel_rfl, fun y h => by cases h; exact ⟨rfl, rfl, rfl, by decide, by decide, rfl⟩⟩
def te86 : TE := { kind := .oth, size := 1, bytes := 8, zero := .pointer none, ty := none }
theorem te86_ok : te86.ok Try.prog 86 := ⟨by kernel_rfl, by kernel_rfl, fun y h => by cases h⟩
@[reducible] def tys : List (Nat × TE) := [(2, te2), (3, te3), (4, te4), (5, te5), (9, te9), (12, te12), (17, te17), (21, te21), (22, te22), (23, te23), (24, te24), (25, te25), (28, te28), (42, te42), (56, te56), (57, te57), (66, te66), (82, te82), (86, te86)]
theorem tys_ok : TOk Try.prog tys := TOk.cons te2_ok (TOk.cons te3_ok (TOk.cons te4_ok (TOk.cons te5_ok (TOk.cons te9_ok (TOk.cons te12_ok (TOk.cons te17_ok (TOk.cons te21_ok (TOk.cons te22_ok (TOk.cons te23_ok (TOk.cons te24_ok (TOk.cons te25_ok (TOk.cons te28_ok (TOk.cons te42_ok (TOk.cons te56_ok (TOk.cons te57_ok (TOk.cons te66_ok (TOk.cons te82_ok (TOk.cons te86_ok (TOk.nil _)))))))))))))))))))
theorem mixed : Try.prog.follows .mixedOrders = true := by kernel_rfl
end Go.Proofs.Ytohfemfgnohhdaa
/- A region of few operations: every order is walked. No condition. -/
namespace Go.Vc
set_option linter.unusedVariables false
set_option linter.unusedSimpArgs false

inductive Both (p q : Prop) : Prop
  | mk (hp : p) (hq : q) : Both p q
inductive Leaf (p : Prop) : Prop
  | mk (hp : p) : Leaf p
/-- What must come before, directly. -/
def dirm : List Edge → Nat → Nat
  | [], s => s
  | e :: r, s => match Region.binds .any e with
    | true => dirm r (s ||| 2 ^ e.on)
    | false => dirm r s
theorem dirm_bit {i : Nat} : ∀ {l : List Edge} {s : Nat}, (dirm l s).testBit i = true → s.testBit i = true ∨ ∃ e ∈ l, Region.binds .any e = true ∧ e.on = i
  | [], s, h => .inl h
  | e :: r, s, h => by
    simp only [dirm] at h
    split at h
    · rename_i hb
      rcases dirm_bit h with h1 | ⟨e', h1, h2, h3⟩
      · simp only [Nat.testBit_or, Bool.or_eq_true] at h1
        rcases h1 with h1 | h1
        · exact .inl h1
        · refine .inr ⟨e, by simp, hb, ?_⟩
          rw [Nat.testBit_two_pow] at h1
          simpa using h1
      · exact .inr ⟨e', by simp [h1], h2, h3⟩
    · rcases dirm_bit h with h1 | ⟨e', h1, h2, h3⟩
      · exact .inl h1
      · exact .inr ⟨e', by simp [h1], h2, h3⟩
def dirms (ops : Array Oper) : List Nat := ops.toList.map fun o => dirm o.after.toList 0
/-- Those that may come now. -/
def rdy (done : Nat) : List Nat → Nat → List Nat
  | [], _ => []
  | e :: r, i => match Nat.beq (Nat.land done (2 ^ i)) 0 && Nat.beq (Nat.land done e) e with
    | true => i :: rdy done r (i + 1)
    | false => rdy done r (i + 1)
def eachP : List Nat → (Nat → Prop) → Prop
  | [], _ => True
  | [i], p => p i
  | i :: r, p => Both (p i) (eachP r p)
theorem eachP_mem : ∀ {l : List Nat} {p : Nat → Prop}, eachP l p → ∀ i ∈ l, p i
  | [], p, _, i, hi => by cases hi
  | [j], p, h, i, hi => by
    simp only [List.mem_singleton] at hi
    rw [hi]; exact h
  | j :: k :: r, p, h, i, hi => by
    obtain ⟨h1, h2⟩ : Both (p j) (eachP (k :: r) p) := h
    rcases List.mem_cons.1 hi with rfl | hi
    · exact h1
    · exact eachP_mem h2 i hi
theorem rdy_mem {done i : Nat} : ∀ {E : List Nat} {s e : Nat}, E[i]? = some e → done.testBit (s + i) = false → (∀ j, e.testBit j = true → done.testBit j = true) → (s + i) ∈ rdy done E s := by
  induction i with
  | zero =>
    intro E s e he hd hp
    cases E with
    | nil => cases he
    | cons x r =>
      simp only [List.getElem?_cons_zero, Option.some.injEq] at he
      subst he
      have h1 : Nat.beq (Nat.land done (2 ^ s)) 0 = true := by
        rw [Nat.beq_eq]
        refine Nat.eq_of_testBit_eq fun j => ?_
        show (done &&& 2 ^ s).testBit j = _
        rw [Nat.testBit_and, Nat.zero_testBit, Nat.testBit_two_pow]
        by_cases h : s = j
        · subst h; simp only [Nat.add_zero] at hd; simp [hd]
        · simp [h]
      have h2 : Nat.beq (Nat.land done x) x = true := by
        rw [Nat.beq_eq]
        refine Nat.eq_of_testBit_eq fun j => ?_
        show (done &&& x).testBit j = _
        rw [Nat.testBit_and]
        cases h : x.testBit j with
        | false => simp
        | true => simp [hp j h]
      simp only [rdy, h1, h2, Bool.and_self, Nat.add_zero, List.mem_cons, true_or]
  | succ i ih =>
    intro E s e he hd hp
    cases E with
    | nil => cases he
    | cons x r =>
      have := ih (E := r) (s := s + 1) (by simpa using he) (by rw [show s + 1 + i = s + (i + 1) from by omega]; exact hd) hp
      rw [show s + 1 + i = s + (i + 1) from by omega] at this
      simp only [rdy]
      split
      · exact List.mem_cons_of_mem _ this
      · exact this

/-- Every order. -/
def treeVC (P : Program) (T : List (Nat × TE)) (F : List Nat) (n : Nat) (ops : Array Oper) (E : List Nat) : Nat → Nat → Sy → (Sy → Prop) → Prop
  | 0, _, Γ, K => K Γ
  | k + 1, done, Γ, K => eachP (rdy done E 0) fun i => match ops[i]? with
    | some o => opsVC P T F n (dstsOf ops) [] [o] i 0 Γ fun Γ' => treeVC P T F n ops E k (Nat.lor done (2 ^ i)) Γ' K
    | none => False

theorem one_sound {P : Program} {T : List (Nat × TE)} {F : List Nat} (hT : TOk P T) {c : Cx} {ops : Array Oper} {K : Sy → Prop} {i : Nat} {o : Oper} {Γ : Sy} (hoi : ops[i]? = some o) (h : opsVC P T F c.n (dstsOf ops) [] [o] i 0 Γ K) :
    ∃ Γ', StepOk P c ops i Γ Γ' ∧ K Γ' := by
  simp only [opsVC, memN] at h
  split at h
  · split at h
    · rename_i hgd
      obtain ⟨Γ1, h1, h2⟩ := mutVC.sound hT h
      refine ⟨Γ1, ?_, h2⟩
      intro Q g a w K' hst hK
      unfold wpOp
      rw [hoi]
      dsimp only
      have : Region.wanted o (yielded ops a.tmps) = true := by simp [Region.wanted, hgd]
      rw [if_pos this]
      exact .inl (h1 g a w _ _ hst hK)
    · exact h.elim
  · split at h
    · exact h.elim
    · rename_i G hG
      split at h
      · rename_i hd
        obtain ⟨A, N, h1, h2, h6⟩ := pureVC.sound (c := c) hT h
        split at h6
        rotate_left
        · exact h6.elim
        rename_i h4
        refine ⟨_, ?_, h6⟩
        intro Q g a w K' hst hK
        unfold wpOp
        rw [hoi]
        dsimp only
        rw [if_pos ((guardOf.wanted (ops := ops) hst hG).2 trivial)]
        refine .inl (h1 trivial Γ g a w _ _ (fun _ _ => rfl) (fun _ _ h => h) (freeB_free h4) hst fun g' v w' h6 h7 => ?_)
        rw [hd]
        exact hK g' _ w' h6
      · rename_i t hd
        obtain ⟨A, N, h1, h2, h6⟩ := pureVC.sound (c := c) hT h
        split at h6
        rotate_left
        · exact h6.elim
        rename_i h34
        simp only [Bool.and_eq_true] at h34
        obtain ⟨h3, h4⟩ := h34
        exact ⟨_, add_step hoi hd (Nat.le_of_ble_eq_true h3) hG h1 (fun h => h2 (.inl h)) (fun _ _ => rfl) (fun _ _ h => h) (freeB_free h4), h6⟩

theorem tree_sound {P : Program} {T : List (Nat × TE)} {F : List Nat} (hT : TOk P T) {c : Cx} {ops : Array Oper} {E : List Nat} (hE : dirms ops = E) {K : Sy → Prop} {Q : Exit → Act → World → Prop}
    (hQ : ∀ Γ' g' a' w', K Γ' → St c Γ' g' a' w' → Q .normal a' w') (hed : ∀ j o, ops[j]? = some o → ∀ e ∈ o.after, Region.binds .any e = true → e.on < j) :
    ∀ (k : Nat) (listed : Array Bool) (done : Nat) (Γ : Sy) (g : Nat → Value) (a : Act) (w : World), listed.size = ops.size → cnt listed = k → (∀ j, j < ops.size → listed[j]? = some (done.testBit j)) →
      treeVC P T F c.n ops E k done Γ K → St c Γ g a w → wpAnyH P .any ops Q c.S k listed a w := by
  intro k
  induction k with
  | zero =>
    intro listed done Γ g a w hsz hc hd h hst
    have hall := cnt_zero hc
    refine ⟨List.eq_nil_iff_forall_not_mem.2 fun i hi => ?_, hQ _ _ _ _ h hst⟩
    obtain ⟨h1, h2, _⟩ := ready_mem.1 hi
    have := hall i (by omega)
    simp [Array.getD_eq_getD_getElem?, this] at h2
  | succ k ih =>
    intro listed done Γ g a w hsz hc hd h hst
    refine ⟨fun hrd => ?_, fun i hi => ?_⟩
    · obtain ⟨i, h1, h2⟩ := cnt_pos (listed := listed) (by omega)
      have hi : i < ops.size := by rw [← hsz]; exact (Array.getElem?_eq_some_iff.1 h1).1
      have : i ∈ Region.ready .any ops listed := ready_mem.2 ⟨hi, by simp [Array.getD_eq_getD_getElem?, h1], fun o ho e he hb => by
        have := h2 e.on (hed i o ho e he hb)
        simp [Array.getD_eq_getD_getElem?, this]⟩
      rw [hrd] at this; cases this
    · obtain ⟨h1, h2, h3⟩ := ready_mem.1 hi
      have hoi : ops[i]? = some ops[i] := by simp [h1]
      have hdi : done.testBit i = false := by
        have := hd i h1
        simp only [Array.getD_eq_getD_getElem?, this, Option.getD_some] at h2
        exact h2
      have hEi : E[i]? = some (dirm (ops[i]).after.toList 0) := by
        rw [← hE, dirms, List.getElem?_map]
        simp [h1]
      have hm := rdy_mem (done := done) (i := i) (s := 0) hEi (by rw [Nat.zero_add]; exact hdi) fun j hj => by
        rcases dirm_bit hj with h4 | ⟨e, he, hb, rfl⟩
        · simp at h4
        · have h5 := h3 _ hoi e (by simpa using he) hb
          have h6 := hed i _ hoi e (by simpa using he) hb
          have h7 := hd e.on (by omega)
          simp only [Array.getD_eq_getD_getElem?, h7, Option.getD_some] at h5
          exact h5
      rw [Nat.zero_add] at hm
      have h4 := eachP_mem h i hm
      rw [hoi] at h4
      obtain ⟨Γ', h5, h6⟩ := one_sound hT hoi h4
      have hlf : listed[i]? = some false := by rw [hd i h1, hdi]
      refine h5 Q g a w _ hst fun g' a' w' h7 => ⟨h7.s, ih _ (Nat.lor done (2 ^ i)) Γ' g' a' w' (by simp [hsz]) (by have := cnt_set hlf; omega) (fun j hj => ?_) h6 h7⟩
      show _ = some ((done ||| 2 ^ i).testBit j)
      rw [Nat.testBit_or, Nat.testBit_two_pow]
      by_cases e : i = j
      · subst e
        rw [Array.getElem?_setIfInBounds_self_of_lt (by omega)]
        simp
      · rw [Array.getElem?_setIfInBounds_ne e, hd j hj]
        simp [e]

/-- Those of L first, then every order. -/
theorem W.drawTree {P : Program} {n : Nat} {Q : Exit → Sy → Prop} {Γ : Sy} {T : List (Nat × TE)} (hT : TOk P T) (F : List Nat) (hmx : P.follows .mixedOrders = true) (L E : List Nat) (k done : Nat) (Γ2 : Sy) {id : Nat} {ops : Array Oper}
    (hd : (Nat.beq (k + L.length) ops.size && allBelow ops.size (fun j => match ops[j]? with
      | none => false
      | some o => edgesLt j o.after.toList && (memN j L == done.testBit j)) && (dirms ops == E) && floatOk ops L (Array.replicate ops.size false) && Region.noSelect ops && listOnce ops.size L) = true)
    (h : floatVC T n ops L Γ fun Γ1 => treeVC P T F n ops E k done Γ1 fun Γ' => Leaf (Sub Γ' Γ2 (mkRen Γ' Γ2))) (hnext : Q .normal Γ2) : W P n (.region id ops true) Γ Q := by
  simp only [Bool.and_eq_true] at hd
  obtain ⟨⟨⟨⟨⟨hk, hall⟩, hE⟩, hf⟩, hsel⟩, honce⟩ := hd
  have hk := Nat.eq_of_beq_eq_true hk
  have hE : dirms ops = E := by simpa using hE
  have hj : ∀ j o, ops[j]? = some o → (∀ e ∈ o.after, Region.binds .any e = true → e.on < j) ∧ memN j L = done.testBit j := by
    intro j o ho
    have hlt := (Array.getElem?_eq_some_iff.1 ho).1
    have h1 := allBelow_get hall j hlt
    rw [ho] at h1
    simp only [Bool.and_eq_true] at h1
    exact ⟨fun e he hb => edgesLt_get h1.1 (by simpa using he) hb, by simpa using h1.2⟩
  refine ⟨fun c g a w hn hst => ?_⟩
  obtain ⟨K, hK1, hK2⟩ := keepAll w (Oset Γ.own g)
  let c' : Cx := { c with K := K }
  have hst' : St c' Γ g a w := ⟨hst.defers, hst.size, hst.keep, hst.o0, hst.tmps, hK1, hst.hp⟩
  have hcK : ∀ b x, c.K b = some x → K b = some x := fun b x hb => hK2 b _ _ _ (hst.kept b x hb).1 (hst.kept b x hb).2
  have key : (Code.region id ops true).wp P (fun e a' w' => match e with | .normal => ∃ Γ' g', Leaf (Sub Γ' Γ2 (mkRen Γ' Γ2)) ∧ St c Γ' g' a' w' | _ => False) a w := by
    refine wp_region_held (S := c'.S) hmx ?_
    have hgo := floats (P := P) (c := c') (w := { w with drawn := w.drawn + 1 }) (Q := fun e a' w' => match e with | .normal => ∃ Γ' g', Leaf (Sub Γ' Γ2 (mkRen Γ' Γ2)) ∧ St c Γ' g' a' w' | _ => False) hT hsel (fun _ _ _ h => h) hK2 L (Array.replicate ops.size false) Γ a k rfl hf (by rw [← hn] at h; exact h) (hst'.keepW (Keep.drew w))
    rw [hk] at hgo
    refine hgo fun Γ1 a1 h1 hst1 => ?_
    have hLlt : ∀ i, memN i L = true → i < ops.size := by
      have : ∀ (L : List Nat), listOnce ops.size L = true → ∀ k, memN k L = true → k < ops.size := by
        intro L
        induction L with
        | nil => intro _ k hk; cases hk
        | cons i r ih =>
          intro h1 k hk
          simp only [listOnce, Bool.and_eq_true] at h1
          simp only [memN, Bool.or_eq_true] at hk
          rcases hk with hk | hk
          · rw [← Nat.eq_of_beq_eq_true hk]; exact Nat.le_of_ble_eq_true h1.1.1
          · exact ih h1.2 k hk
      exact this L honce
    have hcn := cnt_listAll (L := L) (l := Array.replicate ops.size false) honce (by simp) (fun i hi => by simp [hLlt i hi])
    have hcr : cnt (Array.replicate ops.size false) = ops.size := by simp [cnt, List.filter_replicate]
    refine tree_sound (c := c') hT hE (fun Γ' g' a' w' h2 h3 => ⟨Γ', g', h2, ⟨h3.defers, h3.size, h3.keep, h3.o0, h3.tmps, fun b x hb => h3.kept b x (hcK b x hb), h3.hp⟩⟩) (fun j o ho => (hj j o ho).1) k _ done Γ1 g a1 _ (by rw [listAll_size]; simp) (by omega) (fun j hjs => ?_) h1 hst1
    rw [listAll_get (by simpa using hjs), (hj j _ (by simp [hjs] : ops[j]? = some ops[j])).2]
    cases done.testBit j <;> simp [hjs]
  refine wp_mono key fun e a' w' hq => ?_
  cases e with
  | normal =>
    obtain ⟨Γ', g', ⟨hs⟩, h4⟩ := hq
    exact ⟨Γ2, _, hnext, hs.st h4⟩
  | _ => exact hq.elim
end Go.Vc
/- A region in whatever order, whose first operations may make what is new. No condition. -/
namespace Go.Vc
set_option linter.unusedVariables false
set_option linter.unusedSimpArgs false

/-- What the operations of D among the first n have made. -/
def fO (no : Nat → List (Nat × Ob)) (D : Nat → Bool) (own0 : List (Nat × Ob)) : Nat → List (Nat × Ob)
  | 0 => own0
  | k + 1 => if D k = true then no k ++ fO no D own0 k else fO no D own0 k
theorem fO_congr {no : Nat → List (Nat × Ob)} {D E : Nat → Bool} {own0 : List (Nat × Ob)} : ∀ {n : Nat}, (∀ k, k < n → D k = E k) → fO no D own0 n = fO no E own0 n
  | 0, _ => rfl
  | n + 1, h => by
    simp only [fO]
    rw [h n (by omega), fO_congr (n := n) fun k hk => h k (by omega)]
/-- What is looked up lies in one of them, or was there before. -/
theorem fO_get {no : Nat → List (Nat × Ob)} {D : Nat → Bool} {own0 : List (Nat × Ob)} {q : Nat} : ∀ {n : Nat} {b : Ob}, get? (fO no D own0 n) q = some b → (∃ k, k < n ∧ D k = true ∧ get? (no k) q = some b) ∨ get? own0 q = some b
  | 0, b, h => .inr h
  | n + 1, b, h => by
    simp only [fO] at h
    split at h
    · rename_i hD
      rw [get?_append] at h
      split at h
      · rename_i x hx
        cases h
        exact .inl ⟨n, by omega, hD, hx⟩
      · rcases fO_get h with ⟨k, h1, h2, h3⟩ | h1
        · exact .inl ⟨k, by omega, h2, h3⟩
        · exact .inr h1
    · rcases fO_get h with ⟨k, h1, h2, h3⟩ | h1
      · exact .inl ⟨k, by omega, h2, h3⟩
      · exact .inr h1
theorem fO_old {no : Nat → List (Nat × Ob)} {D : Nat → Bool} {own0 : List (Nat × Ob)} {q : Nat} : ∀ {n : Nat}, (∀ k, k < n → D k = true → get? (no k) q = none) → get? (fO no D own0 n) q = get? own0 q
  | 0, _ => rfl
  | n + 1, h => by
    simp only [fO]
    split
    · rename_i hD
      rw [get?_append, h n (by omega) hD]
      exact fO_old fun k hk => h k (by omega)
    · exact fO_old fun k hk => h k (by omega)
theorem fO_has {no : Nat → List (Nat × Ob)} {D : Nat → Bool} {own0 : List (Nat × Ob)} {q k : Nat} {b : Ob} : ∀ {n : Nat}, k < n → D k = true → get? (no k) q = some b → (∀ k', k' < n → D k' = true → k' ≠ k → get? (no k') q = none) → get? (fO no D own0 n) q = some b
  | 0, h, _, _, _ => by omega
  | n + 1, h, hD, hb, hne => by
    simp only [fO]
    by_cases e : k = n
    · subst e
      rw [if_pos hD, get?_append, hb]
    · have ih := fO_has (no := no) (D := D) (own0 := own0) (n := n) (by omega) hD hb fun k' hk' => hne k' (by omega)
      split
      · rename_i hDn
        rw [get?_append, hne n (by omega) hDn (by omega)]
        exact ih
      · exact ih
theorem fO_none {no : Nat → List (Nat × Ob)} {D : Nat → Bool} {own0 : List (Nat × Ob)} {q : Nat} {n : Nat} (h0 : get? own0 q = none) (h : ∀ k, k < n → D k = true → get? (no k) q = none) : get? (fO no D own0 n) q = none := by
  rw [fO_old h, h0]
theorem fO_add {no : Nat → List (Nat × Ob)} {D D' : Nat → Bool} {own0 : List (Nat × Ob)} {j : Nat} (hj : D' j = true) (hDj : D j = false) (hD : ∀ k, k ≠ j → D' k = D k) (q : Nat) : ∀ {m : Nat}, j < m → (∀ k, k < m → k ≠ j → D k = true → ∀ b, get? (no j) q = some b → get? (no k) q = none) →
    get? (fO no D' own0 m) q = get? (no j ++ fO no D own0 m) q := by
  intro m
  induction m with
  | zero => intro h; omega
  | succ m ih =>
    intro hjm hdis
    by_cases hm : m = j
    · subst hm
      have same : fO no D' own0 m = fO no D own0 m := fO_congr fun k hk => hD k (by omega)
      have hDj' : ¬ D m = true := by rw [hDj]; simp
      simp only [fO]
      rw [if_pos hj, if_neg hDj', same]
    · have ih' := ih (by omega) fun k hk => hdis k (by omega)
      simp only [fO]
      rw [hD m hm]
      by_cases hDm : D m = true
      · rw [if_pos hDm, if_pos hDm, get?_append, ih', get?_append, get?_append, get?_append]
        cases hj' : get? (no j) q with
        | none => rfl
        | some b => rw [hdis m (by omega) hm hDm b hj']
      · rw [if_neg hDm, if_neg hDm]
        exact ih'

/-- What those before have made, of those in the mask. -/
def ancO (msk : Nat) : List (Nat × AV × List (Nat × Ob)) → List (Nat × Ob) → List (Nat × Ob)
  | [], own0 => own0
  | (k, _, []) :: r, own0 => ancO msk r own0
  | (k, _, N) :: r, own0 => match msk.testBit k with
    | true => N ++ ancO msk r own0
    | false => ancO msk r own0
theorem ancO_get {msk : Nat} {own0 : List (Nat × Ob)} {q : Nat} {b : Ob} : ∀ {acc : List (Nat × AV × List (Nat × Ob))}, get? (ancO msk acc own0) q = some b → get? own0 q = some b ∨ ∃ k A N, (k, A, N) ∈ acc ∧ msk.testBit k = true ∧ get? N q = some b
  | [], h => .inl h
  | (k, A, []) :: r, h => by
    rcases ancO_get (acc := r) h with h1 | ⟨k', A', N', h1, h2⟩
    · exact .inl h1
    · exact .inr ⟨k', A', N', List.mem_cons_of_mem _ h1, h2⟩
  | (k, A, x :: y) :: r, h => by
    simp only [ancO] at h
    split at h
    · rename_i hm
      rw [get?_append] at h
      split at h
      · rename_i z hz
        cases h
        exact .inr ⟨k, A, x :: y, List.mem_cons_self, hm, hz⟩
      · rcases ancO_get (acc := r) h with h1 | ⟨k', A', N', h1, h2⟩
        · exact .inl h1
        · exact .inr ⟨k', A', N', List.mem_cons_of_mem _ h1, h2⟩
    · rcases ancO_get (acc := r) h with h1 | ⟨k', A', N', h1, h2⟩
      · exact .inl h1
      · exact .inr ⟨k', A', N', List.mem_cons_of_mem _ h1, h2⟩

/-- What is known of an operation that only adds. -/
structure NewOk (P : Program) (c : Cx) (ops : Array Oper) (own0 : List (Nat × Ob)) (msk : Nat) (acc : List (Nat × AV × List (Nat × Ob))) (j : Nat) (Γ Γ' : Sy) (av : AV) (N : List (Nat × Ob)) where
  o : Oper
  ho : ops[j]? = some o
  t : Nat
  ht : o.dst = some t
  hn : t < c.n
  G : Path
  A : AV
  own1 : List (Nat × Ob)
  hG : guardOf (dstsOf ops) Γ o.guard = some G
  hA : G.ok → Does P c o ⟨Γ.tmps, own1⟩ A N
  hown : ∀ q b, get? own1 q = some b → get? own0 q = some b ∨ ∃ k A' N', (k, A', N') ∈ acc ∧ msk.testBit k = true ∧ get? N' q = some b
  hN : G ≠ [] → N = []
  hav : av = gd' G A
  hΓ : Γ' = ⟨set Γ.tmps t av, N ++ Γ.own⟩
theorem NewOk.more {P : Program} {c : Cx} {ops : Array Oper} {own0 : List (Nat × Ob)} {msk : Nat} {acc acc' : List (Nat × AV × List (Nat × Ob))} {j : Nat} {Γ Γ' : Sy} {av : AV} {N : List (Nat × Ob)} (h : NewOk P c ops own0 msk acc j Γ Γ' av N) (hs : ∀ x ∈ acc, x ∈ acc') : Nonempty (NewOk P c ops own0 msk acc' j Γ Γ' av N) :=
  ⟨{ h with hown := fun q b hq => (h.hown q b hq).imp id fun ⟨k, A', N', h1, h2⟩ => ⟨k, A', N', hs _ h1, h2⟩ }⟩

/-- The first m operations: each sees what was owned before the region and what those before it have made, and what the text has put into the temporaries. -/
def preVC (P : Program) (T : List (Nat × TE)) (F : List Nat) (n : Nat) (dsts : List (Option Nat)) (M L : List Nat) (own0 : List (Nat × Ob)) : List Oper → Nat → Nat → Sy → List (Nat × AV × List (Nat × Ob)) → (Sy → List (Nat × AV × List (Nat × Ob)) → List Oper → Prop) → Prop
  | l, _, 0, Γ, acc, K => K Γ acc l
  | [], _, _ + 1, _, _, _ => False
  | o :: r, i, m + 1, Γ, acc, K => match memN i L with
    | true => preVC P T F n dsts M L own0 r (i + 1) m Γ acc K
    | false => match isMut o || isMade F o with
      | true => False
      | false => match guardOf dsts Γ o.guard, o.dst with
        | some G, some t => pureVC P T ⟨Γ.tmps, ancO (M.getD i 0) acc own0⟩ (memN t F) G (1000 * (t + 1)) o fun A N => match Nat.blt t n with
          | true => preVC P T F n dsts M L own0 r (i + 1) m (Γ.putA t (gd' G A) N) ((i, gd' G A, N) :: acc) K
          | false => False
        | _, _ => False
theorem preVC.trace {P : Program} {T : List (Nat × TE)} {F M L : List Nat} (hT : TOk P T) {c : Cx} {ops : Array Oper} {own0 : List (Nat × Ob)} {K : Sy → List (Nat × AV × List (Nat × Ob)) → List Oper → Prop} :
    ∀ (m : Nat) (l : List Oper) (i : Nat) (Γ : Sy) (acc : List (Nat × AV × List (Nat × Ob))), ops.toList.drop i = l → preVC P T F c.n (dstsOf ops) M L own0 l i m Γ acc K →
    ∃ (Γs : Nat → Sy) (acc' : List (Nat × AV × List (Nat × Ob))) (av : Nat → AV) (no : Nat → List (Nat × Ob)), Γs i = Γ ∧ K (Γs (i + m)) acc' (ops.toList.drop (i + m)) ∧ (∀ x ∈ acc, x ∈ acc') ∧
      (∀ x ∈ acc', x ∈ acc ∨ ∃ j, i ≤ j ∧ j < i + m ∧ memN j L = false ∧ x = (j, av j, no j)) ∧ ∀ j, i ≤ j → j < i + m → (memN j L = true → Γs (j + 1) = Γs j) ∧
      (memN j L = false → Nonempty (NewOk P c ops own0 (M.getD j 0) acc' j (Γs j) (Γs (j + 1)) (av j) (no j)) ∧ (j, av j, no j) ∈ acc') := by
  intro m
  induction m with
  | zero =>
    intro l i Γ acc hl h
    refine ⟨fun _ => Γ, acc, fun _ => .any, fun _ => [], rfl, ?_, fun x hx => hx, fun x hx => .inl hx, fun j h1 h2 => by omega⟩
    rw [Nat.add_zero, hl]
    cases l <;> exact h
  | succ m ih =>
    intro l i Γ acc hl h
    cases l with
    | nil => exact h.elim
    | cons o r =>
    have hi : i < ops.size := by
      rcases Nat.lt_or_ge i ops.size with h1 | h1
      · exact h1
      · rw [List.drop_eq_nil_of_le (by simpa using h1)] at hl; cases hl
    have hoi : ops[i]? = some o := by
      have : (ops.toList.drop i)[0]? = some o := by rw [hl]; rfl
      rw [List.getElem?_drop] at this
      simpa using this
    have hr : ops.toList.drop (i + 1) = r := by
      have := congrArg List.tail hl
      simpa [List.tail_drop] using this
    have glue : ∀ (Γ1 : Sy) (acc1 : List (Nat × AV × List (Nat × Ob))) (A0 : AV) (N0 : List (Nat × Ob)), preVC P T F c.n (dstsOf ops) M L own0 r (i + 1) m Γ1 acc1 K → (∀ x ∈ acc, x ∈ acc1) → (∀ x ∈ acc1, x ∈ acc ∨ memN i L = false ∧ x = (i, A0, N0)) →
        (memN i L = true → Γ1 = Γ) → (memN i L = false → Nonempty (NewOk P c ops own0 (M.getD i 0) acc1 i Γ Γ1 A0 N0) ∧ (i, A0, N0) ∈ acc1) →
        ∃ (Γs : Nat → Sy) (acc' : List (Nat × AV × List (Nat × Ob))) (av : Nat → AV) (no : Nat → List (Nat × Ob)), Γs i = Γ ∧ K (Γs (i + (m + 1))) acc' (ops.toList.drop (i + (m + 1))) ∧ (∀ x ∈ acc, x ∈ acc') ∧
          (∀ x ∈ acc', x ∈ acc ∨ ∃ j, i ≤ j ∧ j < i + (m + 1) ∧ memN j L = false ∧ x = (j, av j, no j)) ∧ ∀ j, i ≤ j → j < i + (m + 1) → (memN j L = true → Γs (j + 1) = Γs j) ∧
          (memN j L = false → Nonempty (NewOk P c ops own0 (M.getD j 0) acc' j (Γs j) (Γs (j + 1)) (av j) (no j)) ∧ (j, av j, no j) ∈ acc') := by
      intro Γ1 acc1 A0 N0 h1 hac hac2 hs hp
      obtain ⟨Γs, acc', av, no, g1, g2, g3, g5, g4⟩ := ih r (i + 1) Γ1 acc1 hr h1
      obtain ⟨Γr, hΓr⟩ : ∃ Γr : Nat → Sy, Γr = fun j => if j = i then Γ else Γs j := ⟨_, rfl⟩
      obtain ⟨avr, havr⟩ : ∃ avr : Nat → AV, avr = fun j => if j = i then A0 else av j := ⟨_, rfl⟩
      obtain ⟨nor, hnor⟩ : ∃ nor : Nat → List (Nat × Ob), nor = fun j => if j = i then N0 else no j := ⟨_, rfl⟩
      have ri : Γr i = Γ := by rw [hΓr]; simp
      have rn : ∀ j, j ≠ i → Γr j = Γs j := fun j hj => by rw [hΓr]; simp [hj]
      have ai : avr i = A0 := by rw [havr]; simp
      have an : ∀ j, j ≠ i → avr j = av j := fun j hj => by rw [havr]; simp [hj]
      have ni : nor i = N0 := by rw [hnor]; simp
      have nn : ∀ j, j ≠ i → nor j = no j := fun j hj => by rw [hnor]; simp [hj]
      refine ⟨Γr, acc', avr, nor, ri, ?_, fun x hx => g3 x (hac x hx), fun x hx => ?_, fun j h2 h3 => ?_⟩
      · rw [rn _ (by omega), show i + (m + 1) = i + 1 + m from by omega]
        exact g2
      · rcases g5 x hx with h2 | ⟨j, h2, h3, h4, h5⟩
        · rcases hac2 x h2 with h3 | ⟨h3, h4⟩
          · exact .inl h3
          · exact .inr ⟨i, Nat.le_refl _, by omega, h3, by rw [ai, ni]; exact h4⟩
        · exact .inr ⟨j, by omega, by omega, h4, by rw [an j (by omega), nn j (by omega)]; exact h5⟩
      · by_cases hj : j = i
        · subst hj
          rw [ri, rn (j + 1) (by omega), g1, ai, ni]
          refine ⟨hs, fun h0 => ?_⟩
          obtain ⟨⟨pk⟩, hpk⟩ := hp h0
          exact ⟨pk.more g3, g3 _ hpk⟩
        · rw [rn j hj, rn (j + 1) (by omega), an j hj, nn j hj]
          exact g4 j (by omega) (by omega)
    simp only [preVC] at h
    split at h
    · rename_i hL
      exact glue Γ acc .any [] h (fun x hx => hx) (fun x hx => .inl hx) (fun _ => rfl) (fun h0 => by rw [hL] at h0; cases h0)
    rename_i hL
    split at h
    · exact h.elim
    · split at h
      · rename_i G t hG hd
        obtain ⟨A, N, h1, h2, h6⟩ := pureVC.sound (c := c) hT h
        split at h6
        rotate_left
        · exact h6.elim
        rename_i h3
        refine glue _ _ (gd' G A) N h6 (fun x hx => List.mem_cons_of_mem _ hx) (fun x hx => ?_) (fun h0 => by rw [hL] at h0; cases h0) fun _ => ⟨⟨⟨o, hoi, t, hd, Nat.le_of_ble_eq_true h3, G, A, _, hG, h1, fun q b hq => ?_, fun h => h2 (.inl h), rfl, rfl⟩⟩, List.mem_cons_self⟩
        · rcases List.mem_cons.1 hx with h4 | h4
          · exact .inr ⟨hL, h4⟩
          · exact .inl h4
        · rcases ancO_get hq with h4 | ⟨k, A', N', h4, h5⟩
          · exact .inl h4
          · exact .inr ⟨k, A', N', List.mem_cons_of_mem _ h4, h5⟩
      · exact h.elim

/-- None of the new names stands where it must not. -/
def disjN (N' : List (Nat × Ob)) : List (Nat × Ob) → Bool
  | [] => true
  | (q, _) :: r => (get? N' q).isNone && disjN N' r
theorem disjN_get {N' : List (Nat × Ob)} {q : Nat} {b : Ob} : ∀ {N : List (Nat × Ob)}, disjN N' N = true → get? N q = some b → get? N' q = none
  | [], _, h => by cases h
  | (k, o) :: r, hl, h => by
    simp only [disjN, Bool.and_eq_true, Option.isNone_iff_eq_none] at hl
    simp only [get?] at h
    split at h
    · rename_i hb
      have := Nat.eq_of_beq_eq_true hb
      subst this
      exact hl.1
    · exact disjN_get hl.2 h
def newOk1 (M : List Nat) (i : Nat) (N : List (Nat × Ob)) : List (Nat × AV × List (Nat × Ob)) → Bool
  | [] => true
  | (k, A, N') :: r => (Nat.beq k i || disjN N' N && (freeB ⟨[(0, A)], N'⟩ N || (M.getD k 0).testBit i)) && newOk1 M i N r
def newOkA (M : List Nat) (Γ0 : Sy) (all : List (Nat × AV × List (Nat × Ob))) : List (Nat × AV × List (Nat × Ob)) → Bool
  | [] => true
  | (i, _, N) :: r => (match N with
    | [] => true
    | _ => freeB Γ0 N && newOk1 M i N all) && newOkA M Γ0 all r
theorem newOk1_get {M : List Nat} {i : Nat} {N : List (Nat × Ob)} : ∀ {l : List (Nat × AV × List (Nat × Ob))} {k : Nat} {A : AV} {N' : List (Nat × Ob)}, newOk1 M i N l = true → (k, A, N') ∈ l → k = i ∨ disjN N' N = true ∧ ((M.getD k 0).testBit i = true ∨ freeB ⟨[(0, A)], N'⟩ N = true)
  | [], k, A, N', _, h => by cases h
  | (k0, A0, N0) :: r, k, A, N', hl, h => by
    simp only [newOk1, Bool.and_eq_true, Bool.or_eq_true] at hl
    rcases List.mem_cons.1 h with e | h
    · cases e
      rcases hl.1 with h1 | ⟨h0, h1 | h1⟩
      · exact .inl (Nat.eq_of_beq_eq_true h1)
      · exact .inr ⟨h0, .inr h1⟩
      · exact .inr ⟨h0, .inl h1⟩
    · exact newOk1_get hl.2 h
theorem newOkA_get {M : List Nat} {Γ0 : Sy} {all : List (Nat × AV × List (Nat × Ob))} : ∀ {l : List (Nat × AV × List (Nat × Ob))} {i : Nat} {A : AV} {N : List (Nat × Ob)}, newOkA M Γ0 all l = true → (i, A, N) ∈ l → N = [] ∨ freeB Γ0 N = true ∧ newOk1 M i N all = true
  | [], i, A, N, _, h => by cases h
  | (i0, A0, N0) :: r, i, A, N, hl, h => by
    simp only [newOkA, Bool.and_eq_true] at hl
    rcases List.mem_cons.1 h with e | h
    · cases e
      have h1 := hl.1
      split at h1
      · exact .inl rfl
      · simp only [Bool.and_eq_true] at h1
        exact .inr h1
    · exact newOkA_get hl.2 h

/-- In whatever order; the first m operations may make what is new. -/
theorem region_new {P : Program} {T : List (Nat × TE)} {Fz : List Nat} (hT : TOk P T) (hmx : P.follows .mixedOrders = true) {c : Cx} {ops : Array Oper} {M L : List Nat} {m : Nat} (hd : drawOk ops M L m = true)
    (hf : floatOk ops L (Array.replicate ops.size false) = true) (hsel : Region.noSelect ops = true) (honce : listOnce ops.size L = true) {K : Sy → Prop} {Γ : Sy}
    (h : floatVC T c.n ops L Γ fun Γ1 => preVC P T Fz c.n (dstsOf ops) M L Γ1.own ops.toList 0 m Γ1 [] fun Γ2 acc l => match newOkA M Γ1 acc acc with
      | true => opsVC P T Fz c.n (dstsOf ops) L l m 0 Γ2 K
      | false => False)
    {Q : Exit → Act → World → Prop} (hQp : ∀ x a w, ¬ Q (.panic x) a w) {g : Nat → Value} {a : Act} {w : World} (hst : St c Γ g a w) (hfull : c.full w (Oset Γ.own g)) (hQ : ∀ Γ' g' a' w', K Γ' → St c Γ' g' a' w' → Q .normal a' w') {id : Nat} : (Code.region id ops true).wp P Q a w := by
  have F := drawOk.facts hd
  have hLlt : ∀ k, memN k L = true → k < ops.size := by
    have : ∀ (L : List Nat), listOnce ops.size L = true → ∀ k, memN k L = true → k < ops.size := by
      intro L
      induction L with
      | nil => intro _ k hk; cases hk
      | cons i r ih =>
        intro h1 k hk
        simp only [listOnce, Bool.and_eq_true] at h1
        simp only [memN, Bool.or_eq_true] at hk
        rcases hk with hk | hk
        · rw [← Nat.eq_of_beq_eq_true hk]; exact Nat.le_of_ble_eq_true h1.1.1
        · exact ih h1.2 k hk
    exact this L honce
  -- the floats first
  have hLlen : L.length ≤ ops.size := by
    have := cnt_listAll (L := L) (l := Array.replicate ops.size false) honce (by simp) (fun i hi => by simp [hLlt i hi])
    simp [cnt, List.filter_replicate] at this
    omega
  refine wp_region_held (S := c.S) hmx ?_
  have hgo := floats (P := P) (w := { w with drawn := w.drawn + 1 }) hT hsel hQp hfull L (Array.replicate ops.size false) Γ a (ops.size - L.length) rfl hf h (hst.keepW (Keep.drew w))
  rw [Nat.sub_add_cancel hLlen] at hgo
  refine hgo fun Γ a h hst => ?_
  clear hgo
  obtain ⟨Γa, acc, av, nv, a1, a2, a3, a5, a4⟩ := preVC.trace hT m ops.toList 0 Γ [] (by simp) h
  rw [Nat.zero_add] at a2
  split at a2
  rotate_left
  · exact a2.elim
  rename_i hacc
  obtain ⟨Γb, b1, b2, b3⟩ := opsVC.trace hT _ 0 m _ rfl a2
  let Γs : Nat → Sy := fun j => if j < m then Γa j else Γb j
  have ea : ∀ j, j ≤ m → Γs j = Γa j := fun j hj => by
    simp only [Γs]
    split
    · rfl
    · have : j = m := by omega
      rw [this, b1]
  have eb : ∀ j, m ≤ j → Γs j = Γb j := fun j hj => by simp only [Γs]; rw [if_neg (by omega)]
  have e1 : Γs 0 = Γ := by rw [ea 0 (Nat.zero_le _), a1]
  have e2 : K (Γs ops.size) := by rw [eb _ F.hm]; exact b2
  have e3L : ∀ j, j < ops.size → memN j L = true → Γs (j + 1) = Γs j := fun j hj hjL => by
    by_cases hjm : j < m
    · rw [ea j (by omega), ea (j + 1) (by omega)]
      exact (a4 j (Nat.zero_le _) (by omega)).1 hjL
    · rw [eb j (by omega), eb (j + 1) (by omega)]
      exact (b3 j (by omega) hj).1 hjL
  have e3 : ∀ j, m ≤ j → j < ops.size → memN j L = false → StepOk P c ops j (Γs j) (Γs (j + 1)) := fun j hjm hj hjL => by
    rw [eb j hjm, eb (j + 1) (by omega)]
    exact ((b3 j hjm hj).2 hjL).2 (by omega)
  have pre : ∀ j, j < m → memN j L = false → Nonempty (NewOk P c ops Γ.own (M.getD j 0) acc j (Γs j) (Γs (j + 1)) (av j) (nv j)) ∧ (j, av j, nv j) ∈ acc := fun j hj hjL => by
    rw [ea j (by omega), ea (j + 1) (by omega)]
    exact (a4 j (Nat.zero_le _) (by omega)).2 hjL
  let pk : ∀ j, j < m → memN j L = false → NewOk P c ops Γ.own (M.getD j 0) acc j (Γs j) (Γs (j + 1)) (av j) (nv j) := fun j hj hjL => Classical.choice (pre j hj hjL).1
  have accOf : ∀ k A N, (k, A, N) ∈ acc → k < m ∧ memN k L = false ∧ N = nv k := by
    intro k A N hx
    rcases a5 _ hx with h1 | ⟨j, _, h2, h3, h4⟩
    · cases h1
    · cases h4
      exact ⟨by omega, h3, rfl⟩
  let tb : Nat → Nat × AV := fun j => if hj : j < m ∧ memN j L = false then ((pk j hj.1 hj.2).t, av j) else (0, .any)
  have htb : ∀ j (hj : j < m) (hjL : memN j L = false), tb j = ((pk j hj hjL).t, av j) := fun j hj hjL => by simp [tb, hj, hjL]
  let no : Nat → List (Nat × Ob) := nv
  -- the new names
  have newFree : ∀ j (hj : j < m) (hjL : memN j L = false) q b, get? (no j) q = some b → Γ.free q := by
    intro j hj hjL q b hq
    rcases newOkA_get hacc (pre j hj hjL).2 with h1 | ⟨h1, h2⟩
    · have hq' : get? (nv j) q = some b := hq
      rw [h1] at hq'; cases hq'
    · exact freeB_free h1 q b hq
  have newDisj : ∀ j k (hj : j < m) (hjL : memN j L = false) (hk : k < m) (hkL : memN k L = false), k ≠ j → ∀ q b, get? (no j) q = some b → get? (no k) q = none := by
    intro j k hj hjL hk hkL hkj q b hq
    rcases newOkA_get hacc (pre j hj hjL).2 with h1 | ⟨h1, h2⟩
    · have hq' : get? (nv j) q = some b := hq
      rw [h1] at hq'; cases hq'
    · rcases newOk1_get h2 (pre k hk hkL).2 with h3 | ⟨h3, _⟩
      · exact absurd h3 hkj
      · exact disjN_get h3 hq
  have newApart : ∀ j k (hj : j < m) (hjL : memN j L = false) (hk : k < m) (hkL : memN k L = false), k ≠ j → (M.getD k 0).testBit j = false → ∀ q b, get? (no j) q = some b → (tb k).2.hasKey q = false ∧ (∀ p o, get? (no k) p = some o → o.hasKey q = false) ∧ get? (no k) q = none := by
    intro j k hj hjL hk hkL hkj hM q b hq
    rcases newOkA_get hacc (pre j hj hjL).2 with h1 | ⟨h1, h2⟩
    · have hq' : get? (nv j) q = some b := hq
      rw [h1] at hq'; cases hq'
    · rcases newOk1_get h2 (pre k hk hkL).2 with h3 | ⟨_, h3 | h3⟩
      · exact absurd h3 hkj
      · rw [hM] at h3; cases h3
      · have h4 := freeB_free h3 q b hq
        rw [htb k hk hkL]
        exact ⟨h4.1 0 _ rfl, h4.2.1, h4.2.2⟩
  let E : Nat → Bool := fun k => !(memN k L)
  -- the text's states
  have text : ∀ j, j ≤ m → Γs j = ⟨fD tb E Γ.tmps j, fO no E Γ.own j⟩ := by
    intro j
    induction j with
    | zero => intro _; rw [e1]; rfl
    | succ j ih =>
      intro hj
      have ih' := ih (by omega)
      cases hjL : memN j L with
      | true =>
        rw [e3L j (by have := F.hm; omega) hjL, ih']
        simp [fD, fO, E, hjL]
      | false =>
        have h1 := congrArg Sy.tmps ih'
        have h2 := congrArg Sy.own ih'
        have h3 := (pk j (by omega) hjL).hΓ
        rw [h3]
        have hEj : E j = true := by simp [E, hjL]
        simp only [fD, fO, hEj, if_true, htb j (by omega) hjL]
        dsimp only at h1 h2
        rw [← h2]
        congr 1
        rw [← h1]
  -- over those of L nothing happens
  have skip : ∀ q i, q ≤ i → i ≤ ops.size → (∀ k, q ≤ k → k < i → memN k L = true) → Γs i = Γs q := by
    intro q i hqi
    induction i with
    | zero => intro _ _; have : q = 0 := by omega
              rw [this]
    | succ i ih =>
      intro hi hk
      by_cases e : q = i + 1
      · rw [e]
      · rw [e3L i (by omega) (hk i (by omega) (by omega))]
        exact ih (by omega) (by omega) (fun k h1 h2 => hk k h1 (by omega))
  let dn : Array Bool → Nat → Bool := fun listed j => listed.getD j false && E j
  have key : ∀ (fuel : Nat) (listed : Array Bool) (g : Nat → Value) (a : Act) (w : World), listed.size = ops.size → cnt listed = fuel → (∀ k, memN k L = true → listed[k]? = some true) →
      (∀ j i, listed[j]? = some true → (M.getD j 0).testBit i = true → listed.getD i false = true) →
      (((∀ j, m ≤ j → j < ops.size → memN j L = false → listed[j]? = some false) ∧ St c ⟨fD tb (dn listed) Γ.tmps m, fO no (dn listed) Γ.own m⟩ g a w) ∨
        ∃ q, m ≤ q ∧ q ≤ ops.size ∧ (∀ j, j < q → listed[j]? = some true) ∧ (∀ j, q ≤ j → j < ops.size → memN j L = false → listed[j]? = some false) ∧ St c (Γs q) g a w) →
      wpAnyH P .any ops Q c.S fuel listed a w := by
    intro fuel
    induction fuel with
    | zero =>
      intro listed g a w hsz hc hLl hcl hs
      have hall := cnt_zero hc
      have hrd : Region.ready .any ops listed = [] := by
        refine List.eq_nil_iff_forall_not_mem.2 fun i hi => ?_
        obtain ⟨h1, h2, _⟩ := ready_mem.1 hi
        have := hall i (by omega)
        simp [Array.getD_eq_getD_getElem?, this] at h2
      refine ⟨hrd, ?_⟩
      have fin : ∀ q, q ≤ ops.size → (∀ j, q ≤ j → j < ops.size → memN j L = false → listed[j]? = some false) → St c (Γs q) g a w → Q .normal a w := by
        intro q hq h1 h2
        have : Γs ops.size = Γs q := skip q ops.size hq (Nat.le_refl _) (fun k h3 h4 => by
          cases hk : memN k L with
          | true => rfl
          | false => have h5 := h1 k h3 h4 hk; rw [hall k (by omega)] at h5; cases h5)
        exact hQ _ g a w e2 (by rw [this]; exact h2)
      rcases hs with ⟨h1, h2⟩ | ⟨q, h1, h2, h3, h4, h5⟩
      · refine fin m F.hm h1 ?_
        rw [text m (Nat.le_refl _)]
        have hm := F.hm
        refine h2.congr (fun t => ?_) (fun q => ?_)
        · refine (fD_text (j := m) (Nat.le_refl _) (fun k hk _ => ?_)).symm
          simp [dn, Array.getD_eq_getD_getElem?, hall k (by omega), hk]
        · dsimp only
          rw [fO_congr (D := dn listed) (E := E) fun k hk => by simp [dn, Array.getD_eq_getD_getElem?, hall k (by omega)]]
      · exact fin q h2 h4 h5
    | succ fuel ih =>
      intro listed g a w hsz hc hLl hcl hs
      refine ⟨fun hrd => ?_, fun i hi => ?_⟩
      · -- something is ready
        obtain ⟨i, h1, h2⟩ := cnt_pos (listed := listed) (by omega)
        have hi : i < ops.size := by rw [← hsz]; exact (Array.getElem?_eq_some_iff.1 h1).1
        have : i ∈ Region.ready .any ops listed := ready_mem.2 ⟨hi, by simp [Array.getD_eq_getD_getElem?, h1], fun o ho e he hb => by
          have := h2 e.on (F.edge i o ho e he hb)
          simp [Array.getD_eq_getD_getElem?, this]⟩
        rw [hrd] at this; cases this
      · obtain ⟨hi, hli, hpre⟩ := ready_mem.1 hi
        have hlf : listed[i]? = some false := by
          have : i < listed.size := by omega
          simp only [Array.getD_eq_getD_getElem?] at hli
          cases hb : listed[i]? with
          | none => rw [hb] at hli; cases hli
          | some b => rw [hb] at hli; simp at hli; rw [hli]
        have hlf' : listed.getD i false = false := by simp [Array.getD_eq_getD_getElem?, hlf]
        have hiL : memN i L = false := by
          cases hb : memN i L with
          | false => rfl
          | true => rw [hLl i hb] at hlf; cases hlf
        have hoi : ops[i]? = some ops[i] := by simp [hi]
        have hmask : ∀ k, (M.getD i 0).testBit k = true → listed.getD k false = true := by
          intro k hk
          obtain ⟨e, he, hb, h1⟩ := F.mask i _ k hoi hk
          have h2 := hpre _ hoi e he hb
          rcases h1 with rfl | h1
          · exact h2
          · refine hcl e.on k ?_ h1
            simp only [Array.getD_eq_getD_getElem?] at h2
            cases hb' : listed[e.on]? with
            | none => rw [hb'] at h2; cases h2
            | some b => rw [hb'] at h2; simp at h2; rw [h2]
        have hsz' : (listed.setIfInBounds i true).size = ops.size := by simp [hsz]
        have hc' : cnt (listed.setIfInBounds i true) = fuel := by have := cnt_set hlf; omega
        have hget : ∀ k, (listed.setIfInBounds i true)[k]? = if k = i then some true else listed[k]? := by
          intro k
          by_cases hk : k = i
          · subst hk; simp [hsz, hi]
          · rw [if_neg hk, Array.getElem?_setIfInBounds_ne (Ne.symm hk)]
        have hgetD : ∀ k, (listed.setIfInBounds i true).getD k false = if k = i then true else listed.getD k false := by
          intro k
          simp only [Array.getD_eq_getD_getElem?, hget]
          split <;> rfl
        have hLl' : ∀ k, memN k L = true → (listed.setIfInBounds i true)[k]? = some true := by
          intro k hk
          rw [hget]
          split
          · rfl
          · exact hLl k hk
        have hcl' : ∀ j k, (listed.setIfInBounds i true)[j]? = some true → (M.getD j 0).testBit k = true → (listed.setIfInBounds i true).getD k false = true := by
          intro j k hj hk
          rw [hgetD]
          split
          · rfl
          · rw [hget] at hj
            split at hj
            · rename_i e; rw [e] at hk; exact hmask k hk
            · exact hcl j k hj hk
        have toGet : ∀ k, listed.getD k false = true → listed[k]? = some true := by
          intro k hk
          simp only [Array.getD_eq_getD_getElem?] at hk
          cases hb' : listed[k]? with
          | none => rw [hb'] at hk; cases hk
          | some b => rw [hb'] at hk; simp at hk; rw [hk]
        -- which phase
        have phase2 : ∀ q, m ≤ q → q ≤ ops.size → (∀ j, j < q → listed[j]? = some true) → (∀ j, q ≤ j → j < ops.size → memN j L = false → listed[j]? = some false) → St c (Γs q) g a w → wpOp P ops Q i (fun a' w' => c.S w' ∧ wpAnyH P .any ops Q c.S fuel (listed.setIfInBounds i true) a' w') a w := by
          intro q h1 h2 h3 h4 h5
          have hge : q ≤ i := by
            rcases Nat.lt_or_ge i q with h6 | h6
            · rw [h3 i h6] at hlf; cases hlf
            · exact h6
          have hbet : ∀ k, q ≤ k → k < i → memN k L = true := by
            intro k hk1 hk2
            cases hk : memN k L with
            | true => rfl
            | false =>
              have h7 := hmask k (F.tail k i hk hiL hk2 (by omega) hi)
              have h8 := h4 k hk1 (by omega) hk
              simp [Array.getD_eq_getD_getElem?, h8] at h7
          have hsk := skip q i hge (by omega) hbet
          refine e3 i (by omega) hi hiL Q g a w _ (by rw [hsk]; exact h5) fun g' a' w' h6 => ⟨h6.s, ?_⟩
          refine ih _ g' a' w' hsz' hc' hLl' hcl' (.inr ⟨i + 1, by omega, by omega, fun j hj => ?_, fun j hj hj2 hjL => ?_, h6⟩)
          · rw [hget]
            split
            · rfl
            · rcases Nat.lt_or_ge j q with h7 | h7
              · exact h3 j h7
              · exact hLl j (hbet j h7 (by omega))
          · rw [hget, if_neg (by omega)]
            exact h4 j (by omega) hj2 hjL
        rcases hs with ⟨h1, h2⟩ | ⟨q, h1, h2, h3, h4, h5⟩
        · by_cases him : i < m
          · -- one of the first ones
            have dstOf : ∀ k (hk : k < m) (hkL : memN k L = false), ops[k]? = some (pk k hk hkL).o ∧ (pk k hk hkL).o.dst = some (tb k).1 := fun k hk hkL => ⟨(pk k hk hkL).ho, by rw [(pk k hk hkL).ht, htb k hk hkL]⟩
            have hlook : ∀ t, t ∈ (ops[i]).looksAt ops → get? (fD tb (dn listed) Γ.tmps m) t = get? (Γs i).tmps t := by
              intro t ht
              rw [text i (by omega)]
              refine fD_text (by omega) fun k hk hkt => ?_
              cases hkL : memN k L with
              | true => simp [dn, E, hkL]
              | false =>
                have hks : k < ops.size := by have := F.hm; omega
                have hok : ops[k]? = some ops[k] := by simp [hks]
                have hdk : (ops[k]).dst = some t := by
                  obtain ⟨h6, h7⟩ := dstOf k hk hkL
                  rw [Option.some.inj (hok.symm.trans h6), h7, hkt]
                have hE : E k = true := by simp [E, hkL]
                rcases Nat.lt_trichotomy k i with h6 | h6 | h6
                · have : listed.getD k false = true := by
                    rcases F.pre k i _ _ hkL hiL h6 him hok hoi with h7 | h7
                    · exact hmask k h7
                    · exact absurd ht ((Oper.apart_spec h7).1 t hdk)
                  simp only [dn, this, hE, h6, decide_true, Bool.and_self]
                · subst h6
                  simp only [dn, hlf', Bool.false_and, Nat.lt_irrefl, decide_false]
                · have : listed.getD k false = false := by
                    cases hb : listed.getD k false with
                    | false => rfl
                    | true =>
                      rcases F.pre i k _ _ hiL hkL h6 hk hoi hok with h7 | h7
                      · have h8 := hcl k i (toGet k hb) h7
                        rw [hlf'] at h8; cases h8
                      · exact absurd ht ((Oper.apart_spec h7).2.2 t hdk)
                  have h7 : decide (k < i) = false := by simp; omega
                  simp only [dn, this, Bool.false_and, h7]
            have hpo : (pk i him hiL).o = ops[i] := Option.some.inj ((pk i him hiL).ho.symm.trans hoi)
            have hanc : ∀ k (hk : k < m) (hkL : memN k L = false), k ≠ i → dn listed k = true → (M.getD k 0).testBit i = false := by
              intro k hk hkL hki hDk
              cases hb : (M.getD k 0).testBit i with
              | false => rfl
              | true =>
                simp only [dn, Bool.and_eq_true] at hDk
                have h8 := hcl k i (toGet k hDk.1) hb
                rw [hlf'] at h8; cases h8
            have dnL : ∀ k, dn listed k = true → memN k L = false := by
              intro k hDk
              simp only [dn, Bool.and_eq_true, E, Bool.not_eq_true'] at hDk
              exact hDk.2
            have hdni : dn listed i = false := by simp only [dn, hlf', Bool.false_and]
            have hki : ∀ k, dn listed k = true → k ≠ i := fun k hDk e => by rw [e, hdni] at hDk; cases hDk
            have hpk := pk i him hiL
            have hstep := add_step (P := P) (c := c) (ops := ops) (j := i) (Γ := ⟨(Γs i).tmps, (pk i him hiL).own1⟩) (Γ' := ⟨fD tb (dn listed) Γ.tmps m, fO no (dn listed) Γ.own m⟩) (N := no i) (pk i him hiL).ho (pk i him hiL).ht (pk i him hiL).hn
              (by rw [guardOf_congr (Γ := Γs i) (by rw [hpo]; exact hlook)]; exact (pk i him hiL).hG) (pk i him hiL).hA (pk i him hiL).hN (look_congr (Γ := ⟨(Γs i).tmps, (pk i him hiL).own1⟩) (by rw [hpo]; exact hlook))
              (fun q b hq => by
                dsimp only at hq ⊢
                rcases (pk i him hiL).hown q b hq with h8 | ⟨k, A', N', h8, h9, h10⟩
                · rw [fO_old fun k' hk' hDk' => ?_]
                  · exact h8
                  · cases hq' : get? (no k') q with
                    | none => rfl
                    | some b' => have := (newFree k' hk' (dnL k' hDk') q b' hq').2.2; rw [h8] at this; cases this
                · obtain ⟨hk, hkL, rfl⟩ := accOf k A' N' h8
                  have hDk : dn listed k = true := by
                    have h11 := hmask k h9
                    have h12 : E k = true := by simp [E, hkL]
                    simp only [dn, h11, h12, Bool.and_self]
                  exact fO_has hk hDk h10 fun k' hk' hDk' hne => newDisj k k' hk hkL hk' (dnL k' hDk') hne q b h10)
              (fun q b hq => by
                have hf := newFree i him hiL q b hq
                refine ⟨fun t A hA => ?_, fun p o hp => ?_, ?_⟩
                · have hgo : ∀ n, n ≤ m → get? (fD tb (dn listed) Γ.tmps n) t = some A → A.hasKey q = false := by
                    intro n
                    induction n with
                    | zero => intro _ h8; exact hf.1 t A h8
                    | succ n ihn =>
                      intro hnm h8
                      simp only [fD] at h8
                      split at h8
                      · rename_i hDn
                        rw [get?_set] at h8
                        split at h8
                        · cases h8
                          exact (newApart i n him hiL (by omega) (dnL n hDn) (hki n hDn) (hanc n (by omega) (dnL n hDn) (hki n hDn) hDn) q b hq).1
                        · exact ihn (by omega) h8
                      · exact ihn (by omega) h8
                  exact hgo m (Nat.le_refl _) hA
                · rcases fO_get hp with ⟨k, hk, hDk, h8⟩ | h8
                  · exact (newApart i k him hiL hk (dnL k hDk) (hki k hDk) (hanc k hk (dnL k hDk) (hki k hDk) hDk) q b hq).2.1 p o h8
                  · exact hf.2.1 p o h8
                · exact fO_none hf.2.2 fun k hk hDk => (newApart i k him hiL hk (dnL k hDk) (hki k hDk) (hanc k hk (dnL k hDk) (hki k hDk) hDk) q b hq).2.2)
            refine hstep Q g a w _ h2 fun g' a' w' h6 => ⟨h6.s, ?_⟩
            refine ih _ g' a' w' hsz' hc' hLl' hcl' (.inl ⟨fun j hj hj2 hjL => by rw [hget, if_neg (by omega)]; exact h1 j hj hj2 hjL, ?_⟩)
            have hdn' : dn (listed.setIfInBounds i true) i = true := by
              have : E i = true := by simp [E, hiL]
              simp only [dn, hgetD, if_true, this, Bool.and_self]
            refine h6.congr (fun t => ?_) (fun q => fO_add hdn' hdni (fun k hk => by simp only [dn, hgetD, if_neg hk]) q him fun k hk hki' hDk b hq => newDisj i k him hiL hk (dnL k hDk) hki' q b hq)
            have hEi : E i = true := by simp [E, hiL]
            have h7 := fD_add (tb := tb) (l0 := Γ.tmps) (j := i) (D := dn listed) (D' := dn (listed.setIfInBounds i true)) (by simp only [dn, hgetD, if_true, hEi, Bool.and_self]) (fun k hk => by simp only [dn, hgetD, if_neg hk]) (m := m) t him (by simp only [dn, hlf', Bool.false_and]) (fun k hk hki hkt hDk => by
              rcases Nat.lt_or_ge k i with h8 | h8
              · exact h8
              · have hik : i < k := by omega
                simp only [dn, Bool.and_eq_true] at hDk
                have hkL : memN k L = false := by
                  have := hDk.2
                  simp only [E, Bool.not_eq_true'] at this
                  exact this
                obtain ⟨hok, hd2⟩ := dstOf k hk hkL
                obtain ⟨hoi', hd1⟩ := dstOf i him hiL
                rcases F.pre i k _ _ hiL hkL hik hk hoi' hok with h9 | h9
                · have h10 := hcl k i (toGet k hDk.1) h9
                  rw [hlf'] at h10; cases h10
                · exact absurd (by rw [hd2, hkt]) ((Oper.apart_spec h9).2.1 _ hd1))
            rw [h7, get?_set, htb i him hiL, ← (pk i him hiL).hav]
          · -- the rest has begun
            have hall : ∀ j, j < m → listed[j]? = some true := by
              intro j hj
              cases hjL : memN j L with
              | true => exact hLl j hjL
              | false => exact toGet j (hmask j (F.tail j i hjL hiL (by omega) (by omega) hi))
            refine phase2 m (Nat.le_refl _) F.hm hall h1 ?_
            rw [text m (Nat.le_refl _)]
            refine h2.congr (fun t => ?_) (fun q => ?_)
            · refine (fD_text (j := m) (Nat.le_refl _) (fun k hk _ => ?_)).symm
              simp [dn, Array.getD_eq_getD_getElem?, hall k hk, hk]
            · dsimp only
              rw [fO_congr (D := dn listed) (E := E) fun k hk => by simp [dn, Array.getD_eq_getD_getElem?, hall k hk]]
        · exact phase2 q h1 h2 h3 h4 h5
  have hcn := cnt_listAll (L := L) (l := Array.replicate ops.size false) honce (by simp) (fun i hi => by simp [hLlt i hi])
  have hcr : cnt (Array.replicate ops.size false) = ops.size := by simp [cnt, List.filter_replicate]
  refine key (ops.size - L.length) (listAll L (Array.replicate ops.size false)) g a _ (by rw [listAll_size]; simp) (by omega) (fun k hk => by rw [listAll_get (by simpa using hLlt k hk), hk]; rfl) ?_ (.inl ⟨fun j _ hj hjL => by rw [listAll_get (by simpa using hj), hjL]; simp [hj], ?_⟩)
  · -- what is listed has all before it
    exact listAll_closed F hf
  · have hdn0 : ∀ n, n < ops.size → dn (listAll L (Array.replicate ops.size false)) n = false := by
      intro n hn
      simp only [dn, Array.getD_eq_getD_getElem?]
      rw [listAll_get (by simp; omega)]
      cases hL : memN n L with
      | true => simp [E, hL]
      | false => simp [show n < ops.size by omega]
    refine hst.congr (fun t => ?_) (fun q => fO_old fun k hk hDk => by rw [hdn0 k (by have := F.hm; omega)] at hDk; cases hDk)
    have : ∀ n, n ≤ ops.size → fD tb (dn (listAll L (Array.replicate ops.size false))) Γ.tmps n = Γ.tmps := by
      intro n
      induction n with
      | zero => intro _; rfl
      | succ n ih =>
        intro hn
        simp only [fD]
        rw [if_neg, ih (by omega)]
        simp only [dn, Array.getD_eq_getD_getElem?]
        rw [listAll_get (by simp; omega)]
        cases hL : memN n L with
        | true => simp [E, hL]
        | false => simp [show n < ops.size by omega]
    rw [this m F.hm]
/-- Those of L first; of the rest the first m in whatever order. -/
theorem W.drawNew {P : Program} {n : Nat} {Q : Exit → Sy → Prop} {Γ : Sy} {T : List (Nat × TE)} (hT : TOk P T) (F : List Nat) (hmx : P.follows .mixedOrders = true) (M L : List Nat) (m : Nat) {id : Nat} {ops : Array Oper}
    (hd : (drawOk ops M L m && floatOk ops L (Array.replicate ops.size false) && Region.noSelect ops && listOnce ops.size L) = true)
    (h : floatVC T n ops L Γ fun Γ1 => preVC P T F n (dstsOf ops) M L Γ1.own ops.toList 0 m Γ1 [] fun Γ2 acc l => match newOkA M Γ1 acc acc with
      | true => opsVC P T F n (dstsOf ops) L l m 0 Γ2 (Q .normal)
      | false => False) : W P n (.region id ops true) Γ Q := by
  simp only [Bool.and_eq_true] at hd
  obtain ⟨⟨⟨h1, h2⟩, h3⟩, h4⟩ := hd
  refine ⟨fun c g a w hn hst => ?_⟩
  obtain ⟨K, hK1, hK2⟩ := keepAll w (Oset Γ.own g)
  let c' : Cx := { c with K := K }
  have hst' : St c' Γ g a w := ⟨hst.defers, hst.size, hst.keep, hst.o0, hst.tmps, hK1, hst.hp⟩
  have hcK : ∀ b x, c.K b = some x → K b = some x := fun b x hb => hK2 b _ _ _ (hst.kept b x hb).1 (hst.kept b x hb).2
  have key : (Code.region id ops true).wp P (fun e a' w' => match e with | .normal => ∃ Γ' g', Q .normal Γ' ∧ St c Γ' g' a' w' | _ => False) a w := by
    subst hn
    exact region_new (c := c') hT hmx h1 h2 h3 h4 (K := Q .normal) h (fun _ _ _ h => h) hst' hK2
      fun Γ' g' a' w' h1 h2 => ⟨Γ', g', h1, ⟨h2.defers, h2.size, h2.keep, h2.o0, h2.tmps, fun b x hb => h2.kept b x (hcK b x hb), h2.hp⟩⟩
  refine wp_mono key fun e a' w' hq => ?_
  cases e with
  | normal => exact hq
  | _ => exact hq.elim
end Go.Vc

/- Calls by contract: the contract is matched first. Matching of states, step by step. No condition. -/
namespace Go.Vc
set_option linter.unusedVariables false
theorem call_at {P : Program} {al : Bool} {f : Nat} {S : List SV} {R : AV} {N : List (Nat × Ob)} (h : FnAt P al f S R N) {own : List (Nat × Ob)} {l : List AV} {G : Path} {φ : Bool} {K : Bool → List SV → Bool → AV → List (Nat × Ob) → Prop}
    (h1 : viewAll own al l = some (S, φ)) (h2 : R.okR = true) (h3 : okN N = true) (h4 : R.ownIn2 N = true) (h5 : K al S φ R N) :
    ∃ (al : Bool) (S : List SV) (φ : Bool) (R : AV) (N : List (Nat × Ob)), viewAll own al l = some (S, φ) ∧ G.imp (FnAt P al f S R N) ∧ R.okR = true ∧ okN N = true ∧ R.ownIn2 N = true ∧ K al S φ R N :=
  ⟨al, S, φ, R, N, h1, Path.imp_of h, h2, h3, h4, h5⟩

/-- A table of names, brought to its plain form. -/
def fR : Ren → (Ren → Prop) → Prop
  | [], K => K []
  | (k, some j) :: r, K => fR r fun r' => K ((k, some j) :: r')
  | (k, none) :: r, K => fR r fun r' => K ((k, none) :: r')
theorem fR_ok : ∀ {ρ : Ren} {K : Ren → Prop}, fR ρ K → K ρ
  | [], K, h => h
  | (k, some j) :: r, K, h => fR_ok (ρ := r) h
  | (k, none) :: r, K, h => fR_ok (ρ := r) h
def ck (b : Bool) (K : Prop) : Prop := match b with
  | true => K
  | false => False
theorem ck_ok {b : Bool} {K : Prop} (h : ck b K) : b = true ∧ K := by cases b with
  | true => exact ⟨rfl, h⟩
  | false => exact h.elim
def fV (v u : Value) (K : Prop) : Prop := match v, u with
  | .int k n, .int k' m => ck (eqKind k k') (n = m ∧ K)
  | .bool a, .bool b => a = b ∧ K
  | v, u => v = u ∧ K
theorem fV_ok {v u : Value} {K : Prop} (h : fV v u K) : v = u ∧ K := by
  unfold fV at h
  split at h
  · obtain ⟨h1, h2, h3⟩ := ck_ok h
    simp only [eqKind, decide_eq_true_eq] at h1
    exact ⟨by rw [h1, h2], h3⟩
  · exact ⟨by rw [h.1], h.2⟩
  · exact h
def fS (S S' : SV) (K : Prop) : Prop := match S, S' with
  | .narr t xs, .arr t' ys => SV.arr t xs = .arr t' ys ∧ K
  | .arr t xs, .narr t' ys => SV.arr t xs = .arr t' ys ∧ xs ≠ [] ∧ K
  | .lit v, .lit u => fV v u K
  | S, S' => S = S' ∧ K
theorem fS_ok {S S' : SV} {K : Prop} (h : fS S S' K) : (S = S' ∨ match (generalizing := false) S, S' with
      | .narr t xs, .arr t' ys => SV.arr t xs = .arr t' ys
      | .arr t xs, .narr t' ys => SV.arr t xs = .arr t' ys ∧ xs ≠ []
      | _, _ => False) ∧ K := by
  unfold fS at h
  split at h
  · exact ⟨.inr h.1, h.2⟩
  · exact ⟨.inr ⟨h.1, h.2.1⟩, h.2.2⟩
  · obtain ⟨h1, h2⟩ := fV_ok h
    exact ⟨.inl (by rw [h1]), h2⟩
  · exact ⟨.inl h.1, h.2⟩
def fK (ρ : Ren) (k' k : Nat) (K : Prop) : Prop := match get? ρ k' with
  | some (some j) => ck (Nat.beq j k) K
  | _ => False
theorem fK_ok {ρ : Ren} {k' k : Nat} {K : Prop} (h : fK ρ k' k K) : get? ρ k' = some (some k) ∧ K := by
  unfold fK at h
  split at h
  · rename_i j hj
    obtain ⟨h1, h2⟩ := ck_ok h
    exact ⟨by rw [hj, Nat.eq_of_beq_eq_true h1], h2⟩
  · exact h.elim
def fB (fr' : Bool) : List AV → List SV → Prop → Prop
  | [], [], K => K
  | .lit v :: r, .lit u :: m, K => fV v u (fB fr' r m K)
  | .st fr A :: r, B :: m, K => ck (!fr' || fr) (A = B ∧ fB fr' r m K)
  | _, _, _ => False
theorem imp_bool {a b : Bool} (h : (!a || b) = true) : a = true → b = true := by cases a <;> cases b <;> simp_all
theorem fB_ok {fr' : Bool} {K : Prop} : ∀ {l : List AV} {m : List SV}, fB fr' l m K → matchB fr' l m ∧ K
  | [], [], h => ⟨trivial, h⟩
  | .lit v :: r, .lit u :: m, h => by
    obtain ⟨h1, h2⟩ := fV_ok h
    obtain ⟨h3, h4⟩ := fB_ok h2
    exact ⟨⟨h1, h3⟩, h4⟩
  | .st fr A :: r, B :: m, h => by
    unfold fB at h
    obtain ⟨h1, h2, h3⟩ := ck_ok h
    obtain ⟨h4, h5⟩ := fB_ok h3
    exact ⟨⟨imp_bool h1, h2, h4⟩, h5⟩
def f1 (own : List (Nat × Ob)) (ρ : Ren) (A A' : AV) (K : Prop) : Prop := match A' with
  | .any => K
  | .lit u => match A with
    | .lit v => fV v u K
    | _ => False
  | .own k' => match A with
    | .own k => fK ρ k' k K
    | .lit (.slice none 0 0) => match get? ρ k' with
      | some none => K
      | _ => False
    | _ => False
  | .padr k' j' => match A with
    | .padr k j => fK ρ k' k (ck (Nat.beq j j') K)
    | _ => False
  | .mown k' => match A with
    | .mown k => fK ρ k' k K
    | _ => False
  | .st fr' S' => match A with
    | .st fr S => ck (!fr' || fr) (fS S S' K)
    | .lit (.slice none 0 0) => match S' with
      | .arr _ ys => ys = [] ∧ K
      | .narr _ ys => ys = [] ∧ K
      | _ => False
    | .lit v => S' = .lit v ∧ K
    | .own k => match get? own k with
      | some (.row _ t fr xs) => ck (notIn k ρ && (!fr' || (fr || Ty.flat t))) (match S' with
        | .arr t' ys => SV.arr t xs = .arr t' ys ∧ K
        | .narr t' ys => SV.arr t xs = .arr t' ys ∧ xs ≠ [] ∧ K
        | _ => False)
      | _ => False
    | .mown k => match get? own k with
      | some (.mat _ _ t fr xs none) => ck (notIn k ρ && (!fr' || (fr || Ty.flat t))) (match S' with
        | .arr t' ys => SV.arr (.sl t) xs = .arr t' ys ∧ K
        | _ => False)
      | _ => False
    | .padr k j => match j, S' with
      | 0, .sadr (.agg m) => match get? own k with
        | some (.box l) => ck (notIn k ρ) (fB fr' l m K)
        | _ => False
      | _, _ => False
    | _ => False
  | _ => False
theorem f1_ok {own : List (Nat × Ob)} {ρ : Ren} {A A' : AV} {K : Prop} (h : f1 own ρ A A' K) : match1 own ρ A A' ∧ K := by
  unfold f1 at h
  unfold match1
  split at h
  · exact ⟨trivial, h⟩
  · split at h
    · exact fV_ok h
    · exact h.elim
  · split at h
    · exact fK_ok h
    · split at h
      · rename_i he; exact ⟨he, h⟩
      · exact h.elim
    · exact h.elim
  · split at h
    · obtain ⟨h1, h2⟩ := fK_ok h
      obtain ⟨h3, h4⟩ := ck_ok h2
      exact ⟨⟨h1, Nat.eq_of_beq_eq_true h3⟩, h4⟩
    · exact h.elim
  · split at h
    · exact fK_ok h
    · exact h.elim
  · split at h
    · obtain ⟨h1, h2⟩ := ck_ok h
      obtain ⟨h3, h4⟩ := fS_ok h2
      exact ⟨⟨imp_bool h1, h3⟩, h4⟩
    · split at h
      · exact h
      · exact h
      · exact h.elim
    · refine ⟨?_, h.2⟩
      split <;> first
        | exact h.1
        | (simp_all; done)
    · split at h
      · rename_i he
        obtain ⟨h1, h2⟩ := ck_ok h
        rw [Bool.and_eq_true] at h1
        simp only [he]
        split at h2
        · exact ⟨⟨h1.1, imp_bool h1.2, h2.1⟩, h2.2⟩
        · exact ⟨⟨h1.1, imp_bool h1.2, h2.1, h2.2.1⟩, h2.2.2⟩
        · exact h2.elim
      · exact h.elim
    · split at h
      · rename_i he
        obtain ⟨h1, h2⟩ := ck_ok h
        rw [Bool.and_eq_true] at h1
        simp only [he]
        split at h2
        · exact ⟨⟨h1.1, imp_bool h1.2, h2.1⟩, h2.2⟩
        · exact h2.elim
      · exact h.elim
    · split at h
      · split at h
        · rename_i he
          obtain ⟨h1, h2⟩ := ck_ok h
          obtain ⟨h3, h4⟩ := fB_ok h2
          simp only [he]
          exact ⟨⟨h1, h3⟩, h4⟩
        · exact h.elim
      · exact h.elim
    · exact h.elim
  · exact h.elim
def fL (own : List (Nat × Ob)) (ρ : Ren) : List AV → List AV → Prop → Prop
  | [], [], K => K
  | A :: r, A' :: r', K => f1 own ρ A A' (fL own ρ r r' K)
  | _, _, _ => False
theorem fL_ok {own : List (Nat × Ob)} {ρ : Ren} : ∀ {l l' : List AV} {K : Prop}, fL own ρ l l' K → matchL own ρ l l' ∧ K
  | [], [], K, h => ⟨trivial, h⟩
  | A :: r, A' :: r', K, h => by
    obtain ⟨h1, h2⟩ := f1_ok h
    obtain ⟨h3, h4⟩ := fL_ok h2
    exact ⟨⟨h1, h3⟩, h4⟩
  | [], _ :: _, K, h => h.elim
  | _ :: _, [], K, h => h.elim
def fM (own : List (Nat × Ob)) (ρ : Ren) (A A' : AV) (K : Prop) : Prop := match A' with
  | .strct l' => match A with
    | .strct l => fL own ρ l l' K
    | .st fr (.agg l) => fL own ρ (upL fr l) l' K
    | _ => False
  | A' => f1 own ρ A A' K
theorem fM_ok {own : List (Nat × Ob)} {ρ : Ren} {A A' : AV} {K : Prop} (h : fM own ρ A A' K) : matchM own ρ A A' ∧ K := by
  unfold fM at h
  unfold matchM
  split at h
  · split at h
    · exact fL_ok h
    · exact fL_ok h
    · exact h.elim
  · rename_i hne
    obtain ⟨h1, h2⟩ := f1_ok h
    refine ⟨?_, h2⟩
    split
    · exact absurd rfl (hne _)
    · exact h1
def fML (own : List (Nat × Ob)) (ρ : Ren) : List AV → List AV → Prop → Prop
  | [], [], K => K
  | A :: r, A' :: r', K => fM own ρ A A' (fML own ρ r r' K)
  | _, _, _ => False
theorem fML_ok {own : List (Nat × Ob)} {ρ : Ren} : ∀ {l l' : List AV} {K : Prop}, fML own ρ l l' K → matchML own ρ l l' ∧ K
  | [], [], K, h => ⟨trivial, h⟩
  | A :: r, A' :: r', K, h => by
    obtain ⟨h1, h2⟩ := fM_ok h
    obtain ⟨h3, h4⟩ := fML_ok h2
    exact ⟨⟨h1, h3⟩, h4⟩
  | [], _ :: _, K, h => h.elim
  | _ :: _, [], K, h => h.elim
def f2 (own : List (Nat × Ob)) (ρ : Ren) (A A' : AV) (K : Prop) : Prop := match A' with
  | .tup l' => match A with
    | .tup l => fML own ρ l l' K
    | _ => False
  | .fn f' l' => match A with
    | .fn f l => ck (Nat.beq f f') (fL own ρ l l' K)
    | _ => False
  | A' => fM own ρ A A' K
theorem f2_ok {own : List (Nat × Ob)} {ρ : Ren} {A A' : AV} {K : Prop} (h : f2 own ρ A A' K) : match2 own ρ A A' ∧ K := by
  unfold f2 at h
  unfold match2
  split at h
  · split at h
    · exact fML_ok h
    · exact h.elim
  · split at h
    · obtain ⟨h1, h2⟩ := ck_ok h
      obtain ⟨h3, h4⟩ := fL_ok h2
      exact ⟨⟨Nat.eq_of_beq_eq_true h1, h3⟩, h4⟩
    · exact h.elim
  · rename_i hne1 hne2
    obtain ⟨h1, h2⟩ := fM_ok h
    refine ⟨?_, h2⟩
    split
    · exact absurd rfl (hne1 _)
    · exact absurd rfl (hne2 _ _)
    · exact h1
def fL2 (own : List (Nat × Ob)) (ρ : Ren) : List AV → List AV → Prop → Prop
  | [], [], K => K
  | A :: r, A' :: r', K => f2 own ρ A A' (fL2 own ρ r r' K)
  | _, _, _ => False
theorem fL2_ok {own : List (Nat × Ob)} {ρ : Ren} : ∀ {l l' : List AV} {K : Prop}, fL2 own ρ l l' K → matchL2 own ρ l l' ∧ K
  | [], [], K, h => ⟨trivial, h⟩
  | A :: r, A' :: r', K, h => by
    obtain ⟨h1, h2⟩ := f2_ok h
    obtain ⟨h3, h4⟩ := fL2_ok h2
    exact ⟨⟨h1, h3⟩, h4⟩
  | [], _ :: _, K, h => h.elim
  | _ :: _, [], K, h => h.elim
def fOb (own : List (Nat × Ob)) (ρ : Ren) (k' : Nat) (o' : Ob) (K : Prop) : Prop := match get? ρ k' with
  | some (some k) => match get? own k, o' with
    | some (.row e t fr xs), .row e' t' fr' ys => ck (Nat.beq e e' && (!fr' || (fr || Ty.flat t))) (SV.arr t xs = .arr t' ys ∧ K)
    | some (.mat e1 e2 t fr xs st), .mat e1' e2' t' fr' ys st' => ck (Nat.beq e1 e1' && Nat.beq e2 e2' && (!fr' || (fr || Ty.flat t))) (SV.arr (.sl t) xs = .arr (.sl t') ys ∧ st = st' ∧ K)
    | some (.box l), .box l' => fL2 own ρ l l' K
    | some (.box1 A), .box1 A' => f2 own ρ A A' K
    | _, _ => False
  | some none => match o' with
    | .row _ _ _ ys => ys = [] ∧ K
    | _ => False
  | none => False
theorem fOb_ok {own : List (Nat × Ob)} {ρ : Ren} {k' : Nat} {o' : Ob} {K : Prop} (h : fOb own ρ k' o' K) : matchO own ρ k' o' ∧ K := by
  unfold fOb at h
  unfold matchO
  split at h
  · rename_i k hk
    split at h
    · rename_i hg
      obtain ⟨h1, h2, h3⟩ := ck_ok h
      rw [Bool.and_eq_true] at h1
      simp only [hk, hg]
      exact ⟨⟨Nat.eq_of_beq_eq_true h1.1, imp_bool h1.2, h2⟩, h3⟩
    · rename_i hg
      obtain ⟨h1, h2, h3, h4⟩ := ck_ok h
      rw [Bool.and_eq_true, Bool.and_eq_true] at h1
      simp only [hk, hg]
      exact ⟨⟨Nat.eq_of_beq_eq_true h1.1.1, Nat.eq_of_beq_eq_true h1.1.2, imp_bool h1.2, h2, h3⟩, h4⟩
    · rename_i hg
      simp only [hk, hg]
      exact fL2_ok h
    · rename_i hg
      simp only [hk, hg]
      exact f2_ok h
    · exact h.elim
  · rename_i hk
    simp only [hk]
    split at h
    · exact h
    · exact h.elim
  · exact h.elim
def fOs (own : List (Nat × Ob)) (ρ : Ren) : List (Nat × Ob) → Prop → Prop
  | [], K => K
  | (k', o') :: r, K => fOb own ρ k' o' (fOs own ρ r K)
theorem fOs_ok {own : List (Nat × Ob)} {ρ : Ren} : ∀ {l : List (Nat × Ob)} {K : Prop}, fOs own ρ l K → matchOs own ρ l ∧ K
  | [], K, h => ⟨trivial, h⟩
  | (k', o') :: r, K, h => by
    obtain ⟨h1, h2⟩ := fOb_ok h
    obtain ⟨h3, h4⟩ := fOs_ok h2
    exact ⟨⟨h1, h3⟩, h4⟩
def fT (Γ : Sy) (ρ : Ren) : List (Nat × AV) → Prop → Prop
  | [], K => K
  | (t, A') :: r, K => match get? Γ.tmps t with
    | some (.gd _ _) => False
    | some A => f2 Γ.own ρ A A' (fT Γ ρ r K)
    | none => False
theorem fT_ok {Γ : Sy} {ρ : Ren} : ∀ {l : List (Nat × AV)} {K : Prop}, fT Γ ρ l K → subT Γ ρ l ∧ K
  | [], K, h => ⟨trivial, h⟩
  | (t, A') :: r, K, h => by
    unfold fT at h
    split at h
    · exact h.elim
    · rename_i A hne hA
      obtain ⟨h1, h2⟩ := f2_ok h
      obtain ⟨h3, h4⟩ := fT_ok h2
      refine ⟨⟨?_, h3⟩, h4⟩
      rw [hA]
      split
      · rename_i he; cases he; exact absurd rfl (hne _ _)
      · rename_i he; cases he; exact h1
      · rename_i he; cases he
    · exact h.elim
/-- The state Γ can be read as Γ', step by step. -/
def subF (Γ Γ' : Sy) : Prop := fR (mkRen Γ Γ') fun ρ => ck (nodupR ρ) (fT Γ ρ Γ'.tmps (fOs Γ.own ρ Γ'.own True))
theorem subF.ok {Γ Γ' : Sy} (h : subF Γ Γ') : Sub Γ Γ' (mkRen Γ Γ') := by
  obtain ⟨h1, h2⟩ := ck_ok (fR_ok h)
  obtain ⟨h3, h4⟩ := fT_ok h2
  exact ⟨h1, h3, (fOs_ok h4).1⟩
theorem subF.side {Γ Γ' : Sy} (h : subF Γ Γ') : Side (Sub Γ Γ' (mkRen Γ Γ')) := h.ok
theorem subF.leaf {Γ Γ' : Sy} (h : subF Γ Γ') : Leaf (Sub Γ Γ' (mkRen Γ Γ')) := .mk h.ok
theorem retF1 {own : List (Nat × Ob)} {A R : AV} {N : List (Nat × Ob)} (h : fR (dedupR (mkRen2 A R [])) fun ρ => ck (nodupR ρ) (f2 own ρ A R (fOs own ρ N True))) :
    ∃ ρ : Ren, ρ = dedupR (mkRen2 A R []) ∧ nodupR ρ = true ∧ match2 own ρ A R ∧ matchOs own ρ N := by
  obtain ⟨h1, h2⟩ := ck_ok (fR_ok h)
  obtain ⟨h3, h4⟩ := f2_ok h2
  exact ⟨_, rfl, h1, h3, (fOs_ok h4).1⟩
theorem retF2 {own : List (Nat × Ob)} {l : List AV} {R : AV} {N : List (Nat × Ob)} (h : fR (dedupR (mkRen2 (.tup l) R [])) fun ρ => ck (nodupR ρ && lvM l) (f2 own ρ (.tup l) R (fOs own ρ N True))) :
    ∃ ρ : Ren, ρ = dedupR (mkRen2 (.tup l) R []) ∧ nodupR ρ = true ∧ (lvM l = true ∧ match2 own ρ (.tup l) R) ∧ matchOs own ρ N := by
  obtain ⟨h1, h2⟩ := ck_ok (fR_ok h)
  rw [Bool.and_eq_true] at h1
  obtain ⟨h3, h4⟩ := f2_ok h2
  exact ⟨_, rfl, h1.1, ⟨h1.2, h3⟩, (fOs_ok h4).1⟩
end Go.Vc
/- The leaf functions of the water layer: what each returns. No condition. -/
namespace Go.Proofs.Ytohfemfgnohhdaa
open Go Go.Vc
set_option linter.unusedVariables false
set_option linter.unusedSimpArgs false

theorem drop_getD {α : Type} (d : α) : ∀ {xs : List α} {i : Nat}, i < xs.length → xs.drop i = xs.getD i d :: xs.drop (i + 1)
  | x :: r, 0, _ => rfl
  | x :: r, i + 1, h => by simpa using drop_getD d (xs := r) (i := i) (by simpa using h)
theorem dflt_int (k : IntKind) : (Ty.int k).dflt = (0 : Int) := Eq.trans rfl rfl
theorem len_int (k : IntKind) (xs : List Int) : @List.length (Ty.int k).T xs = @List.length Int xs := Eq.trans rfl rfl
theorem len_sl (k : IntKind) (xs : List (List Int)) : @List.length (Ty.sl (Ty.int k)).T xs = @List.length (List Int) xs := Eq.trans rfl rfl
theorem len_bool (xs : List Bool) : @List.length Ty.bool.T xs = @List.length Bool xs := Eq.trans rfl rfl
theorem getD_bool (xs : List Bool) (i : Nat) : @List.getD Ty.bool.T xs i Ty.bool.dflt = @List.getD Bool xs i false := Eq.trans rfl rfl
theorem getD_sl (k : IntKind) (xs : List (List Int)) (i : Nat) : @List.getD (Ty.sl (Ty.int k)).T xs i (Ty.sl (Ty.int k)).dflt = @List.getD (List Int) xs i [] := Eq.trans rfl rfl
theorem getD_int (k : IntKind) (xs : List Int) (i : Nat) : @List.getD (Ty.int k).T xs i (Ty.int k).dflt = @List.getD Int xs i 0 := Eq.trans rfl rfl

theorem in_at (v lo hi : Int) : FnAt Try.prog false 42 [.lit (.int .i64 v), .lit (.int .i64 lo), .lit (.int .i64 hi)] (.lit (.bool (decide (lo ≤ v) && decide (v ≤ hi)))) [] := by
  refine FnAt.of_body tys_ok Try.func42 (by rfl) rfl Try.ntmps42 (by rw [Try.results42]) (by simp) ?_
  
  repeat' (first
 | refine W.seq ?_
 | refine W.block ?_
 | (refine W.region tys_ok [] ?_; conv => whnf)
 | (refine W.drawAll tys_ok [] mixed rfl ?_; conv => whnf)
 | (refine W.ret ?_; conv => whnf)
 | (refine W.skip ?_; conv => whnf)
 | (refine W.exit ?_; conv => whnf)

    | (refine W.cond rfl (fun hb => ?_) (fun hb => ?_) <;> (try simp only [minL, maxL, pickB, getD_int, getD_sl, getD_bool, len_int, len_sl, len_bool, decide_eq_true_eq, decide_eq_false_iff_not, Bool.and_eq_true, Bool.or_eq_true, Bool.and_eq_false_iff, Bool.or_eq_false_iff, Bool.not_eq_true', Bool.not_eq_false', Bool.true_eq_false, Bool.false_eq_true, Int.toNat_natCast, Int.ofNat_lt, Int.ofNat_le, not_true_eq_false, not_false_eq_true, or_false, false_or, and_true, true_and, or_true, true_or, and_false, false_and] at hb) <;> (try (first | (cases hb; done) | exact absurd hb (by decide) | (exfalso; omega))))
    | ((with_reducible refine And.intro ?_ ?_); (focus ((repeat' (first | (with_reducible rfl) | (with_reducible refine And.intro ?_ ?_) | omega | rfl | exact Or.inl rfl | exact Or.inr rfl | (focus ((try simp only [minL, maxL, pickB, getD_int, getD_sl, getD_bool, len_int, len_sl, len_bool, decide_eq_true_eq, decide_eq_false_iff_not, Bool.and_eq_true, Bool.or_eq_true, Bool.and_eq_false_iff, Bool.or_eq_false_iff, Bool.not_eq_true', Bool.not_eq_false', Bool.true_eq_false, Bool.false_eq_true, Int.toNat_natCast, Int.ofNat_lt, Int.ofNat_le, not_true_eq_false, not_false_eq_true, or_false, false_or, and_true, true_and, or_true, true_or, and_false, false_and, InK, Path.imp, List.length_replicate, List.length_set, List.length_append, List.length_cons, List.length_nil] at *); omega)) | (refine app_le rfl ?_; omega))); done)); (conv => whnf))
    | ((with_reducible refine And.intro (Side.out ?_) ?_); rotate_left; (conv => whnf))
    | (refine retF1 ?_ <;> (conv => whnf) <;> repeat' (first
 | exact trivial
 | (with_reducible rfl)
 | ((with_reducible refine And.intro ?_ ?_) <;> conv => whnf)
 | omega
 | rfl
 | (refine congrArg (SV.arr _) ?_)
 | (refine congrArg (Value.int _) ?_)
 | (refine congrArg Value.bool ?_)))
 | (refine retF2 ?_ <;> (conv => whnf) <;> repeat' (first
 | exact trivial
 | (with_reducible rfl)
 | ((with_reducible refine And.intro ?_ ?_) <;> conv => whnf)
 | omega
 | rfl
 | (refine congrArg (SV.arr _) ?_)
 | (refine congrArg (Value.int _) ?_)
 | (refine congrArg Value.bool ?_)))); all_goals (try unfold Side)

/-- Whether a use is possible. -/
def poss : Int → List Int → List Int → Bool
  | l, f :: fs, u :: us => !decide (l + f < u) && poss (l + f - u) fs us
  | _, _, _ => true

theorem possible_at (fl us : List Int) (hl : us.length = fl.length) (hn : us.length ≤ 9) (hf : ∀ i, i < fl.length → 0 ≤ fl.getD i 0 ∧ fl.getD i 0 ≤ 1000) (hu : ∀ i, i < us.length → 0 ≤ us.getD i 0) :
    FnAt Try.prog false 49 [.arr (.int .i64) fl, .arr (.int .i64) us] (.lit (.bool (poss 0 fl us))) [] := by
  refine FnAt.of_body tys_ok Try.func49 (by rfl) rfl Try.ntmps49 (by rw [Try.results49]) (by simp) ?_
  
  repeat' (first
 | refine W.seq ?_
 | refine W.block ?_
 | (refine W.region tys_ok [] ?_; conv => whnf)
 | (refine W.drawAll tys_ok [] mixed rfl ?_; conv => whnf)
 | (refine W.ret ?_; conv => whnf)
 | (refine W.skip ?_; conv => whnf)
 | (refine W.exit ?_; conv => whnf)

    | (refine W.cond rfl (fun hb => ?_) (fun hb => ?_) <;> (try simp only [minL, maxL, pickB, getD_int, getD_sl, getD_bool, len_int, len_sl, len_bool, decide_eq_true_eq, decide_eq_false_iff_not, Bool.and_eq_true, Bool.or_eq_true, Bool.and_eq_false_iff, Bool.or_eq_false_iff, Bool.not_eq_true', Bool.not_eq_false', Bool.true_eq_false, Bool.false_eq_true, Int.toNat_natCast, Int.ofNat_lt, Int.ofNat_le, not_true_eq_false, not_false_eq_true, or_false, false_or, and_true, true_and, or_true, true_or, and_false, false_and] at hb) <;> (try (first | (cases hb; done) | exact absurd hb (by decide) | (exfalso; omega))))
    | ((with_reducible refine And.intro ?_ ?_); (focus ((repeat' (first | (with_reducible rfl) | (with_reducible refine And.intro ?_ ?_) | omega | rfl | exact Or.inl rfl | exact Or.inr rfl | (focus ((try simp only [minL, maxL, pickB, getD_int, getD_sl, getD_bool, len_int, len_sl, len_bool, decide_eq_true_eq, decide_eq_false_iff_not, Bool.and_eq_true, Bool.or_eq_true, Bool.and_eq_false_iff, Bool.or_eq_false_iff, Bool.not_eq_true', Bool.not_eq_false', Bool.true_eq_false, Bool.false_eq_true, Int.toNat_natCast, Int.ofNat_lt, Int.ofNat_le, not_true_eq_false, not_false_eq_true, or_false, false_or, and_true, true_and, or_true, true_or, and_false, false_and, InK, Path.imp, List.length_replicate, List.length_set, List.length_append, List.length_cons, List.length_nil] at *); omega)) | (refine app_le rfl ?_; omega))); done)); (conv => whnf))
    | ((with_reducible refine And.intro (Side.out ?_) ?_); rotate_left; (conv => whnf))
    | (refine retF1 ?_ <;> (conv => whnf) <;> repeat' (first
 | exact trivial
 | (with_reducible rfl)
 | ((with_reducible refine And.intro ?_ ?_) <;> conv => whnf)
 | omega
 | rfl
 | (refine congrArg (SV.arr _) ?_)
 | (refine congrArg (Value.int _) ?_)
 | (refine congrArg Value.bool ?_)))
 | (refine retF2 ?_ <;> (conv => whnf) <;> repeat' (first
 | exact trivial
 | (with_reducible rfl)
 | ((with_reducible refine And.intro ?_ ?_) <;> conv => whnf)
 | omega
 | rfl
 | (refine congrArg (SV.arr _) ?_)
 | (refine congrArg (Value.int _) ?_)
 | (refine congrArg Value.bool ?_)))); all_goals (try unfold Side)
  refine W.loop (fun x : Nat × Int => ⟨[(0, .st false (.arr (.int .i64) fl)), (1, .st false (.arr (.int .i64) us)), (5, .lit (.int .i64 x.2)), (8, .st false (.arr (.int .i64) us)), (9, .lit (.int .i64 us.length)), (10, .lit (.int .i64 x.1))], []⟩)
    (fun x => x.1 ≤ us.length ∧ 0 ≤ x.2 ∧ x.2 ≤ 1000 * x.1 ∧ poss 0 fl us = poss x.2 (fl.drop x.1) (us.drop x.1)) (fun x => us.length - x.1) (0, 0) ?_ ?_
  · refine ⟨by simp, ?_⟩
    refine subF.ok ?_ <;> (conv => whnf) <;> repeat' (first
 | exact trivial
 | (with_reducible rfl)
 | ((with_reducible refine And.intro ?_ ?_) <;> conv => whnf)
 | omega
 | rfl
 | (refine congrArg (SV.arr _) ?_)
 | (refine congrArg (Value.int _) ?_)
 | (refine congrArg Value.bool ?_))
  · rintro ⟨i, l⟩ ⟨hi, h0, h1, hp⟩
    dsimp only at hi h0 h1 hp ⊢
    have hfi := hf i
    have hui := hu i
    by_cases hil : i < us.length
    · rw [drop_getD 0 hil, drop_getD 0 (by omega : i < fl.length)] at hp
      simp only [poss] at hp
      repeat' (first
 | refine W.seq ?_
 | refine W.block ?_
 | (refine W.region tys_ok [] ?_; conv => whnf)
 | (refine W.drawAll tys_ok [] mixed rfl ?_; conv => whnf)
 | (refine W.ret ?_; conv => whnf)
 | (refine W.skip ?_; conv => whnf)
 | (refine W.exit ?_; conv => whnf)

    | (refine W.cond rfl (fun hb => ?_) (fun hb => ?_) <;> (try simp only [minL, maxL, pickB, getD_int, getD_sl, getD_bool, len_int, len_sl, len_bool, decide_eq_true_eq, decide_eq_false_iff_not, Bool.and_eq_true, Bool.or_eq_true, Bool.and_eq_false_iff, Bool.or_eq_false_iff, Bool.not_eq_true', Bool.not_eq_false', Bool.true_eq_false, Bool.false_eq_true, Int.toNat_natCast, Int.ofNat_lt, Int.ofNat_le, not_true_eq_false, not_false_eq_true, or_false, false_or, and_true, true_and, or_true, true_or, and_false, false_and] at hb) <;> (try (first | (cases hb; done) | exact absurd hb (by decide) | (exfalso; omega))))
    | ((with_reducible refine And.intro ?_ ?_); (focus ((repeat' (first | (with_reducible rfl) | (with_reducible refine And.intro ?_ ?_) | omega | rfl | exact Or.inl rfl | exact Or.inr rfl | (focus ((try simp only [minL, maxL, pickB, getD_int, getD_sl, getD_bool, len_int, len_sl, len_bool, decide_eq_true_eq, decide_eq_false_iff_not, Bool.and_eq_true, Bool.or_eq_true, Bool.and_eq_false_iff, Bool.or_eq_false_iff, Bool.not_eq_true', Bool.not_eq_false', Bool.true_eq_false, Bool.false_eq_true, Int.toNat_natCast, Int.ofNat_lt, Int.ofNat_le, not_true_eq_false, not_false_eq_true, or_false, false_or, and_true, true_and, or_true, true_or, and_false, false_and, InK, Path.imp, List.length_replicate, List.length_set, List.length_append, List.length_cons, List.length_nil] at *); omega)) | (refine app_le rfl ?_; omega))); done)); (conv => whnf))
    | ((with_reducible refine And.intro (Side.out ?_) ?_); rotate_left; (conv => whnf))
    | (refine retF1 ?_ <;> (conv => whnf) <;> repeat' (first
 | exact trivial
 | (with_reducible rfl)
 | ((with_reducible refine And.intro ?_ ?_) <;> conv => whnf)
 | omega
 | rfl
 | (refine congrArg (SV.arr _) ?_)
 | (refine congrArg (Value.int _) ?_)
 | (refine congrArg Value.bool ?_)))
 | (refine retF2 ?_ <;> (conv => whnf) <;> repeat' (first
 | exact trivial
 | (with_reducible rfl)
 | ((with_reducible refine And.intro ?_ ?_) <;> conv => whnf)
 | omega
 | rfl
 | (refine congrArg (SV.arr _) ?_)
 | (refine congrArg (Value.int _) ?_)
 | (refine congrArg Value.bool ?_)))); all_goals (try unfold Side)
      all_goals try (repeat' (first | (with_reducible rfl) | (with_reducible refine And.intro ?_ ?_) | omega | rfl | exact Or.inl rfl | exact Or.inr rfl | (focus ((try simp only [minL, maxL, pickB, getD_int, getD_sl, getD_bool, len_int, len_sl, len_bool, decide_eq_true_eq, decide_eq_false_iff_not, Bool.and_eq_true, Bool.or_eq_true, Bool.and_eq_false_iff, Bool.or_eq_false_iff, Bool.not_eq_true', Bool.not_eq_false', Bool.true_eq_false, Bool.false_eq_true, Int.toNat_natCast, Int.ofNat_lt, Int.ofNat_le, not_true_eq_false, not_false_eq_true, or_false, false_or, and_true, true_and, or_true, true_or, and_false, false_and, InK, Path.imp, List.length_replicate, List.length_set, List.length_append, List.length_cons, List.length_nil] at *); omega)) | (refine app_le rfl ?_; omega)))
      · rename_i hb
        rw [hp]
        simp only [hb, decide_true, Bool.not_true, Bool.false_and]
      · rename_i hb
        refine ⟨(i + 1, l + fl.getD i 0 - us.getD i 0), ⟨?_, ?_⟩, ?_⟩
        · have : decide (l + fl.getD i 0 < us.getD i 0) = false := by simp only [decide_eq_false_iff_not]; exact hb
          rw [this] at hp
          refine ⟨?_, ?_, ?_, by simpa only [Bool.not_false, Bool.true_and] using hp⟩ <;> dsimp only <;> omega
        · dsimp only; omega
        · refine subF.ok ?_ <;> (conv => whnf) <;> repeat' (first
 | exact trivial
 | (with_reducible rfl)
 | ((with_reducible refine And.intro ?_ ?_) <;> conv => whnf)
 | omega
 | rfl
 | (refine congrArg (SV.arr _) ?_)
 | (refine congrArg (Value.int _) ?_)
 | (refine congrArg Value.bool ?_))
    · have hi' : i = us.length := by omega
      subst hi'
      rw [List.drop_length] at hp
      repeat' (first
 | refine W.seq ?_
 | refine W.block ?_
 | (refine W.region tys_ok [] ?_; conv => whnf)
 | (refine W.drawAll tys_ok [] mixed rfl ?_; conv => whnf)
 | (refine W.ret ?_; conv => whnf)
 | (refine W.skip ?_; conv => whnf)
 | (refine W.exit ?_; conv => whnf)

    | (refine W.cond rfl (fun hb => ?_) (fun hb => ?_) <;> (try simp only [minL, maxL, pickB, getD_int, getD_sl, getD_bool, len_int, len_sl, len_bool, decide_eq_true_eq, decide_eq_false_iff_not, Bool.and_eq_true, Bool.or_eq_true, Bool.and_eq_false_iff, Bool.or_eq_false_iff, Bool.not_eq_true', Bool.not_eq_false', Bool.true_eq_false, Bool.false_eq_true, Int.toNat_natCast, Int.ofNat_lt, Int.ofNat_le, not_true_eq_false, not_false_eq_true, or_false, false_or, and_true, true_and, or_true, true_or, and_false, false_and] at hb) <;> (try (first | (cases hb; done) | exact absurd hb (by decide) | (exfalso; omega))))
    | ((with_reducible refine And.intro ?_ ?_); (focus ((repeat' (first | (with_reducible rfl) | (with_reducible refine And.intro ?_ ?_) | omega | rfl | exact Or.inl rfl | exact Or.inr rfl | (focus ((try simp only [minL, maxL, pickB, getD_int, getD_sl, getD_bool, len_int, len_sl, len_bool, decide_eq_true_eq, decide_eq_false_iff_not, Bool.and_eq_true, Bool.or_eq_true, Bool.and_eq_false_iff, Bool.or_eq_false_iff, Bool.not_eq_true', Bool.not_eq_false', Bool.true_eq_false, Bool.false_eq_true, Int.toNat_natCast, Int.ofNat_lt, Int.ofNat_le, not_true_eq_false, not_false_eq_true, or_false, false_or, and_true, true_and, or_true, true_or, and_false, false_and, InK, Path.imp, List.length_replicate, List.length_set, List.length_append, List.length_cons, List.length_nil] at *); omega)) | (refine app_le rfl ?_; omega))); done)); (conv => whnf))
    | ((with_reducible refine And.intro (Side.out ?_) ?_); rotate_left; (conv => whnf))
    | (refine retF1 ?_ <;> (conv => whnf) <;> repeat' (first
 | exact trivial
 | (with_reducible rfl)
 | ((with_reducible refine And.intro ?_ ?_) <;> conv => whnf)
 | omega
 | rfl
 | (refine congrArg (SV.arr _) ?_)
 | (refine congrArg (Value.int _) ?_)
 | (refine congrArg Value.bool ?_)))
 | (refine retF2 ?_ <;> (conv => whnf) <;> repeat' (first
 | exact trivial
 | (with_reducible rfl)
 | ((with_reducible refine And.intro ?_ ?_) <;> conv => whnf)
 | omega
 | rfl
 | (refine congrArg (SV.arr _) ?_)
 | (refine congrArg (Value.int _) ?_)
 | (refine congrArg Value.bool ?_)))); all_goals (try unfold Side)
      all_goals try (repeat' (first | (with_reducible rfl) | (with_reducible refine And.intro ?_ ?_) | omega | rfl | exact Or.inl rfl | exact Or.inr rfl | (focus ((try simp only [minL, maxL, pickB, getD_int, getD_sl, getD_bool, len_int, len_sl, len_bool, decide_eq_true_eq, decide_eq_false_iff_not, Bool.and_eq_true, Bool.or_eq_true, Bool.and_eq_false_iff, Bool.or_eq_false_iff, Bool.not_eq_true', Bool.not_eq_false', Bool.true_eq_false, Bool.false_eq_true, Int.toNat_natCast, Int.ofNat_lt, Int.ofNat_le, not_true_eq_false, not_false_eq_true, or_false, false_or, and_true, true_and, or_true, true_or, and_false, false_and, InK, Path.imp, List.length_replicate, List.length_set, List.length_append, List.length_cons, List.length_nil] at *); omega)) | (refine app_le rfl ?_; omega)))
      rw [hp]
      cases List.drop us.length fl <;> rfl
end Go.Proofs.Ytohfemfgnohhdaa
/- More leaf functions of the water layer: what each returns. No condition. -/
namespace Go.Proofs.Ytohfemfgnohhdaa
open Go Go.Vc
set_option linter.unusedVariables false
set_option linter.unusedSimpArgs false

theorem possible_ref (fl us : List Int) (hl : us.length = fl.length) (hn : us.length ≤ 9) (hf : ∀ i, i < fl.length → 0 ≤ fl.getD i 0 ∧ fl.getD i 0 ≤ 1000) (hu : ∀ i, i < us.length → 0 ≤ us.getD i 0) :
    FnAt Try.prog false 26 [.arr (.int .i64) fl, .arr (.int .i64) us] (.lit (.bool (poss 0 fl us))) [] := by
  refine FnAt.of_body tys_ok Try.func26 (by rfl) rfl Try.ntmps26 (by rw [Try.results26]) (by simp) ?_
  
  repeat' (first
 | refine W.seq ?_
 | refine W.block ?_
 | (refine W.region tys_ok [] ?_; conv => whnf)
 | (refine W.drawAll tys_ok [] mixed rfl ?_; conv => whnf)
 | (refine W.ret ?_; conv => whnf)
 | (refine W.skip ?_; conv => whnf)
 | (refine W.exit ?_; conv => whnf)

    | (refine W.cond rfl (fun hb => ?_) (fun hb => ?_) <;> (try simp only [minL, maxL, pickB, getD_int, getD_sl, getD_bool, len_int, len_sl, len_bool, decide_eq_true_eq, decide_eq_false_iff_not, Bool.and_eq_true, Bool.or_eq_true, Bool.and_eq_false_iff, Bool.or_eq_false_iff, Bool.not_eq_true', Bool.not_eq_false', Bool.true_eq_false, Bool.false_eq_true, Int.toNat_natCast, Int.ofNat_lt, Int.ofNat_le, not_true_eq_false, not_false_eq_true, or_false, false_or, and_true, true_and, or_true, true_or, and_false, false_and] at hb) <;> (try (first | (cases hb; done) | exact absurd hb (by decide) | (exfalso; omega))))
    | ((with_reducible refine And.intro ?_ ?_); (focus ((repeat' (first | (with_reducible rfl) | (with_reducible refine And.intro ?_ ?_) | omega | rfl | exact Or.inl rfl | exact Or.inr rfl | (focus ((try simp only [minL, maxL, pickB, getD_int, getD_sl, getD_bool, len_int, len_sl, len_bool, decide_eq_true_eq, decide_eq_false_iff_not, Bool.and_eq_true, Bool.or_eq_true, Bool.and_eq_false_iff, Bool.or_eq_false_iff, Bool.not_eq_true', Bool.not_eq_false', Bool.true_eq_false, Bool.false_eq_true, Int.toNat_natCast, Int.ofNat_lt, Int.ofNat_le, not_true_eq_false, not_false_eq_true, or_false, false_or, and_true, true_and, or_true, true_or, and_false, false_and, InK, Path.imp, List.length_replicate, List.length_set, List.length_append, List.length_cons, List.length_nil] at *); omega)) | (refine app_le rfl ?_; omega))); done)); (conv => whnf))
    | ((with_reducible refine And.intro (Side.out ?_) ?_); rotate_left; (conv => whnf))
    | (refine retF1 ?_ <;> (conv => whnf) <;> repeat' (first
 | exact trivial
 | (with_reducible rfl)
 | ((with_reducible refine And.intro ?_ ?_) <;> conv => whnf)
 | omega
 | rfl
 | (refine congrArg (SV.arr _) ?_)
 | (refine congrArg (Value.int _) ?_)
 | (refine congrArg Value.bool ?_)))
 | (refine retF2 ?_ <;> (conv => whnf) <;> repeat' (first
 | exact trivial
 | (with_reducible rfl)
 | ((with_reducible refine And.intro ?_ ?_) <;> conv => whnf)
 | omega
 | rfl
 | (refine congrArg (SV.arr _) ?_)
 | (refine congrArg (Value.int _) ?_)
 | (refine congrArg Value.bool ?_)))); all_goals (try unfold Side)
  refine W.loop (fun x : Nat × Int => ⟨[(0, .st false (.arr (.int .i64) fl)), (1, .st false (.arr (.int .i64) us)), (5, .lit (.int .i64 x.2)), (6, .lit (.int .i64 x.1))], []⟩)
    (fun x => x.1 ≤ us.length ∧ 0 ≤ x.2 ∧ x.2 ≤ 1000 * x.1 ∧ poss 0 fl us = poss x.2 (fl.drop x.1) (us.drop x.1)) (fun x => us.length - x.1) (0, 0) ?_ ?_
  · refine ⟨by simp, ?_⟩
    refine subF.ok ?_ <;> (conv => whnf) <;> repeat' (first
 | exact trivial
 | (with_reducible rfl)
 | ((with_reducible refine And.intro ?_ ?_) <;> conv => whnf)
 | omega
 | rfl
 | (refine congrArg (SV.arr _) ?_)
 | (refine congrArg (Value.int _) ?_)
 | (refine congrArg Value.bool ?_))
  · rintro ⟨i, l⟩ ⟨hi, h0, h1, hp⟩
    dsimp only at hi h0 h1 hp ⊢
    have hfi := hf i
    have hui := hu i
    by_cases hil : i < us.length
    · rw [drop_getD 0 hil, drop_getD 0 (by omega : i < fl.length)] at hp
      simp only [poss] at hp
      repeat' (first
 | refine W.seq ?_
 | refine W.block ?_
 | (refine W.region tys_ok [] ?_; conv => whnf)
 | (refine W.drawAll tys_ok [] mixed rfl ?_; conv => whnf)
 | (refine W.ret ?_; conv => whnf)
 | (refine W.skip ?_; conv => whnf)
 | (refine W.exit ?_; conv => whnf)

    | (refine W.cond rfl (fun hb => ?_) (fun hb => ?_) <;> (try simp only [minL, maxL, pickB, getD_int, getD_sl, getD_bool, len_int, len_sl, len_bool, decide_eq_true_eq, decide_eq_false_iff_not, Bool.and_eq_true, Bool.or_eq_true, Bool.and_eq_false_iff, Bool.or_eq_false_iff, Bool.not_eq_true', Bool.not_eq_false', Bool.true_eq_false, Bool.false_eq_true, Int.toNat_natCast, Int.ofNat_lt, Int.ofNat_le, not_true_eq_false, not_false_eq_true, or_false, false_or, and_true, true_and, or_true, true_or, and_false, false_and] at hb) <;> (try (first | (cases hb; done) | exact absurd hb (by decide) | (exfalso; omega))))
    | ((with_reducible refine And.intro ?_ ?_); (focus ((repeat' (first | (with_reducible rfl) | (with_reducible refine And.intro ?_ ?_) | omega | rfl | exact Or.inl rfl | exact Or.inr rfl | (focus ((try simp only [minL, maxL, pickB, getD_int, getD_sl, getD_bool, len_int, len_sl, len_bool, decide_eq_true_eq, decide_eq_false_iff_not, Bool.and_eq_true, Bool.or_eq_true, Bool.and_eq_false_iff, Bool.or_eq_false_iff, Bool.not_eq_true', Bool.not_eq_false', Bool.true_eq_false, Bool.false_eq_true, Int.toNat_natCast, Int.ofNat_lt, Int.ofNat_le, not_true_eq_false, not_false_eq_true, or_false, false_or, and_true, true_and, or_true, true_or, and_false, false_and, InK, Path.imp, List.length_replicate, List.length_set, List.length_append, List.length_cons, List.length_nil] at *); omega)) | (refine app_le rfl ?_; omega))); done)); (conv => whnf))
    | ((with_reducible refine And.intro (Side.out ?_) ?_); rotate_left; (conv => whnf))
    | (refine retF1 ?_ <;> (conv => whnf) <;> repeat' (first
 | exact trivial
 | (with_reducible rfl)
 | ((with_reducible refine And.intro ?_ ?_) <;> conv => whnf)
 | omega
 | rfl
 | (refine congrArg (SV.arr _) ?_)
 | (refine congrArg (Value.int _) ?_)
 | (refine congrArg Value.bool ?_)))
 | (refine retF2 ?_ <;> (conv => whnf) <;> repeat' (first
 | exact trivial
 | (with_reducible rfl)
 | ((with_reducible refine And.intro ?_ ?_) <;> conv => whnf)
 | omega
 | rfl
 | (refine congrArg (SV.arr _) ?_)
 | (refine congrArg (Value.int _) ?_)
 | (refine congrArg Value.bool ?_)))); all_goals (try unfold Side)
      all_goals try (repeat' (first | (with_reducible rfl) | (with_reducible refine And.intro ?_ ?_) | omega | rfl | exact Or.inl rfl | exact Or.inr rfl | (focus ((try simp only [minL, maxL, pickB, getD_int, getD_sl, getD_bool, len_int, len_sl, len_bool, decide_eq_true_eq, decide_eq_false_iff_not, Bool.and_eq_true, Bool.or_eq_true, Bool.and_eq_false_iff, Bool.or_eq_false_iff, Bool.not_eq_true', Bool.not_eq_false', Bool.true_eq_false, Bool.false_eq_true, Int.toNat_natCast, Int.ofNat_lt, Int.ofNat_le, not_true_eq_false, not_false_eq_true, or_false, false_or, and_true, true_and, or_true, true_or, and_false, false_and, InK, Path.imp, List.length_replicate, List.length_set, List.length_append, List.length_cons, List.length_nil] at *); omega)) | (refine app_le rfl ?_; omega)))
      · rename_i hb
        rw [hp]
        simp only [hb, decide_true, Bool.not_true, Bool.false_and]
      · rename_i hb
        refine ⟨(i + 1, l + fl.getD i 0 - us.getD i 0), ⟨?_, ?_⟩, ?_⟩
        · have : decide (l + fl.getD i 0 < us.getD i 0) = false := by simp only [decide_eq_false_iff_not]; exact hb
          rw [this] at hp
          refine ⟨?_, ?_, ?_, by simpa only [Bool.not_false, Bool.true_and] using hp⟩ <;> dsimp only <;> omega
        · dsimp only; omega
        · refine subF.ok ?_ <;> (conv => whnf) <;> repeat' (first
 | exact trivial
 | (with_reducible rfl)
 | ((with_reducible refine And.intro ?_ ?_) <;> conv => whnf)
 | omega
 | rfl
 | (refine congrArg (SV.arr _) ?_)
 | (refine congrArg (Value.int _) ?_)
 | (refine congrArg Value.bool ?_))
    · have hi' : i = us.length := by omega
      subst hi'
      rw [List.drop_length] at hp
      repeat' (first
 | refine W.seq ?_
 | refine W.block ?_
 | (refine W.region tys_ok [] ?_; conv => whnf)
 | (refine W.drawAll tys_ok [] mixed rfl ?_; conv => whnf)
 | (refine W.ret ?_; conv => whnf)
 | (refine W.skip ?_; conv => whnf)
 | (refine W.exit ?_; conv => whnf)

    | (refine W.cond rfl (fun hb => ?_) (fun hb => ?_) <;> (try simp only [minL, maxL, pickB, getD_int, getD_sl, getD_bool, len_int, len_sl, len_bool, decide_eq_true_eq, decide_eq_false_iff_not, Bool.and_eq_true, Bool.or_eq_true, Bool.and_eq_false_iff, Bool.or_eq_false_iff, Bool.not_eq_true', Bool.not_eq_false', Bool.true_eq_false, Bool.false_eq_true, Int.toNat_natCast, Int.ofNat_lt, Int.ofNat_le, not_true_eq_false, not_false_eq_true, or_false, false_or, and_true, true_and, or_true, true_or, and_false, false_and] at hb) <;> (try (first | (cases hb; done) | exact absurd hb (by decide) | (exfalso; omega))))
    | ((with_reducible refine And.intro ?_ ?_); (focus ((repeat' (first | (with_reducible rfl) | (with_reducible refine And.intro ?_ ?_) | omega | rfl | exact Or.inl rfl | exact Or.inr rfl | (focus ((try simp only [minL, maxL, pickB, getD_int, getD_sl, getD_bool, len_int, len_sl, len_bool, decide_eq_true_eq, decide_eq_false_iff_not, Bool.and_eq_true, Bool.or_eq_true, Bool.and_eq_false_iff, Bool.or_eq_false_iff, Bool.not_eq_true', Bool.not_eq_false', Bool.true_eq_false, Bool.false_eq_true, Int.toNat_natCast, Int.ofNat_lt, Int.ofNat_le, not_true_eq_false, not_false_eq_true, or_false, false_or, and_true, true_and, or_true, true_or, and_false, false_and, InK, Path.imp, List.length_replicate, List.length_set, List.length_append, List.length_cons, List.length_nil] at *); omega)) | (refine app_le rfl ?_; omega))); done)); (conv => whnf))
    | ((with_reducible refine And.intro (Side.out ?_) ?_); rotate_left; (conv => whnf))
    | (refine retF1 ?_ <;> (conv => whnf) <;> repeat' (first
 | exact trivial
 | (with_reducible rfl)
 | ((with_reducible refine And.intro ?_ ?_) <;> conv => whnf)
 | omega
 | rfl
 | (refine congrArg (SV.arr _) ?_)
 | (refine congrArg (Value.int _) ?_)
 | (refine congrArg Value.bool ?_)))
 | (refine retF2 ?_ <;> (conv => whnf) <;> repeat' (first
 | exact trivial
 | (with_reducible rfl)
 | ((with_reducible refine And.intro ?_ ?_) <;> conv => whnf)
 | omega
 | rfl
 | (refine congrArg (SV.arr _) ?_)
 | (refine congrArg (Value.int _) ?_)
 | (refine congrArg Value.bool ?_)))); all_goals (try unfold Side)
      all_goals try (repeat' (first | (with_reducible rfl) | (with_reducible refine And.intro ?_ ?_) | omega | rfl | exact Or.inl rfl | exact Or.inr rfl | (focus ((try simp only [minL, maxL, pickB, getD_int, getD_sl, getD_bool, len_int, len_sl, len_bool, decide_eq_true_eq, decide_eq_false_iff_not, Bool.and_eq_true, Bool.or_eq_true, Bool.and_eq_false_iff, Bool.or_eq_false_iff, Bool.not_eq_true', Bool.not_eq_false', Bool.true_eq_false, Bool.false_eq_true, Int.toNat_natCast, Int.ofNat_lt, Int.ofNat_le, not_true_eq_false, not_false_eq_true, or_false, false_or, and_true, true_and, or_true, true_or, and_false, false_and, InK, Path.imp, List.length_replicate, List.length_set, List.length_append, List.length_cons, List.length_nil] at *); omega)) | (refine app_le rfl ?_; omega)))
      rw [hp]
      cases List.drop us.length fl <;> rfl

theorem with_at (us : List Int) (i : Nat) (hi : i < us.length) (hn : us.length ≤ 1000) (hu : -1000000 ≤ us.getD i 0 ∧ us.getD i 0 ≤ 1000000) :
    FnAt Try.prog false 48 [.arr (.int .i64) us, .lit (.int .i64 i)] (.own 0) [(0, .row 3 (.int .i64) true (us.set i (us.getD i 0 + 1)))] := by
  refine FnAt.of_body tys_ok Try.func48 (by rfl) rfl Try.ntmps48 (by rw [Try.results48]) (by simp) ?_
  
  repeat' (first
 | refine W.seq ?_
 | refine W.block ?_
 | (refine W.resub (x := Code.region 3 _ _) (Γ' := ⟨[(0, .st false (.arr (.int .i64) us)), (1, .lit (.int .i64 i)), (5, .own 9000)], [(9000, .row 3 (.int .i64) false us)]⟩) ?_ (W.region tys_ok [] ?_); rotate_left; (conv => whnf))
 | (refine W.region tys_ok [] ?_; conv => whnf)
 | (refine W.drawAll tys_ok [] mixed rfl ?_; conv => whnf)
 | (refine W.ret ?_; conv => whnf)
 | (refine W.skip ?_; conv => whnf)
 | (refine W.exit ?_; conv => whnf)

    | (refine W.cond rfl (fun hb => ?_) (fun hb => ?_) <;> (try simp only [minL, maxL, pickB, getD_int, getD_sl, getD_bool, len_int, len_sl, len_bool, decide_eq_true_eq, decide_eq_false_iff_not, Bool.and_eq_true, Bool.or_eq_true, Bool.and_eq_false_iff, Bool.or_eq_false_iff, Bool.not_eq_true', Bool.not_eq_false', Bool.true_eq_false, Bool.false_eq_true, Int.toNat_natCast, Int.ofNat_lt, Int.ofNat_le, not_true_eq_false, not_false_eq_true, or_false, false_or, and_true, true_and, or_true, true_or, and_false, false_and] at hb) <;> (try (first | (cases hb; done) | exact absurd hb (by decide) | (exfalso; omega))))
    | ((with_reducible refine And.intro ?_ ?_); (focus ((repeat' (first | (with_reducible rfl) | (with_reducible refine And.intro ?_ ?_) | omega | rfl | exact Or.inl rfl | exact Or.inr rfl | (focus ((try simp only [minL, maxL, pickB, getD_int, getD_sl, getD_bool, len_int, len_sl, len_bool, decide_eq_true_eq, decide_eq_false_iff_not, Bool.and_eq_true, Bool.or_eq_true, Bool.and_eq_false_iff, Bool.or_eq_false_iff, Bool.not_eq_true', Bool.not_eq_false', Bool.true_eq_false, Bool.false_eq_true, Int.toNat_natCast, Int.ofNat_lt, Int.ofNat_le, not_true_eq_false, not_false_eq_true, or_false, false_or, and_true, true_and, or_true, true_or, and_false, false_and, InK, Path.imp, List.length_replicate, List.length_set, List.length_append, List.length_cons, List.length_nil] at *); omega)) | (refine app_le rfl ?_; omega))); done)); (conv => whnf))
    | ((with_reducible refine And.intro (Side.out ?_) ?_); rotate_left; (conv => whnf))
    | (refine retF1 ?_ <;> (conv => whnf) <;> repeat' (first
 | exact trivial
 | (with_reducible rfl)
 | ((with_reducible refine And.intro ?_ ?_) <;> conv => whnf)
 | omega
 | rfl
 | (refine congrArg (SV.arr _) ?_)
 | (refine congrArg (Value.int _) ?_)
 | (refine congrArg Value.bool ?_)))
 | (refine retF2 ?_ <;> (conv => whnf) <;> repeat' (first
 | exact trivial
 | (with_reducible rfl)
 | ((with_reducible refine And.intro ?_ ?_) <;> conv => whnf)
 | omega
 | rfl
 | (refine congrArg (SV.arr _) ?_)
 | (refine congrArg (Value.int _) ?_)
 | (refine congrArg Value.bool ?_)))); all_goals (try unfold Side)
  all_goals try (repeat' (first | (with_reducible rfl) | (with_reducible refine And.intro ?_ ?_) | omega | rfl | exact Or.inl rfl | exact Or.inr rfl | (focus ((try simp only [minL, maxL, pickB, getD_int, getD_sl, getD_bool, len_int, len_sl, len_bool, decide_eq_true_eq, decide_eq_false_iff_not, Bool.and_eq_true, Bool.or_eq_true, Bool.and_eq_false_iff, Bool.or_eq_false_iff, Bool.not_eq_true', Bool.not_eq_false', Bool.true_eq_false, Bool.false_eq_true, Int.toNat_natCast, Int.ofNat_lt, Int.ofNat_le, not_true_eq_false, not_false_eq_true, or_false, false_or, and_true, true_and, or_true, true_or, and_false, false_and, InK, Path.imp, List.length_replicate, List.length_set, List.length_append, List.length_cons, List.length_nil] at *); omega)) | (refine app_le rfl ?_; omega)))
  refine subF.ok ?_ <;> (conv => whnf) <;> repeat' (first
 | exact trivial
 | (with_reducible rfl)
 | ((with_reducible refine And.intro ?_ ?_) <;> conv => whnf)
 | omega
 | rfl
 | (refine congrArg (SV.arr _) ?_)
 | (refine congrArg (Value.int _) ?_)
 | (refine congrArg Value.bool ?_))
  all_goals first | (simp; done) | (simp; exact List.take_length)

/-- The first index at which p holds. -/
def fidx (p : Int → Bool) : Nat → List Int → Int
  | _, [] => -1
  | i, x :: r => cond (p x) (i : Int) (fidx p (i + 1) r)

theorem index_at (us : List Int) (v : Int) (hn : us.length ≤ 1000) :
    FnAt Try.prog false 47 [.arr (.int .i64) us, .lit (.int .i64 v)] (.lit (.int .i64 (fidx (fun x => decide (v = x)) 0 us))) [] := by
  refine FnAt.of_body tys_ok Try.func47 (by rfl) rfl Try.ntmps47 (by rw [Try.results47]) (by simp) ?_
  
  repeat' (first
 | refine W.seq ?_
 | refine W.block ?_
 | (refine W.region tys_ok [] ?_; conv => whnf)
 | (refine W.drawAll tys_ok [] mixed rfl ?_; conv => whnf)
 | (refine W.ret ?_; conv => whnf)
 | (refine W.skip ?_; conv => whnf)
 | (refine W.exit ?_; conv => whnf)

    | (refine W.cond rfl (fun hb => ?_) (fun hb => ?_) <;> (try simp only [minL, maxL, pickB, getD_int, getD_sl, getD_bool, len_int, len_sl, len_bool, decide_eq_true_eq, decide_eq_false_iff_not, Bool.and_eq_true, Bool.or_eq_true, Bool.and_eq_false_iff, Bool.or_eq_false_iff, Bool.not_eq_true', Bool.not_eq_false', Bool.true_eq_false, Bool.false_eq_true, Int.toNat_natCast, Int.ofNat_lt, Int.ofNat_le, not_true_eq_false, not_false_eq_true, or_false, false_or, and_true, true_and, or_true, true_or, and_false, false_and] at hb) <;> (try (first | (cases hb; done) | exact absurd hb (by decide) | (exfalso; omega))))
    | ((with_reducible refine And.intro ?_ ?_); (focus ((repeat' (first | (with_reducible rfl) | (with_reducible refine And.intro ?_ ?_) | omega | rfl | exact Or.inl rfl | exact Or.inr rfl | (focus ((try simp only [minL, maxL, pickB, getD_int, getD_sl, getD_bool, len_int, len_sl, len_bool, decide_eq_true_eq, decide_eq_false_iff_not, Bool.and_eq_true, Bool.or_eq_true, Bool.and_eq_false_iff, Bool.or_eq_false_iff, Bool.not_eq_true', Bool.not_eq_false', Bool.true_eq_false, Bool.false_eq_true, Int.toNat_natCast, Int.ofNat_lt, Int.ofNat_le, not_true_eq_false, not_false_eq_true, or_false, false_or, and_true, true_and, or_true, true_or, and_false, false_and, InK, Path.imp, List.length_replicate, List.length_set, List.length_append, List.length_cons, List.length_nil] at *); omega)) | (refine app_le rfl ?_; omega))); done)); (conv => whnf))
    | ((with_reducible refine And.intro (Side.out ?_) ?_); rotate_left; (conv => whnf))
    | (refine retF1 ?_ <;> (conv => whnf) <;> repeat' (first
 | exact trivial
 | (with_reducible rfl)
 | ((with_reducible refine And.intro ?_ ?_) <;> conv => whnf)
 | omega
 | rfl
 | (refine congrArg (SV.arr _) ?_)
 | (refine congrArg (Value.int _) ?_)
 | (refine congrArg Value.bool ?_)))
 | (refine retF2 ?_ <;> (conv => whnf) <;> repeat' (first
 | exact trivial
 | (with_reducible rfl)
 | ((with_reducible refine And.intro ?_ ?_) <;> conv => whnf)
 | omega
 | rfl
 | (refine congrArg (SV.arr _) ?_)
 | (refine congrArg (Value.int _) ?_)
 | (refine congrArg Value.bool ?_)))); all_goals (try unfold Side)
  refine W.loop (fun i : Nat => ⟨[(0, .st false (.arr (.int .i64) us)), (1, .lit (.int .i64 v)), (7, .lit (.int .i64 us.length)), (8, .lit (.int .i64 i))], []⟩)
    (fun i => i ≤ us.length ∧ fidx (fun x => decide (v = x)) 0 us = fidx (fun x => decide (v = x)) i (us.drop i)) (fun i => us.length - i) 0 ?_ ?_
  · refine ⟨by simp, ?_⟩
    refine subF.ok ?_ <;> (conv => whnf) <;> repeat' (first
 | exact trivial
 | (with_reducible rfl)
 | ((with_reducible refine And.intro ?_ ?_) <;> conv => whnf)
 | omega
 | rfl
 | (refine congrArg (SV.arr _) ?_)
 | (refine congrArg (Value.int _) ?_)
 | (refine congrArg Value.bool ?_))
  · rintro i ⟨hi, hp⟩
    dsimp only at hi hp ⊢
    by_cases hil : i < us.length
    · rw [drop_getD 0 hil] at hp
      simp only [fidx] at hp
      repeat' (first
 | refine W.seq ?_
 | refine W.block ?_
 | (refine W.region tys_ok [] ?_; conv => whnf)
 | (refine W.drawAll tys_ok [] mixed rfl ?_; conv => whnf)
 | (refine W.ret ?_; conv => whnf)
 | (refine W.skip ?_; conv => whnf)
 | (refine W.exit ?_; conv => whnf)

    | (refine W.cond rfl (fun hb => ?_) (fun hb => ?_) <;> (try simp only [minL, maxL, pickB, getD_int, getD_sl, getD_bool, len_int, len_sl, len_bool, decide_eq_true_eq, decide_eq_false_iff_not, Bool.and_eq_true, Bool.or_eq_true, Bool.and_eq_false_iff, Bool.or_eq_false_iff, Bool.not_eq_true', Bool.not_eq_false', Bool.true_eq_false, Bool.false_eq_true, Int.toNat_natCast, Int.ofNat_lt, Int.ofNat_le, not_true_eq_false, not_false_eq_true, or_false, false_or, and_true, true_and, or_true, true_or, and_false, false_and] at hb) <;> (try (first | (cases hb; done) | exact absurd hb (by decide) | (exfalso; omega))))
    | ((with_reducible refine And.intro ?_ ?_); (focus ((repeat' (first | (with_reducible rfl) | (with_reducible refine And.intro ?_ ?_) | omega | rfl | exact Or.inl rfl | exact Or.inr rfl | (focus ((try simp only [minL, maxL, pickB, getD_int, getD_sl, getD_bool, len_int, len_sl, len_bool, decide_eq_true_eq, decide_eq_false_iff_not, Bool.and_eq_true, Bool.or_eq_true, Bool.and_eq_false_iff, Bool.or_eq_false_iff, Bool.not_eq_true', Bool.not_eq_false', Bool.true_eq_false, Bool.false_eq_true, Int.toNat_natCast, Int.ofNat_lt, Int.ofNat_le, not_true_eq_false, not_false_eq_true, or_false, false_or, and_true, true_and, or_true, true_or, and_false, false_and, InK, Path.imp, List.length_replicate, List.length_set, List.length_append, List.length_cons, List.length_nil] at *); omega)) | (refine app_le rfl ?_; omega))); done)); (conv => whnf))
    | ((with_reducible refine And.intro (Side.out ?_) ?_); rotate_left; (conv => whnf))
    | (refine retF1 ?_ <;> (conv => whnf) <;> repeat' (first
 | exact trivial
 | (with_reducible rfl)
 | ((with_reducible refine And.intro ?_ ?_) <;> conv => whnf)
 | omega
 | rfl
 | (refine congrArg (SV.arr _) ?_)
 | (refine congrArg (Value.int _) ?_)
 | (refine congrArg Value.bool ?_)))
 | (refine retF2 ?_ <;> (conv => whnf) <;> repeat' (first
 | exact trivial
 | (with_reducible rfl)
 | ((with_reducible refine And.intro ?_ ?_) <;> conv => whnf)
 | omega
 | rfl
 | (refine congrArg (SV.arr _) ?_)
 | (refine congrArg (Value.int _) ?_)
 | (refine congrArg Value.bool ?_)))); all_goals (try unfold Side)
      all_goals try (repeat' (first | (with_reducible rfl) | (with_reducible refine And.intro ?_ ?_) | omega | rfl | exact Or.inl rfl | exact Or.inr rfl | (focus ((try simp only [minL, maxL, pickB, getD_int, getD_sl, getD_bool, len_int, len_sl, len_bool, decide_eq_true_eq, decide_eq_false_iff_not, Bool.and_eq_true, Bool.or_eq_true, Bool.and_eq_false_iff, Bool.or_eq_false_iff, Bool.not_eq_true', Bool.not_eq_false', Bool.true_eq_false, Bool.false_eq_true, Int.toNat_natCast, Int.ofNat_lt, Int.ofNat_le, not_true_eq_false, not_false_eq_true, or_false, false_or, and_true, true_and, or_true, true_or, and_false, false_and, InK, Path.imp, List.length_replicate, List.length_set, List.length_append, List.length_cons, List.length_nil] at *); omega)) | (refine app_le rfl ?_; omega)))
      · rename_i hb
        rw [hp]
        simp only [hb, decide_true, cond_true]
      · rename_i hb
        refine ⟨i + 1, ⟨?_, ?_⟩, ?_⟩
        · have : decide (v = us.getD i 0) = false := by simp only [decide_eq_false_iff_not]; exact hb
          rw [this] at hp
          exact ⟨by omega, hp⟩
        · omega
        · refine subF.ok ?_ <;> (conv => whnf) <;> repeat' (first
 | exact trivial
 | (with_reducible rfl)
 | ((with_reducible refine And.intro ?_ ?_) <;> conv => whnf)
 | omega
 | rfl
 | (refine congrArg (SV.arr _) ?_)
 | (refine congrArg (Value.int _) ?_)
 | (refine congrArg Value.bool ?_))
    · have hi' : i = us.length := by omega
      subst hi'
      rw [List.drop_length] at hp
      repeat' (first
 | refine W.seq ?_
 | refine W.block ?_
 | (refine W.region tys_ok [] ?_; conv => whnf)
 | (refine W.drawAll tys_ok [] mixed rfl ?_; conv => whnf)
 | (refine W.ret ?_; conv => whnf)
 | (refine W.skip ?_; conv => whnf)
 | (refine W.exit ?_; conv => whnf)

    | (refine W.cond rfl (fun hb => ?_) (fun hb => ?_) <;> (try simp only [minL, maxL, pickB, getD_int, getD_sl, getD_bool, len_int, len_sl, len_bool, decide_eq_true_eq, decide_eq_false_iff_not, Bool.and_eq_true, Bool.or_eq_true, Bool.and_eq_false_iff, Bool.or_eq_false_iff, Bool.not_eq_true', Bool.not_eq_false', Bool.true_eq_false, Bool.false_eq_true, Int.toNat_natCast, Int.ofNat_lt, Int.ofNat_le, not_true_eq_false, not_false_eq_true, or_false, false_or, and_true, true_and, or_true, true_or, and_false, false_and] at hb) <;> (try (first | (cases hb; done) | exact absurd hb (by decide) | (exfalso; omega))))
    | ((with_reducible refine And.intro ?_ ?_); (focus ((repeat' (first | (with_reducible rfl) | (with_reducible refine And.intro ?_ ?_) | omega | rfl | exact Or.inl rfl | exact Or.inr rfl | (focus ((try simp only [minL, maxL, pickB, getD_int, getD_sl, getD_bool, len_int, len_sl, len_bool, decide_eq_true_eq, decide_eq_false_iff_not, Bool.and_eq_true, Bool.or_eq_true, Bool.and_eq_false_iff, Bool.or_eq_false_iff, Bool.not_eq_true', Bool.not_eq_false', Bool.true_eq_false, Bool.false_eq_true, Int.toNat_natCast, Int.ofNat_lt, Int.ofNat_le, not_true_eq_false, not_false_eq_true, or_false, false_or, and_true, true_and, or_true, true_or, and_false, false_and, InK, Path.imp, List.length_replicate, List.length_set, List.length_append, List.length_cons, List.length_nil] at *); omega)) | (refine app_le rfl ?_; omega))); done)); (conv => whnf))
    | ((with_reducible refine And.intro (Side.out ?_) ?_); rotate_left; (conv => whnf))
    | (refine retF1 ?_ <;> (conv => whnf) <;> repeat' (first
 | exact trivial
 | (with_reducible rfl)
 | ((with_reducible refine And.intro ?_ ?_) <;> conv => whnf)
 | omega
 | rfl
 | (refine congrArg (SV.arr _) ?_)
 | (refine congrArg (Value.int _) ?_)
 | (refine congrArg Value.bool ?_)))
 | (refine retF2 ?_ <;> (conv => whnf) <;> repeat' (first
 | exact trivial
 | (with_reducible rfl)
 | ((with_reducible refine And.intro ?_ ?_) <;> conv => whnf)
 | omega
 | rfl
 | (refine congrArg (SV.arr _) ?_)
 | (refine congrArg (Value.int _) ?_)
 | (refine congrArg Value.bool ?_)))); all_goals (try unfold Side)
      all_goals try (repeat' (first | (with_reducible rfl) | (with_reducible refine And.intro ?_ ?_) | omega | rfl | exact Or.inl rfl | exact Or.inr rfl | (focus ((try simp only [minL, maxL, pickB, getD_int, getD_sl, getD_bool, len_int, len_sl, len_bool, decide_eq_true_eq, decide_eq_false_iff_not, Bool.and_eq_true, Bool.or_eq_true, Bool.and_eq_false_iff, Bool.or_eq_false_iff, Bool.not_eq_true', Bool.not_eq_false', Bool.true_eq_false, Bool.false_eq_true, Int.toNat_natCast, Int.ofNat_lt, Int.ofNat_le, not_true_eq_false, not_false_eq_true, or_false, false_or, and_true, true_and, or_true, true_or, and_false, false_and, InK, Path.imp, List.length_replicate, List.length_set, List.length_append, List.length_cons, List.length_nil] at *); omega)) | (refine app_le rfl ?_; omega)))
      rw [hp]
      rfl
theorem contains_at (us : List Int) (v : Int) (hn : us.length ≤ 1000) :
    FnAt Try.prog false 46 [.arr (.int .i64) us, .lit (.int .i64 v)] (.lit (.bool (decide (0 ≤ fidx (fun x => decide (v = x)) 0 us)))) [] := by
  refine FnAt.of_body tys_ok Try.func46 (by rfl) rfl Try.ntmps46 (by rw [Try.results46]) (by simp) ?_
  
  repeat' (first
 | refine W.seq ?_
 | refine W.block ?_
 | (refine W.region tys_ok [] ?_; conv => whnf)
 | (refine W.drawAll tys_ok [] mixed rfl ?_; conv => whnf)
 | (refine W.ret ?_; conv => whnf)
 | (refine W.skip ?_; conv => whnf)
 | (refine W.exit ?_; conv => whnf)
 | (refine call_at (al := false) (index_at _ _ hn) rfl rfl rfl rfl ?_; conv => whnf)

    | (refine W.cond rfl (fun hb => ?_) (fun hb => ?_) <;> (try simp only [minL, maxL, pickB, getD_int, getD_sl, getD_bool, len_int, len_sl, len_bool, decide_eq_true_eq, decide_eq_false_iff_not, Bool.and_eq_true, Bool.or_eq_true, Bool.and_eq_false_iff, Bool.or_eq_false_iff, Bool.not_eq_true', Bool.not_eq_false', Bool.true_eq_false, Bool.false_eq_true, Int.toNat_natCast, Int.ofNat_lt, Int.ofNat_le, not_true_eq_false, not_false_eq_true, or_false, false_or, and_true, true_and, or_true, true_or, and_false, false_and] at hb) <;> (try (first | (cases hb; done) | exact absurd hb (by decide) | (exfalso; omega))))
    | ((with_reducible refine And.intro ?_ ?_); (focus ((repeat' (first | (with_reducible rfl) | (with_reducible refine And.intro ?_ ?_) | omega | rfl | exact Or.inl rfl | exact Or.inr rfl | (focus ((try simp only [minL, maxL, pickB, getD_int, getD_sl, getD_bool, len_int, len_sl, len_bool, decide_eq_true_eq, decide_eq_false_iff_not, Bool.and_eq_true, Bool.or_eq_true, Bool.and_eq_false_iff, Bool.or_eq_false_iff, Bool.not_eq_true', Bool.not_eq_false', Bool.true_eq_false, Bool.false_eq_true, Int.toNat_natCast, Int.ofNat_lt, Int.ofNat_le, not_true_eq_false, not_false_eq_true, or_false, false_or, and_true, true_and, or_true, true_or, and_false, false_and, InK, Path.imp, List.length_replicate, List.length_set, List.length_append, List.length_cons, List.length_nil] at *); omega)) | (refine app_le rfl ?_; omega))); done)); (conv => whnf))
    | ((with_reducible refine And.intro (Side.out ?_) ?_); rotate_left; (conv => whnf))
    | (refine retF1 ?_ <;> (conv => whnf) <;> repeat' (first
 | exact trivial
 | (with_reducible rfl)
 | ((with_reducible refine And.intro ?_ ?_) <;> conv => whnf)
 | omega
 | rfl
 | (refine congrArg (SV.arr _) ?_)
 | (refine congrArg (Value.int _) ?_)
 | (refine congrArg Value.bool ?_)))
 | (refine retF2 ?_ <;> (conv => whnf) <;> repeat' (first
 | exact trivial
 | (with_reducible rfl)
 | ((with_reducible refine And.intro ?_ ?_) <;> conv => whnf)
 | omega
 | rfl
 | (refine congrArg (SV.arr _) ?_)
 | (refine congrArg (Value.int _) ?_)
 | (refine congrArg Value.bool ?_)))); all_goals (try unfold Side)
end Go.Proofs.Ytohfemfgnohhdaa
/- Leaf functions of the water layer: what each returns. No condition. -/
namespace Go.Proofs.Ytohfemfgnohhdaa
open Go Go.Vc
set_option linter.unusedVariables false
set_option linter.unusedSimpArgs false

theorem fidx_any {p : Int → Bool} : ∀ {us : List Int} {i : Nat}, decide (0 ≤ fidx p i us) = us.any p
  | [], i => by simp [fidx]
  | x :: r, i => by
    have := fidx_any (p := p) (us := r) (i := i + 1)
    cases hx : p x <;> simp [fidx, hx] at this ⊢
    exact this

theorem within1_at (x m : Int) : FnAt Try.prog false 57 [.lit (.int .i64 x), .sadr (.lit (.int .i64 m))] (.lit (.bool (decide (x < 0) || decide (m < x)))) [] := by
  refine FnAt.of_body tys_ok Try.func57 (by rfl) rfl Try.ntmps57 (by rw [Try.results57]) (by simp) ?_
  
  repeat' (first
 | refine W.seq ?_
 | refine W.block ?_
 | (refine W.region tys_ok [] ?_; conv => whnf)
 | (refine W.drawAll tys_ok [] mixed rfl ?_; conv => whnf)
 | (refine W.ret ?_; conv => whnf)
 | (refine W.skip ?_; conv => whnf)
 | (refine W.exit ?_; conv => whnf)

    | (refine W.cond rfl (fun hb => ?_) (fun hb => ?_) <;> (try simp only [minL, maxL, pickB, getD_int, getD_sl, getD_bool, len_int, len_sl, len_bool, decide_eq_true_eq, decide_eq_false_iff_not, Bool.and_eq_true, Bool.or_eq_true, Bool.and_eq_false_iff, Bool.or_eq_false_iff, Bool.not_eq_true', Bool.not_eq_false', Bool.true_eq_false, Bool.false_eq_true, Int.toNat_natCast, Int.ofNat_lt, Int.ofNat_le, not_true_eq_false, not_false_eq_true, or_false, false_or, and_true, true_and, or_true, true_or, and_false, false_and] at hb) <;> (try (first | (cases hb; done) | exact absurd hb (by decide) | (exfalso; omega))))
    | ((with_reducible refine And.intro ?_ ?_); (focus ((repeat' (first | (with_reducible rfl) | (with_reducible refine And.intro ?_ ?_) | omega | rfl | exact Or.inl rfl | exact Or.inr rfl | (focus ((try simp only [minL, maxL, pickB, getD_int, getD_sl, getD_bool, len_int, len_sl, len_bool, decide_eq_true_eq, decide_eq_false_iff_not, Bool.and_eq_true, Bool.or_eq_true, Bool.and_eq_false_iff, Bool.or_eq_false_iff, Bool.not_eq_true', Bool.not_eq_false', Bool.true_eq_false, Bool.false_eq_true, Int.toNat_natCast, Int.ofNat_lt, Int.ofNat_le, not_true_eq_false, not_false_eq_true, or_false, false_or, and_true, true_and, or_true, true_or, and_false, false_and, InK, Path.imp, List.length_replicate, List.length_set, List.length_append, List.length_cons, List.length_nil] at *); omega)) | (refine app_le rfl ?_; omega))); done)); (conv => whnf))
    | ((with_reducible refine And.intro (Side.out ?_) ?_); rotate_left; (conv => whnf))
    | (refine retF1 ?_ <;> (conv => whnf) <;> repeat' (first
 | exact trivial
 | (with_reducible rfl)
 | ((with_reducible refine And.intro ?_ ?_) <;> conv => whnf)
 | omega
 | rfl
 | (refine congrArg (SV.arr _) ?_)
 | (refine congrArg (Value.int _) ?_)
 | (refine congrArg Value.bool ?_)))
 | (refine retF2 ?_ <;> (conv => whnf) <;> repeat' (first
 | exact trivial
 | (with_reducible rfl)
 | ((with_reducible refine And.intro ?_ ?_) <;> conv => whnf)
 | omega
 | rfl
 | (refine congrArg (SV.arr _) ?_)
 | (refine congrArg (Value.int _) ?_)
 | (refine congrArg Value.bool ?_)))); all_goals (try unfold Side)
theorem worth1_at (x : Int) : FnAt Try.prog false 51 [.lit (.int .i64 x)] (.lit (.bool (decide (x < 0)))) [] := by
  refine FnAt.of_body tys_ok Try.func51 (by rfl) rfl Try.ntmps51 (by rw [Try.results51]) (by simp) ?_
  
  repeat' (first
 | refine W.seq ?_
 | refine W.block ?_
 | (refine W.region tys_ok [] ?_; conv => whnf)
 | (refine W.drawAll tys_ok [] mixed rfl ?_; conv => whnf)
 | (refine W.ret ?_; conv => whnf)
 | (refine W.skip ?_; conv => whnf)
 | (refine W.exit ?_; conv => whnf)

    | (refine W.cond rfl (fun hb => ?_) (fun hb => ?_) <;> (try simp only [minL, maxL, pickB, getD_int, getD_sl, getD_bool, len_int, len_sl, len_bool, decide_eq_true_eq, decide_eq_false_iff_not, Bool.and_eq_true, Bool.or_eq_true, Bool.and_eq_false_iff, Bool.or_eq_false_iff, Bool.not_eq_true', Bool.not_eq_false', Bool.true_eq_false, Bool.false_eq_true, Int.toNat_natCast, Int.ofNat_lt, Int.ofNat_le, not_true_eq_false, not_false_eq_true, or_false, false_or, and_true, true_and, or_true, true_or, and_false, false_and] at hb) <;> (try (first | (cases hb; done) | exact absurd hb (by decide) | (exfalso; omega))))
    | ((with_reducible refine And.intro ?_ ?_); (focus ((repeat' (first | (with_reducible rfl) | (with_reducible refine And.intro ?_ ?_) | omega | rfl | exact Or.inl rfl | exact Or.inr rfl | (focus ((try simp only [minL, maxL, pickB, getD_int, getD_sl, getD_bool, len_int, len_sl, len_bool, decide_eq_true_eq, decide_eq_false_iff_not, Bool.and_eq_true, Bool.or_eq_true, Bool.and_eq_false_iff, Bool.or_eq_false_iff, Bool.not_eq_true', Bool.not_eq_false', Bool.true_eq_false, Bool.false_eq_true, Int.toNat_natCast, Int.ofNat_lt, Int.ofNat_le, not_true_eq_false, not_false_eq_true, or_false, false_or, and_true, true_and, or_true, true_or, and_false, false_and, InK, Path.imp, List.length_replicate, List.length_set, List.length_append, List.length_cons, List.length_nil] at *); omega)) | (refine app_le rfl ?_; omega))); done)); (conv => whnf))
    | ((with_reducible refine And.intro (Side.out ?_) ?_); rotate_left; (conv => whnf))
    | (refine retF1 ?_ <;> (conv => whnf) <;> repeat' (first
 | exact trivial
 | (with_reducible rfl)
 | ((with_reducible refine And.intro ?_ ?_) <;> conv => whnf)
 | omega
 | rfl
 | (refine congrArg (SV.arr _) ?_)
 | (refine congrArg (Value.int _) ?_)
 | (refine congrArg Value.bool ?_)))
 | (refine retF2 ?_ <;> (conv => whnf) <;> repeat' (first
 | exact trivial
 | (with_reducible rfl)
 | ((with_reducible refine And.intro ?_ ?_) <;> conv => whnf)
 | omega
 | rfl
 | (refine congrArg (SV.arr _) ?_)
 | (refine congrArg (Value.int _) ?_)
 | (refine congrArg Value.bool ?_)))); all_goals (try unfold Side)
theorem indexFunc_at (us : List Int) (m : Int) (hn : us.length ≤ 1000) :
    FnAt Try.prog false 58 [.arr (.int .i64) us, .fn 57 [.sadr (.lit (.int .i64 m))]] (.lit (.int .i64 (fidx (fun x => decide (x < 0) || decide (m < x)) 0 us))) [] := by
  refine FnAt.of_body tys_ok Try.func58 (by rfl) rfl Try.ntmps58 (by rw [Try.results58]) (by simp) ?_
  
  repeat' (first
 | refine W.seq ?_
 | refine W.block ?_
 | (refine W.region tys_ok [] ?_; conv => whnf)
 | (refine W.drawAll tys_ok [] mixed rfl ?_; conv => whnf)
 | (refine W.ret ?_; conv => whnf)
 | (refine W.skip ?_; conv => whnf)
 | (refine W.exit ?_; conv => whnf)

    | (refine W.cond rfl (fun hb => ?_) (fun hb => ?_) <;> (try simp only [minL, maxL, pickB, getD_int, getD_sl, getD_bool, len_int, len_sl, len_bool, decide_eq_true_eq, decide_eq_false_iff_not, Bool.and_eq_true, Bool.or_eq_true, Bool.and_eq_false_iff, Bool.or_eq_false_iff, Bool.not_eq_true', Bool.not_eq_false', Bool.true_eq_false, Bool.false_eq_true, Int.toNat_natCast, Int.ofNat_lt, Int.ofNat_le, not_true_eq_false, not_false_eq_true, or_false, false_or, and_true, true_and, or_true, true_or, and_false, false_and] at hb) <;> (try (first | (cases hb; done) | exact absurd hb (by decide) | (exfalso; omega))))
    | ((with_reducible refine And.intro ?_ ?_); (focus ((repeat' (first | (with_reducible rfl) | (with_reducible refine And.intro ?_ ?_) | omega | rfl | exact Or.inl rfl | exact Or.inr rfl | (focus ((try simp only [minL, maxL, pickB, getD_int, getD_sl, getD_bool, len_int, len_sl, len_bool, decide_eq_true_eq, decide_eq_false_iff_not, Bool.and_eq_true, Bool.or_eq_true, Bool.and_eq_false_iff, Bool.or_eq_false_iff, Bool.not_eq_true', Bool.not_eq_false', Bool.true_eq_false, Bool.false_eq_true, Int.toNat_natCast, Int.ofNat_lt, Int.ofNat_le, not_true_eq_false, not_false_eq_true, or_false, false_or, and_true, true_and, or_true, true_or, and_false, false_and, InK, Path.imp, List.length_replicate, List.length_set, List.length_append, List.length_cons, List.length_nil] at *); omega)) | (refine app_le rfl ?_; omega))); done)); (conv => whnf))
    | ((with_reducible refine And.intro (Side.out ?_) ?_); rotate_left; (conv => whnf))
    | (refine retF1 ?_ <;> (conv => whnf) <;> repeat' (first
 | exact trivial
 | (with_reducible rfl)
 | ((with_reducible refine And.intro ?_ ?_) <;> conv => whnf)
 | omega
 | rfl
 | (refine congrArg (SV.arr _) ?_)
 | (refine congrArg (Value.int _) ?_)
 | (refine congrArg Value.bool ?_)))
 | (refine retF2 ?_ <;> (conv => whnf) <;> repeat' (first
 | exact trivial
 | (with_reducible rfl)
 | ((with_reducible refine And.intro ?_ ?_) <;> conv => whnf)
 | omega
 | rfl
 | (refine congrArg (SV.arr _) ?_)
 | (refine congrArg (Value.int _) ?_)
 | (refine congrArg Value.bool ?_)))); all_goals (try unfold Side)
  refine W.loop (fun i : Nat => ⟨[(0, .st false (.arr (.int .i64) us)), (1, .fn 57 [.st false (.sadr (.lit (.int .i64 m)))]), (7, .lit (.int .i64 us.length)), (8, .lit (.int .i64 i))], []⟩)
    (fun i => i ≤ us.length ∧ fidx (fun x => decide (x < 0) || decide (m < x)) 0 us = fidx (fun x => decide (x < 0) || decide (m < x)) i (us.drop i)) (fun i => us.length - i) 0 ?_ ?_
  · refine ⟨by simp, ?_⟩
    refine subF.ok ?_ <;> (conv => whnf) <;> repeat' (first
 | exact trivial
 | (with_reducible rfl)
 | ((with_reducible refine And.intro ?_ ?_) <;> conv => whnf)
 | omega
 | rfl
 | (refine congrArg (SV.arr _) ?_)
 | (refine congrArg (Value.int _) ?_)
 | (refine congrArg Value.bool ?_))
  · rintro i ⟨hi, hp⟩
    dsimp only at hi hp ⊢
    by_cases hil : i < us.length
    · rw [drop_getD 0 hil] at hp
      simp only [fidx] at hp
      repeat' (first
 | refine W.seq ?_
 | refine W.block ?_
 | (refine W.region tys_ok [] ?_; conv => whnf)
 | (refine W.drawAll tys_ok [] mixed rfl ?_; conv => whnf)
 | (refine W.ret ?_; conv => whnf)
 | (refine W.skip ?_; conv => whnf)
 | (refine W.exit ?_; conv => whnf)
 | (refine call_at (al := false) (within1_at _ _) rfl rfl rfl rfl ?_; conv => whnf)

    | (refine W.cond rfl (fun hb => ?_) (fun hb => ?_) <;> (try simp only [minL, maxL, pickB, getD_int, getD_sl, getD_bool, len_int, len_sl, len_bool, decide_eq_true_eq, decide_eq_false_iff_not, Bool.and_eq_true, Bool.or_eq_true, Bool.and_eq_false_iff, Bool.or_eq_false_iff, Bool.not_eq_true', Bool.not_eq_false', Bool.true_eq_false, Bool.false_eq_true, Int.toNat_natCast, Int.ofNat_lt, Int.ofNat_le, not_true_eq_false, not_false_eq_true, or_false, false_or, and_true, true_and, or_true, true_or, and_false, false_and] at hb) <;> (try (first | (cases hb; done) | exact absurd hb (by decide) | (exfalso; omega))))
    | ((with_reducible refine And.intro ?_ ?_); (focus ((repeat' (first | (with_reducible rfl) | (with_reducible refine And.intro ?_ ?_) | omega | rfl | exact Or.inl rfl | exact Or.inr rfl | (focus ((try simp only [minL, maxL, pickB, getD_int, getD_sl, getD_bool, len_int, len_sl, len_bool, decide_eq_true_eq, decide_eq_false_iff_not, Bool.and_eq_true, Bool.or_eq_true, Bool.and_eq_false_iff, Bool.or_eq_false_iff, Bool.not_eq_true', Bool.not_eq_false', Bool.true_eq_false, Bool.false_eq_true, Int.toNat_natCast, Int.ofNat_lt, Int.ofNat_le, not_true_eq_false, not_false_eq_true, or_false, false_or, and_true, true_and, or_true, true_or, and_false, false_and, InK, Path.imp, List.length_replicate, List.length_set, List.length_append, List.length_cons, List.length_nil] at *); omega)) | (refine app_le rfl ?_; omega))); done)); (conv => whnf))
    | ((with_reducible refine And.intro (Side.out ?_) ?_); rotate_left; (conv => whnf))
    | (refine retF1 ?_ <;> (conv => whnf) <;> repeat' (first
 | exact trivial
 | (with_reducible rfl)
 | ((with_reducible refine And.intro ?_ ?_) <;> conv => whnf)
 | omega
 | rfl
 | (refine congrArg (SV.arr _) ?_)
 | (refine congrArg (Value.int _) ?_)
 | (refine congrArg Value.bool ?_)))
 | (refine retF2 ?_ <;> (conv => whnf) <;> repeat' (first
 | exact trivial
 | (with_reducible rfl)
 | ((with_reducible refine And.intro ?_ ?_) <;> conv => whnf)
 | omega
 | rfl
 | (refine congrArg (SV.arr _) ?_)
 | (refine congrArg (Value.int _) ?_)
 | (refine congrArg Value.bool ?_)))); all_goals (try unfold Side)
      all_goals try (repeat' (first | (with_reducible rfl) | (with_reducible refine And.intro ?_ ?_) | omega | rfl | exact Or.inl rfl | exact Or.inr rfl | (focus ((try simp only [minL, maxL, pickB, getD_int, getD_sl, getD_bool, len_int, len_sl, len_bool, decide_eq_true_eq, decide_eq_false_iff_not, Bool.and_eq_true, Bool.or_eq_true, Bool.and_eq_false_iff, Bool.or_eq_false_iff, Bool.not_eq_true', Bool.not_eq_false', Bool.true_eq_false, Bool.false_eq_true, Int.toNat_natCast, Int.ofNat_lt, Int.ofNat_le, not_true_eq_false, not_false_eq_true, or_false, false_or, and_true, true_and, or_true, true_or, and_false, false_and, InK, Path.imp, List.length_replicate, List.length_set, List.length_append, List.length_cons, List.length_nil] at *); omega)) | (refine app_le rfl ?_; omega)))
      · rename_i hb
        have : (decide (us.getD i 0 < 0) || decide (m < us.getD i 0)) = true := by simp only [Bool.or_eq_true, decide_eq_true_eq]; exact hb
        rw [hp, this]
        rfl
      · rename_i hb
        have : (decide (us.getD i 0 < 0) || decide (m < us.getD i 0)) = false := by simp only [Bool.or_eq_false_iff, decide_eq_false_iff_not]; exact hb
        rw [this] at hp
        refine ⟨i + 1, ⟨⟨by omega, hp⟩, by omega⟩, ?_⟩
        refine subF.ok ?_ <;> (conv => whnf) <;> repeat' (first
 | exact trivial
 | (with_reducible rfl)
 | ((with_reducible refine And.intro ?_ ?_) <;> conv => whnf)
 | omega
 | rfl
 | (refine congrArg (SV.arr _) ?_)
 | (refine congrArg (Value.int _) ?_)
 | (refine congrArg Value.bool ?_))
    · have hi' : i = us.length := by omega
      subst hi'
      rw [List.drop_length] at hp
      repeat' (first
 | refine W.seq ?_
 | refine W.block ?_
 | (refine W.region tys_ok [] ?_; conv => whnf)
 | (refine W.drawAll tys_ok [] mixed rfl ?_; conv => whnf)
 | (refine W.ret ?_; conv => whnf)
 | (refine W.skip ?_; conv => whnf)
 | (refine W.exit ?_; conv => whnf)

    | (refine W.cond rfl (fun hb => ?_) (fun hb => ?_) <;> (try simp only [minL, maxL, pickB, getD_int, getD_sl, getD_bool, len_int, len_sl, len_bool, decide_eq_true_eq, decide_eq_false_iff_not, Bool.and_eq_true, Bool.or_eq_true, Bool.and_eq_false_iff, Bool.or_eq_false_iff, Bool.not_eq_true', Bool.not_eq_false', Bool.true_eq_false, Bool.false_eq_true, Int.toNat_natCast, Int.ofNat_lt, Int.ofNat_le, not_true_eq_false, not_false_eq_true, or_false, false_or, and_true, true_and, or_true, true_or, and_false, false_and] at hb) <;> (try (first | (cases hb; done) | exact absurd hb (by decide) | (exfalso; omega))))
    | ((with_reducible refine And.intro ?_ ?_); (focus ((repeat' (first | (with_reducible rfl) | (with_reducible refine And.intro ?_ ?_) | omega | rfl | exact Or.inl rfl | exact Or.inr rfl | (focus ((try simp only [minL, maxL, pickB, getD_int, getD_sl, getD_bool, len_int, len_sl, len_bool, decide_eq_true_eq, decide_eq_false_iff_not, Bool.and_eq_true, Bool.or_eq_true, Bool.and_eq_false_iff, Bool.or_eq_false_iff, Bool.not_eq_true', Bool.not_eq_false', Bool.true_eq_false, Bool.false_eq_true, Int.toNat_natCast, Int.ofNat_lt, Int.ofNat_le, not_true_eq_false, not_false_eq_true, or_false, false_or, and_true, true_and, or_true, true_or, and_false, false_and, InK, Path.imp, List.length_replicate, List.length_set, List.length_append, List.length_cons, List.length_nil] at *); omega)) | (refine app_le rfl ?_; omega))); done)); (conv => whnf))
    | ((with_reducible refine And.intro (Side.out ?_) ?_); rotate_left; (conv => whnf))
    | (refine retF1 ?_ <;> (conv => whnf) <;> repeat' (first
 | exact trivial
 | (with_reducible rfl)
 | ((with_reducible refine And.intro ?_ ?_) <;> conv => whnf)
 | omega
 | rfl
 | (refine congrArg (SV.arr _) ?_)
 | (refine congrArg (Value.int _) ?_)
 | (refine congrArg Value.bool ?_)))
 | (refine retF2 ?_ <;> (conv => whnf) <;> repeat' (first
 | exact trivial
 | (with_reducible rfl)
 | ((with_reducible refine And.intro ?_ ?_) <;> conv => whnf)
 | omega
 | rfl
 | (refine congrArg (SV.arr _) ?_)
 | (refine congrArg (Value.int _) ?_)
 | (refine congrArg Value.bool ?_)))); all_goals (try unfold Side)
      all_goals try (repeat' (first | (with_reducible rfl) | (with_reducible refine And.intro ?_ ?_) | omega | rfl | exact Or.inl rfl | exact Or.inr rfl | (focus ((try simp only [minL, maxL, pickB, getD_int, getD_sl, getD_bool, len_int, len_sl, len_bool, decide_eq_true_eq, decide_eq_false_iff_not, Bool.and_eq_true, Bool.or_eq_true, Bool.and_eq_false_iff, Bool.or_eq_false_iff, Bool.not_eq_true', Bool.not_eq_false', Bool.true_eq_false, Bool.false_eq_true, Int.toNat_natCast, Int.ofNat_lt, Int.ofNat_le, not_true_eq_false, not_false_eq_true, or_false, false_or, and_true, true_and, or_true, true_or, and_false, false_and, InK, Path.imp, List.length_replicate, List.length_set, List.length_append, List.length_cons, List.length_nil] at *); omega)) | (refine app_le rfl ?_; omega)))
      rw [hp]
      rfl
theorem containsFunc_at (us : List Int) (m : Int) (hn : us.length ≤ 1000) :
    FnAt Try.prog false 50 [.arr (.int .i64) us, .fn 57 [.sadr (.lit (.int .i64 m))]] (.lit (.bool (us.any fun x => decide (x < 0) || decide (m < x)))) [] := by
  refine FnAt.of_body tys_ok Try.func50 (by rfl) rfl Try.ntmps50 (by rw [Try.results50]) (by simp) ?_
  
  repeat' (first
 | refine W.seq ?_
 | refine W.block ?_
 | (refine W.region tys_ok [] ?_; conv => whnf)
 | (refine W.drawAll tys_ok [] mixed rfl ?_; conv => whnf)
 | (refine W.ret ?_; conv => whnf)
 | (refine W.skip ?_; conv => whnf)
 | (refine W.exit ?_; conv => whnf)
 | (refine call_at (al := false) (indexFunc_at _ _ hn) rfl rfl rfl rfl ?_; conv => whnf)

    | (refine W.cond rfl (fun hb => ?_) (fun hb => ?_) <;> (try simp only [minL, maxL, pickB, getD_int, getD_sl, getD_bool, len_int, len_sl, len_bool, decide_eq_true_eq, decide_eq_false_iff_not, Bool.and_eq_true, Bool.or_eq_true, Bool.and_eq_false_iff, Bool.or_eq_false_iff, Bool.not_eq_true', Bool.not_eq_false', Bool.true_eq_false, Bool.false_eq_true, Int.toNat_natCast, Int.ofNat_lt, Int.ofNat_le, not_true_eq_false, not_false_eq_true, or_false, false_or, and_true, true_and, or_true, true_or, and_false, false_and] at hb) <;> (try (first | (cases hb; done) | exact absurd hb (by decide) | (exfalso; omega))))
    | ((with_reducible refine And.intro ?_ ?_); (focus ((repeat' (first | (with_reducible rfl) | (with_reducible refine And.intro ?_ ?_) | omega | rfl | exact Or.inl rfl | exact Or.inr rfl | (focus ((try simp only [minL, maxL, pickB, getD_int, getD_sl, getD_bool, len_int, len_sl, len_bool, decide_eq_true_eq, decide_eq_false_iff_not, Bool.and_eq_true, Bool.or_eq_true, Bool.and_eq_false_iff, Bool.or_eq_false_iff, Bool.not_eq_true', Bool.not_eq_false', Bool.true_eq_false, Bool.false_eq_true, Int.toNat_natCast, Int.ofNat_lt, Int.ofNat_le, not_true_eq_false, not_false_eq_true, or_false, false_or, and_true, true_and, or_true, true_or, and_false, false_and, InK, Path.imp, List.length_replicate, List.length_set, List.length_append, List.length_cons, List.length_nil] at *); omega)) | (refine app_le rfl ?_; omega))); done)); (conv => whnf))
    | ((with_reducible refine And.intro (Side.out ?_) ?_); rotate_left; (conv => whnf))
    | (refine retF1 ?_ <;> (conv => whnf) <;> repeat' (first
 | exact trivial
 | (with_reducible rfl)
 | ((with_reducible refine And.intro ?_ ?_) <;> conv => whnf)
 | omega
 | rfl
 | (refine congrArg (SV.arr _) ?_)
 | (refine congrArg (Value.int _) ?_)
 | (refine congrArg Value.bool ?_)))
 | (refine retF2 ?_ <;> (conv => whnf) <;> repeat' (first
 | exact trivial
 | (with_reducible rfl)
 | ((with_reducible refine And.intro ?_ ?_) <;> conv => whnf)
 | omega
 | rfl
 | (refine congrArg (SV.arr _) ?_)
 | (refine congrArg (Value.int _) ?_)
 | (refine congrArg Value.bool ?_)))); all_goals (try unfold Side)
  exact fidx_any
theorem within_at (us : List Int) (m : Int) (hn : us.length ≤ 1000) :
    FnAt Try.prog false 45 [.arr (.int .i64) us, .lit (.int .i64 m)] (.lit (.bool (!(us.any fun x => decide (x < 0) || decide (m < x))))) [] := by
  refine FnAt.of_body tys_ok Try.func45 (by rfl) rfl Try.ntmps45 (by rw [Try.results45]) (by simp) ?_
  
  repeat' (first
 | refine W.seq ?_
 | refine W.block ?_
 | (refine W.region tys_ok [] ?_; conv => whnf)
 | (refine W.drawAll tys_ok [] mixed rfl ?_; conv => whnf)
 | (refine W.ret ?_; conv => whnf)
 | (refine W.skip ?_; conv => whnf)
 | (refine W.exit ?_; conv => whnf)
 | (refine call_at (al := false) (containsFunc_at _ _ hn) rfl rfl rfl rfl ?_; conv => whnf)

    | (refine W.cond rfl (fun hb => ?_) (fun hb => ?_) <;> (try simp only [minL, maxL, pickB, getD_int, getD_sl, getD_bool, len_int, len_sl, len_bool, decide_eq_true_eq, decide_eq_false_iff_not, Bool.and_eq_true, Bool.or_eq_true, Bool.and_eq_false_iff, Bool.or_eq_false_iff, Bool.not_eq_true', Bool.not_eq_false', Bool.true_eq_false, Bool.false_eq_true, Int.toNat_natCast, Int.ofNat_lt, Int.ofNat_le, not_true_eq_false, not_false_eq_true, or_false, false_or, and_true, true_and, or_true, true_or, and_false, false_and] at hb) <;> (try (first | (cases hb; done) | exact absurd hb (by decide) | (exfalso; omega))))
    | ((with_reducible refine And.intro ?_ ?_); (focus ((repeat' (first | (with_reducible rfl) | (with_reducible refine And.intro ?_ ?_) | omega | rfl | exact Or.inl rfl | exact Or.inr rfl | (focus ((try simp only [minL, maxL, pickB, getD_int, getD_sl, getD_bool, len_int, len_sl, len_bool, decide_eq_true_eq, decide_eq_false_iff_not, Bool.and_eq_true, Bool.or_eq_true, Bool.and_eq_false_iff, Bool.or_eq_false_iff, Bool.not_eq_true', Bool.not_eq_false', Bool.true_eq_false, Bool.false_eq_true, Int.toNat_natCast, Int.ofNat_lt, Int.ofNat_le, not_true_eq_false, not_false_eq_true, or_false, false_or, and_true, true_and, or_true, true_or, and_false, false_and, InK, Path.imp, List.length_replicate, List.length_set, List.length_append, List.length_cons, List.length_nil] at *); omega)) | (refine app_le rfl ?_; omega))); done)); (conv => whnf))
    | ((with_reducible refine And.intro (Side.out ?_) ?_); rotate_left; (conv => whnf))
    | (refine retF1 ?_ <;> (conv => whnf) <;> repeat' (first
 | exact trivial
 | (with_reducible rfl)
 | ((with_reducible refine And.intro ?_ ?_) <;> conv => whnf)
 | omega
 | rfl
 | (refine congrArg (SV.arr _) ?_)
 | (refine congrArg (Value.int _) ?_)
 | (refine congrArg Value.bool ?_)))
 | (refine retF2 ?_ <;> (conv => whnf) <;> repeat' (first
 | exact trivial
 | (with_reducible rfl)
 | ((with_reducible refine And.intro ?_ ?_) <;> conv => whnf)
 | omega
 | rfl
 | (refine congrArg (SV.arr _) ?_)
 | (refine congrArg (Value.int _) ?_)
 | (refine congrArg Value.bool ?_)))); all_goals (try unfold Side)

theorem same_at (a b : List Int) (hn : a.length ≤ 1000) (hnb : b.length ≤ 1000) :
    FnAt Try.prog false 20 [.arr (.int .i64) a, .arr (.int .i64) b] (.lit (.bool (decide (a = b)))) [] := by
  refine FnAt.of_body tys_ok Try.func20 (by rfl) rfl Try.ntmps20 (by rw [Try.results20]) (by simp) ?_
  
  repeat' (first
 | refine W.seq ?_
 | refine W.block ?_
 | (refine W.region tys_ok [] ?_; conv => whnf)
 | (refine W.drawAll tys_ok [] mixed rfl ?_; conv => whnf)
 | (refine W.ret ?_; conv => whnf)
 | (refine W.skip ?_; conv => whnf)
 | (refine W.exit ?_; conv => whnf)

    | (refine W.cond rfl (fun hb => ?_) (fun hb => ?_) <;> (try simp only [minL, maxL, pickB, getD_int, getD_sl, getD_bool, len_int, len_sl, len_bool, decide_eq_true_eq, decide_eq_false_iff_not, Bool.and_eq_true, Bool.or_eq_true, Bool.and_eq_false_iff, Bool.or_eq_false_iff, Bool.not_eq_true', Bool.not_eq_false', Bool.true_eq_false, Bool.false_eq_true, Int.toNat_natCast, Int.ofNat_lt, Int.ofNat_le, not_true_eq_false, not_false_eq_true, or_false, false_or, and_true, true_and, or_true, true_or, and_false, false_and] at hb) <;> (try (first | (cases hb; done) | exact absurd hb (by decide) | (exfalso; omega))))
    | ((with_reducible refine And.intro ?_ ?_); (focus ((repeat' (first | (with_reducible rfl) | (with_reducible refine And.intro ?_ ?_) | omega | rfl | exact Or.inl rfl | exact Or.inr rfl | (focus ((try simp only [minL, maxL, pickB, getD_int, getD_sl, getD_bool, len_int, len_sl, len_bool, decide_eq_true_eq, decide_eq_false_iff_not, Bool.and_eq_true, Bool.or_eq_true, Bool.and_eq_false_iff, Bool.or_eq_false_iff, Bool.not_eq_true', Bool.not_eq_false', Bool.true_eq_false, Bool.false_eq_true, Int.toNat_natCast, Int.ofNat_lt, Int.ofNat_le, not_true_eq_false, not_false_eq_true, or_false, false_or, and_true, true_and, or_true, true_or, and_false, false_and, InK, Path.imp, List.length_replicate, List.length_set, List.length_append, List.length_cons, List.length_nil] at *); omega)) | (refine app_le rfl ?_; omega))); done)); (conv => whnf))
    | ((with_reducible refine And.intro (Side.out ?_) ?_); rotate_left; (conv => whnf))
    | (refine retF1 ?_ <;> (conv => whnf) <;> repeat' (first
 | exact trivial
 | (with_reducible rfl)
 | ((with_reducible refine And.intro ?_ ?_) <;> conv => whnf)
 | omega
 | rfl
 | (refine congrArg (SV.arr _) ?_)
 | (refine congrArg (Value.int _) ?_)
 | (refine congrArg Value.bool ?_)))
 | (refine retF2 ?_ <;> (conv => whnf) <;> repeat' (first
 | exact trivial
 | (with_reducible rfl)
 | ((with_reducible refine And.intro ?_ ?_) <;> conv => whnf)
 | omega
 | rfl
 | (refine congrArg (SV.arr _) ?_)
 | (refine congrArg (Value.int _) ?_)
 | (refine congrArg Value.bool ?_)))); all_goals (try unfold Side)
  · symm
    simp only [decide_eq_false_iff_not]
    intro e
    subst e
    omega
  have hlen : a.length = b.length := by omega
  refine W.loop (fun i : Nat => ⟨[(0, .st false (.arr (.int .i64) a)), (1, .st false (.arr (.int .i64) b)), (5, .lit (.int .i64 i))], []⟩)
    (fun i => i ≤ a.length ∧ (a.drop i = b.drop i ↔ a = b)) (fun i => a.length - i) 0 ?_ ?_
  · refine ⟨by simp, ?_⟩
    refine subF.ok ?_ <;> (conv => whnf) <;> repeat' (first
 | exact trivial
 | (with_reducible rfl)
 | ((with_reducible refine And.intro ?_ ?_) <;> conv => whnf)
 | omega
 | rfl
 | (refine congrArg (SV.arr _) ?_)
 | (refine congrArg (Value.int _) ?_)
 | (refine congrArg Value.bool ?_))
  · rintro i ⟨hi, hp⟩
    dsimp only at hi hp ⊢
    by_cases hil : i < a.length
    · rw [drop_getD 0 hil, drop_getD 0 (by omega : i < b.length)] at hp
      repeat' (first
 | refine W.seq ?_
 | refine W.block ?_
 | (refine W.region tys_ok [] ?_; conv => whnf)
 | (refine W.drawAll tys_ok [] mixed rfl ?_; conv => whnf)
 | (refine W.ret ?_; conv => whnf)
 | (refine W.skip ?_; conv => whnf)
 | (refine W.exit ?_; conv => whnf)

    | (refine W.cond rfl (fun hb => ?_) (fun hb => ?_) <;> (try simp only [minL, maxL, pickB, getD_int, getD_sl, getD_bool, len_int, len_sl, len_bool, decide_eq_true_eq, decide_eq_false_iff_not, Bool.and_eq_true, Bool.or_eq_true, Bool.and_eq_false_iff, Bool.or_eq_false_iff, Bool.not_eq_true', Bool.not_eq_false', Bool.true_eq_false, Bool.false_eq_true, Int.toNat_natCast, Int.ofNat_lt, Int.ofNat_le, not_true_eq_false, not_false_eq_true, or_false, false_or, and_true, true_and, or_true, true_or, and_false, false_and] at hb) <;> (try (first | (cases hb; done) | exact absurd hb (by decide) | (exfalso; omega))))
    | ((with_reducible refine And.intro ?_ ?_); (focus ((repeat' (first | (with_reducible rfl) | (with_reducible refine And.intro ?_ ?_) | omega | rfl | exact Or.inl rfl | exact Or.inr rfl | (focus ((try simp only [minL, maxL, pickB, getD_int, getD_sl, getD_bool, len_int, len_sl, len_bool, decide_eq_true_eq, decide_eq_false_iff_not, Bool.and_eq_true, Bool.or_eq_true, Bool.and_eq_false_iff, Bool.or_eq_false_iff, Bool.not_eq_true', Bool.not_eq_false', Bool.true_eq_false, Bool.false_eq_true, Int.toNat_natCast, Int.ofNat_lt, Int.ofNat_le, not_true_eq_false, not_false_eq_true, or_false, false_or, and_true, true_and, or_true, true_or, and_false, false_and, InK, Path.imp, List.length_replicate, List.length_set, List.length_append, List.length_cons, List.length_nil] at *); omega)) | (refine app_le rfl ?_; omega))); done)); (conv => whnf))
    | ((with_reducible refine And.intro (Side.out ?_) ?_); rotate_left; (conv => whnf))
    | (refine retF1 ?_ <;> (conv => whnf) <;> repeat' (first
 | exact trivial
 | (with_reducible rfl)
 | ((with_reducible refine And.intro ?_ ?_) <;> conv => whnf)
 | omega
 | rfl
 | (refine congrArg (SV.arr _) ?_)
 | (refine congrArg (Value.int _) ?_)
 | (refine congrArg Value.bool ?_)))
 | (refine retF2 ?_ <;> (conv => whnf) <;> repeat' (first
 | exact trivial
 | (with_reducible rfl)
 | ((with_reducible refine And.intro ?_ ?_) <;> conv => whnf)
 | omega
 | rfl
 | (refine congrArg (SV.arr _) ?_)
 | (refine congrArg (Value.int _) ?_)
 | (refine congrArg Value.bool ?_)))); all_goals (try unfold Side)
      all_goals try (repeat' (first | (with_reducible rfl) | (with_reducible refine And.intro ?_ ?_) | omega | rfl | exact Or.inl rfl | exact Or.inr rfl | (focus ((try simp only [minL, maxL, pickB, getD_int, getD_sl, getD_bool, len_int, len_sl, len_bool, decide_eq_true_eq, decide_eq_false_iff_not, Bool.and_eq_true, Bool.or_eq_true, Bool.and_eq_false_iff, Bool.or_eq_false_iff, Bool.not_eq_true', Bool.not_eq_false', Bool.true_eq_false, Bool.false_eq_true, Int.toNat_natCast, Int.ofNat_lt, Int.ofNat_le, not_true_eq_false, not_false_eq_true, or_false, false_or, and_true, true_and, or_true, true_or, and_false, false_and, InK, Path.imp, List.length_replicate, List.length_set, List.length_append, List.length_cons, List.length_nil] at *); omega)) | (refine app_le rfl ?_; omega)))
      · rename_i hb
        symm
        simp only [decide_eq_false_iff_not]
        intro e
        subst e
        exact hb rfl
      · rename_i hb
        refine ⟨i + 1, ⟨⟨by omega, ?_⟩, by omega⟩, ?_⟩
        · rw [← hp, hb]
          simp
        · refine subF.ok ?_ <;> (conv => whnf) <;> repeat' (first
 | exact trivial
 | (with_reducible rfl)
 | ((with_reducible refine And.intro ?_ ?_) <;> conv => whnf)
 | omega
 | rfl
 | (refine congrArg (SV.arr _) ?_)
 | (refine congrArg (Value.int _) ?_)
 | (refine congrArg Value.bool ?_))
    · have hi' : i = a.length := by omega
      subst hi'
      repeat' (first
 | refine W.seq ?_
 | refine W.block ?_
 | (refine W.region tys_ok [] ?_; conv => whnf)
 | (refine W.drawAll tys_ok [] mixed rfl ?_; conv => whnf)
 | (refine W.ret ?_; conv => whnf)
 | (refine W.skip ?_; conv => whnf)
 | (refine W.exit ?_; conv => whnf)

    | (refine W.cond rfl (fun hb => ?_) (fun hb => ?_) <;> (try simp only [minL, maxL, pickB, getD_int, getD_sl, getD_bool, len_int, len_sl, len_bool, decide_eq_true_eq, decide_eq_false_iff_not, Bool.and_eq_true, Bool.or_eq_true, Bool.and_eq_false_iff, Bool.or_eq_false_iff, Bool.not_eq_true', Bool.not_eq_false', Bool.true_eq_false, Bool.false_eq_true, Int.toNat_natCast, Int.ofNat_lt, Int.ofNat_le, not_true_eq_false, not_false_eq_true, or_false, false_or, and_true, true_and, or_true, true_or, and_false, false_and] at hb) <;> (try (first | (cases hb; done) | exact absurd hb (by decide) | (exfalso; omega))))
    | ((with_reducible refine And.intro ?_ ?_); (focus ((repeat' (first | (with_reducible rfl) | (with_reducible refine And.intro ?_ ?_) | omega | rfl | exact Or.inl rfl | exact Or.inr rfl | (focus ((try simp only [minL, maxL, pickB, getD_int, getD_sl, getD_bool, len_int, len_sl, len_bool, decide_eq_true_eq, decide_eq_false_iff_not, Bool.and_eq_true, Bool.or_eq_true, Bool.and_eq_false_iff, Bool.or_eq_false_iff, Bool.not_eq_true', Bool.not_eq_false', Bool.true_eq_false, Bool.false_eq_true, Int.toNat_natCast, Int.ofNat_lt, Int.ofNat_le, not_true_eq_false, not_false_eq_true, or_false, false_or, and_true, true_and, or_true, true_or, and_false, false_and, InK, Path.imp, List.length_replicate, List.length_set, List.length_append, List.length_cons, List.length_nil] at *); omega)) | (refine app_le rfl ?_; omega))); done)); (conv => whnf))
    | ((with_reducible refine And.intro (Side.out ?_) ?_); rotate_left; (conv => whnf))
    | (refine retF1 ?_ <;> (conv => whnf) <;> repeat' (first
 | exact trivial
 | (with_reducible rfl)
 | ((with_reducible refine And.intro ?_ ?_) <;> conv => whnf)
 | omega
 | rfl
 | (refine congrArg (SV.arr _) ?_)
 | (refine congrArg (Value.int _) ?_)
 | (refine congrArg Value.bool ?_)))
 | (refine retF2 ?_ <;> (conv => whnf) <;> repeat' (first
 | exact trivial
 | (with_reducible rfl)
 | ((with_reducible refine And.intro ?_ ?_) <;> conv => whnf)
 | omega
 | rfl
 | (refine congrArg (SV.arr _) ?_)
 | (refine congrArg (Value.int _) ?_)
 | (refine congrArg Value.bool ?_)))); all_goals (try unfold Side)
      all_goals try (repeat' (first | (with_reducible rfl) | (with_reducible refine And.intro ?_ ?_) | omega | rfl | exact Or.inl rfl | exact Or.inr rfl | (focus ((try simp only [minL, maxL, pickB, getD_int, getD_sl, getD_bool, len_int, len_sl, len_bool, decide_eq_true_eq, decide_eq_false_iff_not, Bool.and_eq_true, Bool.or_eq_true, Bool.and_eq_false_iff, Bool.or_eq_false_iff, Bool.not_eq_true', Bool.not_eq_false', Bool.true_eq_false, Bool.false_eq_true, Int.toNat_natCast, Int.ofNat_lt, Int.ofNat_le, not_true_eq_false, not_false_eq_true, or_false, false_or, and_true, true_and, or_true, true_or, and_false, false_and, InK, Path.imp, List.length_replicate, List.length_set, List.length_append, List.length_cons, List.length_nil] at *); omega)) | (refine app_le rfl ?_; omega)))
      have : a.drop a.length = b.drop a.length := by rw [List.drop_length, List.drop_eq_nil_of_le (by omega)]
      have := hp.1 this
      simp [this]

theorem cut_at (xs : List Int) (n : Nat) (hn : n < 1000) : FnAt Try.prog false 21 [.arr (.int .i64) xs, .lit (.int .i64 n)] (.own 0) [(0, .row 3 (.int .i64) true (xs.take n))] := by
  have e : (minL (xs.length : Int) [(n : Int)]).toNat = min xs.length n := by simp only [minL]; omega
  have e' : 0 ≤ minL (xs.length : Int) [(n : Int)] ∧ minL (xs.length : Int) [(n : Int)] ≤ xs.length := by simp only [minL]; omega
  refine FnAt.of_body tys_ok Try.func21 (by rfl) rfl Try.ntmps21 (by rw [Try.results21]) (by simp) ?_
  
  repeat' (first
 | refine W.seq ?_
 | refine W.block ?_
 | (refine W.region tys_ok [] ?_; conv => whnf)
 | (refine W.drawAll tys_ok [] mixed rfl ?_; conv => whnf)
 | (refine W.ret ?_; conv => whnf)
 | (refine W.skip ?_; conv => whnf)
 | (refine W.exit ?_; conv => whnf)

    | (refine W.cond rfl (fun hb => ?_) (fun hb => ?_) <;> (try simp only [minL, maxL, pickB, getD_int, getD_sl, getD_bool, len_int, len_sl, len_bool, decide_eq_true_eq, decide_eq_false_iff_not, Bool.and_eq_true, Bool.or_eq_true, Bool.and_eq_false_iff, Bool.or_eq_false_iff, Bool.not_eq_true', Bool.not_eq_false', Bool.true_eq_false, Bool.false_eq_true, Int.toNat_natCast, Int.ofNat_lt, Int.ofNat_le, not_true_eq_false, not_false_eq_true, or_false, false_or, and_true, true_and, or_true, true_or, and_false, false_and] at hb) <;> (try (first | (cases hb; done) | exact absurd hb (by decide) | (exfalso; omega))))
    | ((with_reducible refine And.intro ?_ ?_); (focus ((repeat' (first | (with_reducible rfl) | (with_reducible refine And.intro ?_ ?_) | omega | rfl | exact Or.inl rfl | exact Or.inr rfl | (focus ((try simp only [minL, maxL, pickB, getD_int, getD_sl, getD_bool, len_int, len_sl, len_bool, decide_eq_true_eq, decide_eq_false_iff_not, Bool.and_eq_true, Bool.or_eq_true, Bool.and_eq_false_iff, Bool.or_eq_false_iff, Bool.not_eq_true', Bool.not_eq_false', Bool.true_eq_false, Bool.false_eq_true, Int.toNat_natCast, Int.ofNat_lt, Int.ofNat_le, not_true_eq_false, not_false_eq_true, or_false, false_or, and_true, true_and, or_true, true_or, and_false, false_and, InK, Path.imp, List.length_replicate, List.length_set, List.length_append, List.length_cons, List.length_nil] at *); omega)) | (refine app_le rfl ?_; omega))); done)); (conv => whnf))
    | ((with_reducible refine And.intro (Side.out ?_) ?_); rotate_left; (conv => whnf))
    | (refine retF1 ?_ <;> (conv => whnf) <;> repeat' (first
 | exact trivial
 | (with_reducible rfl)
 | ((with_reducible refine And.intro ?_ ?_) <;> conv => whnf)
 | omega
 | rfl
 | (refine congrArg (SV.arr _) ?_)
 | (refine congrArg (Value.int _) ?_)
 | (refine congrArg Value.bool ?_)))
 | (refine retF2 ?_ <;> (conv => whnf) <;> repeat' (first
 | exact trivial
 | (with_reducible rfl)
 | ((with_reducible refine And.intro ?_ ?_) <;> conv => whnf)
 | omega
 | rfl
 | (refine congrArg (SV.arr _) ?_)
 | (refine congrArg (Value.int _) ?_)
 | (refine congrArg Value.bool ?_)))); all_goals (try unfold Side)
  all_goals try (repeat' (first | (with_reducible rfl) | (with_reducible refine And.intro ?_ ?_) | omega | rfl | exact Or.inl rfl | exact Or.inr rfl | (focus ((try simp only [minL, maxL, pickB, getD_int, getD_sl, getD_bool, len_int, len_sl, len_bool, decide_eq_true_eq, decide_eq_false_iff_not, Bool.and_eq_true, Bool.or_eq_true, Bool.and_eq_false_iff, Bool.or_eq_false_iff, Bool.not_eq_true', Bool.not_eq_false', Bool.true_eq_false, Bool.false_eq_true, Int.toNat_natCast, Int.ofNat_lt, Int.ofNat_le, not_true_eq_false, not_false_eq_true, or_false, false_or, and_true, true_and, or_true, true_or, and_false, false_and, InK, Path.imp, List.length_replicate, List.length_set, List.length_append, List.length_cons, List.length_nil] at *); omega)) | (refine app_le rfl ?_; omega)))
  · have e2 : List.drop 0 (List.take (minL (xs.length : Int) [(n : Int)]).toNat xs) = List.take n xs := by
      rw [e, List.drop_zero, Nat.min_comm, ← List.take_take, List.take_length]
    exact e2
  · have e2 : 0 + (List.drop 0 (List.take (minL (xs.length : Int) [(n : Int)]).toNat xs)).length ≤ 4294967296 := by
      rw [e]; simp only [List.drop_zero, List.length_take]; omega
    exact e2
end Go.Proofs.Ytohfemfgnohhdaa
/- The worth of a use: what the function returns. No condition. -/
namespace Go.Proofs.Ytohfemfgnohhdaa
open Go Go.Vc
set_option linter.unusedVariables false
set_option linter.unusedSimpArgs false

/-- The worth of a use. -/
def worthL : List (List Int) → List Int → Int
  | g :: gs, u :: us => (g.take u.toNat).sum + worthL gs us
  | _, _ => 0
structure OkG (gs : List (List Int)) : Prop where
  len : gs.length ≤ 8
  lens : ∀ i, i < gs.length → (gs.getD i []).length ≤ 20
  val : ∀ i, i < gs.length → ∀ j, j < (gs.getD i []).length → 0 ≤ (gs.getD i []).getD j 0 ∧ (gs.getD i []).getD j 0 ≤ 1000

theorem cutmin (u : Int) (xs : List Int) (h : 0 ≤ u) : List.drop (Int.toNat 0) (List.take (minL u [(xs.length : Int)]).toNat xs) = xs.take u.toNat := by
  have : (minL u [(xs.length : Int)]).toNat = min u.toNat xs.length := by simp only [minL]; omega
  rw [this]
  show List.drop 0 _ = _
  rw [List.drop_zero, ← List.take_take, List.take_length]
theorem sum_take_succ : ∀ {xs : List Int} {j : Nat}, j < xs.length → (xs.take (j + 1)).sum = (xs.take j).sum + xs.getD j 0
  | x :: r, 0, _ => by simp
  | x :: r, j + 1, h => by
    have := sum_take_succ (xs := r) (j := j) (by simpa using h)
    simp only [List.take_succ_cons, List.sum_cons, List.getD_cons_succ]
    omega
theorem getD_take {α : Type} {xs : List α} {n j : Nat} {d : α} (h : j < n) : (xs.take n).getD j d = xs.getD j d := by
  simp only [List.getD_eq_getElem?_getD]
  rw [List.getElem?_take_of_lt h]

theorem worth_at (fl : List Int) (gs : List (List Int)) (us : List Int) (hG : OkG gs) (hl : us.length ≤ gs.length) (hu : ∀ i, i < us.length → 0 ≤ us.getD i 0) :
    FnAt Try.prog false 41 [.agg [.arr (.int .i64) fl, .arr (.sl (.int .i64)) gs], .arr (.int .i64) us] (.lit (.int .i64 (worthL gs us))) [] := by
  have hlen := hG.len
  refine FnAt.of_body tys_ok Try.func41 (by rfl) rfl Try.ntmps41 (by rw [Try.results41]) (by simp) ?_
  
  repeat' (first
 | refine W.seq ?_
 | refine W.block ?_
 | (refine W.region tys_ok [] ?_; conv => whnf)
 | (refine W.drawAll tys_ok [] mixed rfl ?_; conv => whnf)
 | (refine W.ret ?_; conv => whnf)
 | (refine W.skip ?_; conv => whnf)
 | (refine W.exit ?_; conv => whnf)

    | (refine W.cond rfl (fun hb => ?_) (fun hb => ?_) <;> (try simp only [minL, maxL, pickB, getD_int, getD_sl, getD_bool, len_int, len_sl, len_bool, decide_eq_true_eq, decide_eq_false_iff_not, Bool.and_eq_true, Bool.or_eq_true, Bool.and_eq_false_iff, Bool.or_eq_false_iff, Bool.not_eq_true', Bool.not_eq_false', Bool.true_eq_false, Bool.false_eq_true, Int.toNat_natCast, Int.ofNat_lt, Int.ofNat_le, not_true_eq_false, not_false_eq_true, or_false, false_or, and_true, true_and, or_true, true_or, and_false, false_and] at hb) <;> (try (first | (cases hb; done) | exact absurd hb (by decide) | (exfalso; omega))))
    | ((with_reducible refine And.intro ?_ ?_); (focus ((repeat' (first | (with_reducible rfl) | (with_reducible refine And.intro ?_ ?_) | omega | rfl | exact Or.inl rfl | exact Or.inr rfl | (focus ((try simp only [minL, maxL, pickB, getD_int, getD_sl, getD_bool, len_int, len_sl, len_bool, decide_eq_true_eq, decide_eq_false_iff_not, Bool.and_eq_true, Bool.or_eq_true, Bool.and_eq_false_iff, Bool.or_eq_false_iff, Bool.not_eq_true', Bool.not_eq_false', Bool.true_eq_false, Bool.false_eq_true, Int.toNat_natCast, Int.ofNat_lt, Int.ofNat_le, not_true_eq_false, not_false_eq_true, or_false, false_or, and_true, true_and, or_true, true_or, and_false, false_and, InK, Path.imp, List.length_replicate, List.length_set, List.length_append, List.length_cons, List.length_nil] at *); omega)) | (refine app_le rfl ?_; omega))); done)); (conv => whnf))
    | ((with_reducible refine And.intro (Side.out ?_) ?_); rotate_left; (conv => whnf))
    | (refine retF1 ?_ <;> (conv => whnf) <;> repeat' (first
 | exact trivial
 | (with_reducible rfl)
 | ((with_reducible refine And.intro ?_ ?_) <;> conv => whnf)
 | omega
 | rfl
 | (refine congrArg (SV.arr _) ?_)
 | (refine congrArg (Value.int _) ?_)
 | (refine congrArg Value.bool ?_)))
 | (refine retF2 ?_ <;> (conv => whnf) <;> repeat' (first
 | exact trivial
 | (with_reducible rfl)
 | ((with_reducible refine And.intro ?_ ?_) <;> conv => whnf)
 | omega
 | rfl
 | (refine congrArg (SV.arr _) ?_)
 | (refine congrArg (Value.int _) ?_)
 | (refine congrArg Value.bool ?_)))); all_goals (try unfold Side)
  refine W.loop (fun x : Nat × Int => ⟨[(2, .padr 3000 0), (5, .lit (.int .i64 x.2)), (10, .st false (.arr (.int .i64) us)), (11, .lit (.int .i64 us.length)), (12, .lit (.int .i64 x.1))], [(3000, .box [.st false (.arr (.int .i64) fl), .st false (.arr (.sl (.int .i64)) gs)])]⟩)
    (fun x => x.1 ≤ us.length ∧ 0 ≤ x.2 ∧ x.2 ≤ 20000 * x.1 ∧ worthL gs us = x.2 + worthL (gs.drop x.1) (us.drop x.1)) (fun x => us.length - x.1) (0, 0) ?_ ?_
  · refine ⟨by simp, ?_⟩
    refine subF.ok ?_ <;> (conv => whnf) <;> repeat' (first
 | exact trivial
 | (with_reducible rfl)
 | ((with_reducible refine And.intro ?_ ?_) <;> conv => whnf)
 | omega
 | rfl
 | (refine congrArg (SV.arr _) ?_)
 | (refine congrArg (Value.int _) ?_)
 | (refine congrArg Value.bool ?_))
  · rintro ⟨i, a⟩ ⟨hi, h0, h1, hp⟩
    dsimp only at hi h0 h1 hp ⊢
    have hv := hG.val i
    have hgl := hG.lens i
    have hui := hu i
    by_cases hil : i < us.length
    · rw [drop_getD 0 hil, drop_getD [] (by omega : i < gs.length)] at hp
      simp only [worthL] at hp
      repeat' (first
 | refine W.seq ?_
 | refine W.block ?_
 | (refine W.region tys_ok [] ?_; conv => whnf)
 | (refine W.drawAll tys_ok [] mixed rfl ?_; conv => whnf)
 | (refine W.ret ?_; conv => whnf)
 | (refine W.skip ?_; conv => whnf)
 | (refine W.exit ?_; conv => whnf)

    | (refine W.cond rfl (fun hb => ?_) (fun hb => ?_) <;> (try simp only [minL, maxL, pickB, getD_int, getD_sl, getD_bool, len_int, len_sl, len_bool, decide_eq_true_eq, decide_eq_false_iff_not, Bool.and_eq_true, Bool.or_eq_true, Bool.and_eq_false_iff, Bool.or_eq_false_iff, Bool.not_eq_true', Bool.not_eq_false', Bool.true_eq_false, Bool.false_eq_true, Int.toNat_natCast, Int.ofNat_lt, Int.ofNat_le, not_true_eq_false, not_false_eq_true, or_false, false_or, and_true, true_and, or_true, true_or, and_false, false_and] at hb) <;> (try (first | (cases hb; done) | exact absurd hb (by decide) | (exfalso; omega))))
    | ((with_reducible refine And.intro ?_ ?_); (focus ((repeat' (first | (with_reducible rfl) | (with_reducible refine And.intro ?_ ?_) | omega | rfl | exact Or.inl rfl | exact Or.inr rfl | (focus ((try simp only [minL, maxL, pickB, getD_int, getD_sl, getD_bool, len_int, len_sl, len_bool, decide_eq_true_eq, decide_eq_false_iff_not, Bool.and_eq_true, Bool.or_eq_true, Bool.and_eq_false_iff, Bool.or_eq_false_iff, Bool.not_eq_true', Bool.not_eq_false', Bool.true_eq_false, Bool.false_eq_true, Int.toNat_natCast, Int.ofNat_lt, Int.ofNat_le, not_true_eq_false, not_false_eq_true, or_false, false_or, and_true, true_and, or_true, true_or, and_false, false_and, InK, Path.imp, List.length_replicate, List.length_set, List.length_append, List.length_cons, List.length_nil] at *); omega)) | (refine app_le rfl ?_; omega))); done)); (conv => whnf))
    | ((with_reducible refine And.intro (Side.out ?_) ?_); rotate_left; (conv => whnf))
    | (refine retF1 ?_ <;> (conv => whnf) <;> repeat' (first
 | exact trivial
 | (with_reducible rfl)
 | ((with_reducible refine And.intro ?_ ?_) <;> conv => whnf)
 | omega
 | rfl
 | (refine congrArg (SV.arr _) ?_)
 | (refine congrArg (Value.int _) ?_)
 | (refine congrArg Value.bool ?_)))
 | (refine retF2 ?_ <;> (conv => whnf) <;> repeat' (first
 | exact trivial
 | (with_reducible rfl)
 | ((with_reducible refine And.intro ?_ ?_) <;> conv => whnf)
 | omega
 | rfl
 | (refine congrArg (SV.arr _) ?_)
 | (refine congrArg (Value.int _) ?_)
 | (refine congrArg Value.bool ?_)))); all_goals (try unfold Side)
      all_goals try (repeat' (first | (with_reducible rfl) | (with_reducible refine And.intro ?_ ?_) | omega | rfl | exact Or.inl rfl | exact Or.inr rfl | (focus ((try simp only [minL, maxL, pickB, getD_int, getD_sl, getD_bool, len_int, len_sl, len_bool, decide_eq_true_eq, decide_eq_false_iff_not, Bool.and_eq_true, Bool.or_eq_true, Bool.and_eq_false_iff, Bool.or_eq_false_iff, Bool.not_eq_true', Bool.not_eq_false', Bool.true_eq_false, Bool.false_eq_true, Int.toNat_natCast, Int.ofNat_lt, Int.ofNat_le, not_true_eq_false, not_false_eq_true, or_false, false_or, and_true, true_and, or_true, true_or, and_false, false_and, InK, Path.imp, List.length_replicate, List.length_set, List.length_append, List.length_cons, List.length_nil] at *); omega)) | (refine app_le rfl ?_; omega)))
      generalize hr : (gs.getD i []).take (us.getD i 0).toNat = r at hp
      have hrl : r.length ≤ (gs.getD i []).length := by rw [← hr, List.length_take]; omega
      have hrv : ∀ j, j < r.length → 0 ≤ r.getD j 0 ∧ r.getD j 0 ≤ 1000 := by
        intro j hj
        have hj' : j < (us.getD i 0).toNat := by
          have := congrArg List.length hr
          rw [List.length_take] at this
          omega
        have e : r.getD j 0 = (gs.getD i []).getD j 0 := by
          rw [← hr]; exact getD_take hj'
        rw [e]
        exact hv (by omega) j (by omega)
      refine W.loop (fun x : Nat × Int => ⟨[(2, .padr 3000 0), (5, .lit (.int .i64 x.2)), (10, .st false (.arr (.int .i64) us)), (11, .lit (.int .i64 us.length)), (12, .lit (.int .i64 i)),
          (30, .st false (.arr (.int .i64) r)), (31, .lit (.int .i64 r.length)), (32, .lit (.int .i64 x.1))], [(3000, .box [.st false (.arr (.int .i64) fl), .st false (.arr (.sl (.int .i64)) gs)])]⟩)
        (fun x => x.1 ≤ r.length ∧ a ≤ x.2 ∧ x.2 ≤ a + 1000 * x.1 ∧ x.2 = a + (r.take x.1).sum) (fun x => r.length - x.1) (0, a) ?_ ?_
      · refine ⟨by simp, ?_⟩
        refine subF.ok ?_ <;> (conv => whnf) <;> repeat' (first
 | exact trivial
 | (with_reducible rfl)
 | ((with_reducible refine And.intro ?_ ?_) <;> conv => whnf)
 | omega
 | rfl
 | (refine congrArg (SV.arr _) ?_)
 | (refine congrArg (Value.int _) ?_)
 | (refine congrArg Value.bool ?_))
        · exact (cutmin (us.getD i 0) (gs.getD i []) (hui hil)).trans hr
        · exact congrArg (fun l : List Int => (l.length : Int)) ((cutmin (us.getD i 0) (gs.getD i []) (hui hil)).trans hr)
      · rintro ⟨j, b⟩ ⟨hj, h3, h4, h5⟩
        dsimp only at hj h3 h4 h5 ⊢
        have hrj := hrv j
        by_cases hjl : j < r.length
        · have hs := sum_take_succ hjl
          repeat' (first
 | refine W.seq ?_
 | refine W.block ?_
 | (refine W.region tys_ok [] ?_; conv => whnf)
 | (refine W.drawAll tys_ok [] mixed rfl ?_; conv => whnf)
 | (refine W.ret ?_; conv => whnf)
 | (refine W.skip ?_; conv => whnf)
 | (refine W.exit ?_; conv => whnf)

    | (refine W.cond rfl (fun hb => ?_) (fun hb => ?_) <;> (try simp only [minL, maxL, pickB, getD_int, getD_sl, getD_bool, len_int, len_sl, len_bool, decide_eq_true_eq, decide_eq_false_iff_not, Bool.and_eq_true, Bool.or_eq_true, Bool.and_eq_false_iff, Bool.or_eq_false_iff, Bool.not_eq_true', Bool.not_eq_false', Bool.true_eq_false, Bool.false_eq_true, Int.toNat_natCast, Int.ofNat_lt, Int.ofNat_le, not_true_eq_false, not_false_eq_true, or_false, false_or, and_true, true_and, or_true, true_or, and_false, false_and] at hb) <;> (try (first | (cases hb; done) | exact absurd hb (by decide) | (exfalso; omega))))
    | ((with_reducible refine And.intro ?_ ?_); (focus ((repeat' (first | (with_reducible rfl) | (with_reducible refine And.intro ?_ ?_) | omega | rfl | exact Or.inl rfl | exact Or.inr rfl | (focus ((try simp only [minL, maxL, pickB, getD_int, getD_sl, getD_bool, len_int, len_sl, len_bool, decide_eq_true_eq, decide_eq_false_iff_not, Bool.and_eq_true, Bool.or_eq_true, Bool.and_eq_false_iff, Bool.or_eq_false_iff, Bool.not_eq_true', Bool.not_eq_false', Bool.true_eq_false, Bool.false_eq_true, Int.toNat_natCast, Int.ofNat_lt, Int.ofNat_le, not_true_eq_false, not_false_eq_true, or_false, false_or, and_true, true_and, or_true, true_or, and_false, false_and, InK, Path.imp, List.length_replicate, List.length_set, List.length_append, List.length_cons, List.length_nil] at *); omega)) | (refine app_le rfl ?_; omega))); done)); (conv => whnf))
    | ((with_reducible refine And.intro (Side.out ?_) ?_); rotate_left; (conv => whnf))
    | (refine retF1 ?_ <;> (conv => whnf) <;> repeat' (first
 | exact trivial
 | (with_reducible rfl)
 | ((with_reducible refine And.intro ?_ ?_) <;> conv => whnf)
 | omega
 | rfl
 | (refine congrArg (SV.arr _) ?_)
 | (refine congrArg (Value.int _) ?_)
 | (refine congrArg Value.bool ?_)))
 | (refine retF2 ?_ <;> (conv => whnf) <;> repeat' (first
 | exact trivial
 | (with_reducible rfl)
 | ((with_reducible refine And.intro ?_ ?_) <;> conv => whnf)
 | omega
 | rfl
 | (refine congrArg (SV.arr _) ?_)
 | (refine congrArg (Value.int _) ?_)
 | (refine congrArg Value.bool ?_)))); all_goals (try unfold Side)
          all_goals try (repeat' (first | (with_reducible rfl) | (with_reducible refine And.intro ?_ ?_) | omega | rfl | exact Or.inl rfl | exact Or.inr rfl | (focus ((try simp only [minL, maxL, pickB, getD_int, getD_sl, getD_bool, len_int, len_sl, len_bool, decide_eq_true_eq, decide_eq_false_iff_not, Bool.and_eq_true, Bool.or_eq_true, Bool.and_eq_false_iff, Bool.or_eq_false_iff, Bool.not_eq_true', Bool.not_eq_false', Bool.true_eq_false, Bool.false_eq_true, Int.toNat_natCast, Int.ofNat_lt, Int.ofNat_le, not_true_eq_false, not_false_eq_true, or_false, false_or, and_true, true_and, or_true, true_or, and_false, false_and, InK, Path.imp, List.length_replicate, List.length_set, List.length_append, List.length_cons, List.length_nil] at *); omega)) | (refine app_le rfl ?_; omega)))
          refine ⟨(j + 1, b + r.getD j 0), ⟨⟨?_, ?_, ?_, ?_⟩, ?_⟩, ?_⟩
          · dsimp only; omega
          · dsimp only; omega
          · dsimp only; omega
          · dsimp only; rw [hs]; omega
          · dsimp only; omega
          · refine subF.ok ?_ <;> (conv => whnf) <;> repeat' (first
 | exact trivial
 | (with_reducible rfl)
 | ((with_reducible refine And.intro ?_ ?_) <;> conv => whnf)
 | omega
 | rfl
 | (refine congrArg (SV.arr _) ?_)
 | (refine congrArg (Value.int _) ?_)
 | (refine congrArg Value.bool ?_))
        · have hj' : j = r.length := by omega
          subst hj'
          rw [List.take_length] at h5
          repeat' (first
 | refine W.seq ?_
 | refine W.block ?_
 | (refine W.region tys_ok [] ?_; conv => whnf)
 | (refine W.drawAll tys_ok [] mixed rfl ?_; conv => whnf)
 | (refine W.ret ?_; conv => whnf)
 | (refine W.skip ?_; conv => whnf)
 | (refine W.exit ?_; conv => whnf)

    | (refine W.cond rfl (fun hb => ?_) (fun hb => ?_) <;> (try simp only [minL, maxL, pickB, getD_int, getD_sl, getD_bool, len_int, len_sl, len_bool, decide_eq_true_eq, decide_eq_false_iff_not, Bool.and_eq_true, Bool.or_eq_true, Bool.and_eq_false_iff, Bool.or_eq_false_iff, Bool.not_eq_true', Bool.not_eq_false', Bool.true_eq_false, Bool.false_eq_true, Int.toNat_natCast, Int.ofNat_lt, Int.ofNat_le, not_true_eq_false, not_false_eq_true, or_false, false_or, and_true, true_and, or_true, true_or, and_false, false_and] at hb) <;> (try (first | (cases hb; done) | exact absurd hb (by decide) | (exfalso; omega))))
    | ((with_reducible refine And.intro ?_ ?_); (focus ((repeat' (first | (with_reducible rfl) | (with_reducible refine And.intro ?_ ?_) | omega | rfl | exact Or.inl rfl | exact Or.inr rfl | (focus ((try simp only [minL, maxL, pickB, getD_int, getD_sl, getD_bool, len_int, len_sl, len_bool, decide_eq_true_eq, decide_eq_false_iff_not, Bool.and_eq_true, Bool.or_eq_true, Bool.and_eq_false_iff, Bool.or_eq_false_iff, Bool.not_eq_true', Bool.not_eq_false', Bool.true_eq_false, Bool.false_eq_true, Int.toNat_natCast, Int.ofNat_lt, Int.ofNat_le, not_true_eq_false, not_false_eq_true, or_false, false_or, and_true, true_and, or_true, true_or, and_false, false_and, InK, Path.imp, List.length_replicate, List.length_set, List.length_append, List.length_cons, List.length_nil] at *); omega)) | (refine app_le rfl ?_; omega))); done)); (conv => whnf))
    | ((with_reducible refine And.intro (Side.out ?_) ?_); rotate_left; (conv => whnf))
    | (refine retF1 ?_ <;> (conv => whnf) <;> repeat' (first
 | exact trivial
 | (with_reducible rfl)
 | ((with_reducible refine And.intro ?_ ?_) <;> conv => whnf)
 | omega
 | rfl
 | (refine congrArg (SV.arr _) ?_)
 | (refine congrArg (Value.int _) ?_)
 | (refine congrArg Value.bool ?_)))
 | (refine retF2 ?_ <;> (conv => whnf) <;> repeat' (first
 | exact trivial
 | (with_reducible rfl)
 | ((with_reducible refine And.intro ?_ ?_) <;> conv => whnf)
 | omega
 | rfl
 | (refine congrArg (SV.arr _) ?_)
 | (refine congrArg (Value.int _) ?_)
 | (refine congrArg Value.bool ?_)))); all_goals (try unfold Side)
          all_goals try (repeat' (first | (with_reducible rfl) | (with_reducible refine And.intro ?_ ?_) | omega | rfl | exact Or.inl rfl | exact Or.inr rfl | (focus ((try simp only [minL, maxL, pickB, getD_int, getD_sl, getD_bool, len_int, len_sl, len_bool, decide_eq_true_eq, decide_eq_false_iff_not, Bool.and_eq_true, Bool.or_eq_true, Bool.and_eq_false_iff, Bool.or_eq_false_iff, Bool.not_eq_true', Bool.not_eq_false', Bool.true_eq_false, Bool.false_eq_true, Int.toNat_natCast, Int.ofNat_lt, Int.ofNat_le, not_true_eq_false, not_false_eq_true, or_false, false_or, and_true, true_and, or_true, true_or, and_false, false_and, InK, Path.imp, List.length_replicate, List.length_set, List.length_append, List.length_cons, List.length_nil] at *); omega)) | (refine app_le rfl ?_; omega)))
          refine ⟨(i + 1, b), ⟨⟨?_, ?_, ?_, ?_⟩, ?_⟩, ?_⟩
          · dsimp only; omega
          · dsimp only; omega
          · dsimp only; omega
          · dsimp only; omega
          · dsimp only; omega
          · refine subF.ok ?_ <;> (conv => whnf) <;> repeat' (first
 | exact trivial
 | (with_reducible rfl)
 | ((with_reducible refine And.intro ?_ ?_) <;> conv => whnf)
 | omega
 | rfl
 | (refine congrArg (SV.arr _) ?_)
 | (refine congrArg (Value.int _) ?_)
 | (refine congrArg Value.bool ?_))
    · have hi' : i = us.length := by omega
      subst hi'
      have : worthL (List.drop us.length gs) (List.drop us.length us) = 0 := by
        rw [List.drop_length]; cases List.drop us.length gs <;> rfl
      repeat' (first
 | refine W.seq ?_
 | refine W.block ?_
 | (refine W.region tys_ok [] ?_; conv => whnf)
 | (refine W.drawAll tys_ok [] mixed rfl ?_; conv => whnf)
 | (refine W.ret ?_; conv => whnf)
 | (refine W.skip ?_; conv => whnf)
 | (refine W.exit ?_; conv => whnf)

    | (refine W.cond rfl (fun hb => ?_) (fun hb => ?_) <;> (try simp only [minL, maxL, pickB, getD_int, getD_sl, getD_bool, len_int, len_sl, len_bool, decide_eq_true_eq, decide_eq_false_iff_not, Bool.and_eq_true, Bool.or_eq_true, Bool.and_eq_false_iff, Bool.or_eq_false_iff, Bool.not_eq_true', Bool.not_eq_false', Bool.true_eq_false, Bool.false_eq_true, Int.toNat_natCast, Int.ofNat_lt, Int.ofNat_le, not_true_eq_false, not_false_eq_true, or_false, false_or, and_true, true_and, or_true, true_or, and_false, false_and] at hb) <;> (try (first | (cases hb; done) | exact absurd hb (by decide) | (exfalso; omega))))
    | ((with_reducible refine And.intro ?_ ?_); (focus ((repeat' (first | (with_reducible rfl) | (with_reducible refine And.intro ?_ ?_) | omega | rfl | exact Or.inl rfl | exact Or.inr rfl | (focus ((try simp only [minL, maxL, pickB, getD_int, getD_sl, getD_bool, len_int, len_sl, len_bool, decide_eq_true_eq, decide_eq_false_iff_not, Bool.and_eq_true, Bool.or_eq_true, Bool.and_eq_false_iff, Bool.or_eq_false_iff, Bool.not_eq_true', Bool.not_eq_false', Bool.true_eq_false, Bool.false_eq_true, Int.toNat_natCast, Int.ofNat_lt, Int.ofNat_le, not_true_eq_false, not_false_eq_true, or_false, false_or, and_true, true_and, or_true, true_or, and_false, false_and, InK, Path.imp, List.length_replicate, List.length_set, List.length_append, List.length_cons, List.length_nil] at *); omega)) | (refine app_le rfl ?_; omega))); done)); (conv => whnf))
    | ((with_reducible refine And.intro (Side.out ?_) ?_); rotate_left; (conv => whnf))
    | (refine retF1 ?_ <;> (conv => whnf) <;> repeat' (first
 | exact trivial
 | (with_reducible rfl)
 | ((with_reducible refine And.intro ?_ ?_) <;> conv => whnf)
 | omega
 | rfl
 | (refine congrArg (SV.arr _) ?_)
 | (refine congrArg (Value.int _) ?_)
 | (refine congrArg Value.bool ?_)))
 | (refine retF2 ?_ <;> (conv => whnf) <;> repeat' (first
 | exact trivial
 | (with_reducible rfl)
 | ((with_reducible refine And.intro ?_ ?_) <;> conv => whnf)
 | omega
 | rfl
 | (refine congrArg (SV.arr _) ?_)
 | (refine congrArg (Value.int _) ?_)
 | (refine congrArg Value.bool ?_)))); all_goals (try unfold Side)
      all_goals try (repeat' (first | (with_reducible rfl) | (with_reducible refine And.intro ?_ ?_) | omega | rfl | exact Or.inl rfl | exact Or.inr rfl | (focus ((try simp only [minL, maxL, pickB, getD_int, getD_sl, getD_bool, len_int, len_sl, len_bool, decide_eq_true_eq, decide_eq_false_iff_not, Bool.and_eq_true, Bool.or_eq_true, Bool.and_eq_false_iff, Bool.or_eq_false_iff, Bool.not_eq_true', Bool.not_eq_false', Bool.true_eq_false, Bool.false_eq_true, Int.toNat_natCast, Int.ofNat_lt, Int.ofNat_le, not_true_eq_false, not_false_eq_true, or_false, false_or, and_true, true_and, or_true, true_or, and_false, false_and, InK, Path.imp, List.length_replicate, List.length_set, List.length_append, List.length_cons, List.length_nil] at *); omega)) | (refine app_le rfl ?_; omega)))
end Go.Proofs.Ytohfemfgnohhdaa
/- The best use, piece by piece: what the function returns. No condition. -/
namespace Go.Proofs.Ytohfemfgnohhdaa
open Go Go.Vc
set_option linter.unusedVariables false
set_option linter.unusedSimpArgs false

/-- Is one more piece at i possible, and worth as much as the one at 'at'? -/
def okB (fl : List Int) (gs : List (List Int)) (us : List Int) (at_ : Int) (i : Nat) : Bool :=
  decide (us.getD i 0 < (gs.getD i []).length) && decide (0 < (gs.getD i []).getD (us.getD i 0).toNat 0) && poss 0 fl (us.set i (us.getD i 0 + 1)) &&
    (decide (at_ < 0) || decide ((gs.getD at_.toNat []).getD (us.getD at_.toNat 0).toNat 0 ≤ (gs.getD i []).getD (us.getD i 0).toNat 0))
def pk (fl : List Int) (gs : List (List Int)) (us : List Int) : Nat → Int
  | 0 => -1
  | i + 1 => cond (okB fl gs us (pk fl gs us i) i) (i : Int) (pk fl gs us i)
def bestF (fl : List Int) (gs : List (List Int)) : Nat → List Int → List Int
  | 0, us => us
  | k + 1, us => cond (decide (pk fl gs us gs.length < 0)) us (bestF fl gs k (us.set (pk fl gs us gs.length).toNat (us.getD (pk fl gs us gs.length).toNat 0 + 1)))
def room : List (List Int) → List Int → Nat
  | g :: gs, u :: us => (g.length - u.toNat) + room gs us
  | _, _ => 0
theorem room_set : ∀ {gs : List (List Int)} {us : List Int} {i : Nat}, i < gs.length → i < us.length → 0 ≤ us.getD i 0 → us.getD i 0 < (gs.getD i []).length → room gs (us.set i (us.getD i 0 + 1)) + 1 = room gs us
  | g :: gs, u :: us, 0, _, _, h, h' => by
    simp only [List.getD_cons_zero] at h h'
    simp only [List.getD_cons_zero, List.set_cons_zero, room]
    omega
  | g :: gs, u :: us, i + 1, h1, h2, h, h' => by
    have := room_set (gs := gs) (us := us) (i := i) (by simpa using h1) (by simpa using h2) (by simpa using h) (by simpa using h')
    simp only [List.getD_cons_succ, List.set_cons_succ, room]
    omega
theorem pk_lt {fl : List Int} {gs : List (List Int)} {us : List Int} : ∀ i, -1 ≤ pk fl gs us i ∧ pk fl gs us i < i ∧ (0 ≤ pk fl gs us i → us.getD (pk fl gs us i).toNat 0 < (gs.getD (pk fl gs us i).toNat []).length)
  | 0 => by simp [pk]
  | i + 1 => by
    have h := pk_lt (fl := fl) (gs := gs) (us := us) i
    simp only [pk]
    cases hb : okB fl gs us (pk fl gs us i) i with
    | false => simp only [cond_false]; exact ⟨h.1, by omega, h.2.2⟩
    | true =>
      simp only [cond_true, Int.toNat_natCast]
      simp only [okB, Bool.and_eq_true, decide_eq_true_eq] at hb
      exact ⟨by omega, by omega, fun _ => hb.1.1.1⟩
theorem set_getD {us : List Int} {i j : Nat} {v : Int} (hi : i < us.length) : (us.set i v).getD j 0 = if j = i then v else us.getD j 0 := by
  simp only [List.getD_eq_getElem?_getD, List.getElem?_set]
  by_cases h : i = j
  · subst h; simp [hi]
  · simp [h, Ne.symm h]
theorem with_atI (us : List Int) (v : Int) (h0 : 0 ≤ v) (hi : v < us.length) (hn : us.length ≤ 1000) (hu : -1000000 ≤ us.getD v.toNat 0 ∧ us.getD v.toNat 0 ≤ 1000000) :
    FnAt Try.prog false 48 [.arr (.int .i64) us, .lit (.int .i64 v)] (.own 0) [(0, .row 3 (.int .i64) true (us.set v.toNat (us.getD v.toNat 0 + 1)))] := by
  obtain ⟨n, rfl⟩ := Int.eq_ofNat_of_zero_le h0
  exact with_at us n (by omega) hn hu
def bestL (fl : List Int) (gs : List (List Int)) : List Int := bestF fl gs (room gs (List.replicate fl.length 0)) (List.replicate fl.length 0)

theorem best_at (fl : List Int) (gs : List (List Int)) (hG : OkG gs) (hl : fl.length = gs.length) (hf : ∀ i, i < fl.length → 0 ≤ fl.getD i 0 ∧ fl.getD i 0 ≤ 1000) :
    FnAt Try.prog false 40 [.agg [.arr (.int .i64) fl, .arr (.sl (.int .i64)) gs]] (.own 0) [(0, .row 3 (.int .i64) true (bestL fl gs))] := by
  have hlen := hG.len
  refine FnAt.of_body tys_ok Try.func40 (by rfl) rfl Try.ntmps40 (by rw [Try.results40]) (by simp) ?_
  
  repeat' (first
 | refine W.seq ?_
 | refine W.block ?_
 | (refine W.region tys_ok [] ?_; conv => whnf)
 | (refine W.drawAll tys_ok [] mixed rfl ?_; conv => whnf)
 | (refine W.ret ?_; conv => whnf)
 | (refine W.skip ?_; conv => whnf)
 | (refine W.exit ?_; conv => whnf)
 | (refine W.cond rfl (fun hb => ?_) (fun hb => ?_) <;> (try simp only [minL, maxL, pickB, getD_int, getD_sl, getD_bool, len_int, len_sl, len_bool, decide_eq_true_eq, decide_eq_false_iff_not, Bool.and_eq_true, Bool.or_eq_true, Bool.and_eq_false_iff, Bool.or_eq_false_iff, Bool.not_eq_true', Bool.not_eq_false', Int.toNat_natCast, Int.ofNat_lt, Int.ofNat_le, not_true_eq_false, not_false_eq_true, or_false, false_or, and_true, true_and, or_true, true_or, and_false, false_and] at hb) <;> (try (first | (cases hb; done) | exact absurd hb (by decide) | (exfalso; omega))))
 | ((with_reducible refine And.intro ?_ ?_); (focus ((repeat' (first | rfl | exact Or.inl rfl | exact Or.inr rfl | (with_reducible refine And.intro ?_ ?_) | omega | (focus ((try simp only [minL, maxL, pickB, getD_int, getD_sl, getD_bool, len_int, len_sl, len_bool, decide_eq_true_eq, decide_eq_false_iff_not, Bool.and_eq_true, Bool.or_eq_true, Bool.and_eq_false_iff, Bool.or_eq_false_iff, Bool.not_eq_true', Bool.not_eq_false', Int.toNat_natCast, Int.ofNat_lt, Int.ofNat_le, not_true_eq_false, not_false_eq_true, or_false, false_or, and_true, true_and, or_true, true_or, and_false, false_and, InK, Path.imp] at *); omega)))); done)); (conv => whnf))
 | ((with_reducible refine And.intro (Side.out ?_) ?_); rotate_left; (conv => whnf))
 | (refine Exists.intro _ (And.intro rfl (And.intro rfl (And.intro ?_ ?_))) <;> (conv => whnf) <;> repeat' (first
 | exact trivial
 | rfl
 | (refine And.intro (fun h => h) (Or.inl ?_))
 | (refine And.intro (fun _ => rfl) (Or.inl ?_))
 | (refine And.intro (fun h => Bool.noConfusion h) (Or.inl ?_))
 | (with_reducible refine And.intro (fun _ => rfl) ?_)
 | ((with_reducible refine And.intro ?_ ?_) <;> conv => whnf)
 | (refine congrArg (Value.int _) ?_)
 | (refine congrArg (SV.arr _) ?_)
 | (refine congrArg Value.bool ?_)))); all_goals (try unfold Side)
  all_goals try (repeat' (first | rfl | exact Or.inl rfl | exact Or.inr rfl | (with_reducible refine And.intro ?_ ?_) | omega | (focus ((try simp only [minL, maxL, pickB, getD_int, getD_sl, getD_bool, len_int, len_sl, len_bool, decide_eq_true_eq, decide_eq_false_iff_not, Bool.and_eq_true, Bool.or_eq_true, Bool.and_eq_false_iff, Bool.or_eq_false_iff, Bool.not_eq_true', Bool.not_eq_false', Int.toNat_natCast, Int.ofNat_lt, Int.ofNat_le, not_true_eq_false, not_false_eq_true, or_false, false_or, and_true, true_and, or_true, true_or, and_false, false_and, InK, Path.imp] at *); omega))))
  refine W.loop (fun x : Nat × List Int => ⟨[(1, .padr 2000 0), (3, .own 11000)], [(2000, .box [.st false (.arr (.int .i64) fl), .st false (.arr (.sl (.int .i64)) gs)]), (11000, .row 3 (.int .i64) true x.2)]⟩)
    (fun x => x.2.length = gs.length ∧ (∀ i, i < gs.length → 0 ≤ x.2.getD i 0 ∧ x.2.getD i 0 ≤ 20) ∧ room gs x.2 = x.1 ∧ bestL fl gs = bestF fl gs x.1 x.2) (fun x => x.1) (room gs (List.replicate fl.length 0), List.replicate fl.length 0) ?_ ?_
  · refine ⟨⟨by simp [hl], ?_, rfl, rfl⟩, ?_⟩
    · intro i hi
      have : (List.replicate fl.length (0 : Int)).getD i 0 = 0 := by simp [List.getD_eq_getElem?_getD, List.getElem?_replicate]; split <;> rfl
      dsimp only
      rw [this]
      omega
    · refine ⟨rfl, ?_, ?_⟩ <;> (conv => whnf) <;> repeat' (first
 | exact trivial
 | rfl
 | (refine And.intro (fun h => h) (Or.inl ?_))
 | (refine And.intro (fun _ => rfl) (Or.inl ?_))
 | (refine And.intro (fun h => Bool.noConfusion h) (Or.inl ?_))
 | (with_reducible refine And.intro (fun _ => rfl) ?_)
 | ((with_reducible refine And.intro ?_ ?_) <;> conv => whnf)
 | (refine congrArg (Value.int _) ?_)
 | (refine congrArg (SV.arr _) ?_)
 | (refine congrArg Value.bool ?_))
  · rintro ⟨k, us⟩ ⟨hul, huv, hr, hbest⟩
    dsimp only at hul huv hr hbest ⊢
    repeat' (first
 | refine W.seq ?_
 | refine W.block ?_
 | (refine W.region tys_ok [] ?_; conv => whnf)
 | (refine W.drawAll tys_ok [] mixed rfl ?_; conv => whnf)
 | (refine W.ret ?_; conv => whnf)
 | (refine W.skip ?_; conv => whnf)
 | (refine W.exit ?_; conv => whnf)
 | (refine W.cond rfl (fun hb => ?_) (fun hb => ?_) <;> (try simp only [minL, maxL, pickB, getD_int, getD_sl, getD_bool, len_int, len_sl, len_bool, decide_eq_true_eq, decide_eq_false_iff_not, Bool.and_eq_true, Bool.or_eq_true, Bool.and_eq_false_iff, Bool.or_eq_false_iff, Bool.not_eq_true', Bool.not_eq_false', Int.toNat_natCast, Int.ofNat_lt, Int.ofNat_le, not_true_eq_false, not_false_eq_true, or_false, false_or, and_true, true_and, or_true, true_or, and_false, false_and] at hb) <;> (try (first | (cases hb; done) | exact absurd hb (by decide) | (exfalso; omega))))
 | ((with_reducible refine And.intro ?_ ?_); (focus ((repeat' (first | rfl | exact Or.inl rfl | exact Or.inr rfl | (with_reducible refine And.intro ?_ ?_) | omega | (focus ((try simp only [minL, maxL, pickB, getD_int, getD_sl, getD_bool, len_int, len_sl, len_bool, decide_eq_true_eq, decide_eq_false_iff_not, Bool.and_eq_true, Bool.or_eq_true, Bool.and_eq_false_iff, Bool.or_eq_false_iff, Bool.not_eq_true', Bool.not_eq_false', Int.toNat_natCast, Int.ofNat_lt, Int.ofNat_le, not_true_eq_false, not_false_eq_true, or_false, false_or, and_true, true_and, or_true, true_or, and_false, false_and, InK, Path.imp] at *); omega)))); done)); (conv => whnf))
 | ((with_reducible refine And.intro (Side.out ?_) ?_); rotate_left; (conv => whnf))
 | (refine Exists.intro _ (And.intro rfl (And.intro rfl (And.intro ?_ ?_))) <;> (conv => whnf) <;> repeat' (first
 | exact trivial
 | rfl
 | (refine And.intro (fun h => h) (Or.inl ?_))
 | (refine And.intro (fun _ => rfl) (Or.inl ?_))
 | (refine And.intro (fun h => Bool.noConfusion h) (Or.inl ?_))
 | (with_reducible refine And.intro (fun _ => rfl) ?_)
 | ((with_reducible refine And.intro ?_ ?_) <;> conv => whnf)
 | (refine congrArg (Value.int _) ?_)
 | (refine congrArg (SV.arr _) ?_)
 | (refine congrArg Value.bool ?_)))); all_goals (try unfold Side)
    all_goals try (repeat' (first | rfl | exact Or.inl rfl | exact Or.inr rfl | (with_reducible refine And.intro ?_ ?_) | omega | (focus ((try simp only [minL, maxL, pickB, getD_int, getD_sl, getD_bool, len_int, len_sl, len_bool, decide_eq_true_eq, decide_eq_false_iff_not, Bool.and_eq_true, Bool.or_eq_true, Bool.and_eq_false_iff, Bool.or_eq_false_iff, Bool.not_eq_true', Bool.not_eq_false', Int.toNat_natCast, Int.ofNat_lt, Int.ofNat_le, not_true_eq_false, not_false_eq_true, or_false, false_or, and_true, true_and, or_true, true_or, and_false, false_and, InK, Path.imp] at *); omega))))
    refine W.loop (fun i : Nat => ⟨[(1, .padr 2000 0), (3, .own 11000), (4, .lit (.int .i64 (pk fl gs us i))), (12, .st false (.arr (.sl (.int .i64)) gs)), (13, .lit (.int .i64 gs.length)), (14, .lit (.int .i64 i))],
        [(2000, .box [.st false (.arr (.int .i64) fl), .st false (.arr (.sl (.int .i64)) gs)]), (11000, .row 3 (.int .i64) true us)]⟩)
      (fun i => i ≤ gs.length) (fun i => gs.length - i) 0 ?_ ?_
    · refine ⟨by simp, ?_⟩
      refine ⟨rfl, ?_, ?_⟩ <;> (conv => whnf) <;> repeat' (first
 | exact trivial
 | rfl
 | (refine And.intro (fun h => h) (Or.inl ?_))
 | (refine And.intro (fun _ => rfl) (Or.inl ?_))
 | (refine And.intro (fun h => Bool.noConfusion h) (Or.inl ?_))
 | (with_reducible refine And.intro (fun _ => rfl) ?_)
 | ((with_reducible refine And.intro ?_ ?_) <;> conv => whnf)
 | (refine congrArg (Value.int _) ?_)
 | (refine congrArg (SV.arr _) ?_)
 | (refine congrArg Value.bool ?_))
    · intro i hi
      have hpk := pk_lt (fl := fl) (gs := gs) (us := us) i
      by_cases hil : i < gs.length
      · have hui := huv i hil
        have huat := huv (pk fl gs us i).toNat
        have hsl : (us.set i (us.getD i 0 + 1)).length = us.length := List.length_set
        have hset : ∀ j, j < (us.set i (us.getD i 0 + 1)).length → 0 ≤ (us.set i (us.getD i 0 + 1)).getD j 0 := by
          intro j hj
          rw [List.length_set] at hj
          rw [set_getD (by omega)]
          split
          · omega
          · exact (huv j (by omega)).1
        repeat' (first
 | refine W.seq ?_
 | refine W.block ?_
 | (refine W.region tys_ok [] ?_; conv => whnf)
 | (refine W.drawAll tys_ok [] mixed rfl ?_; conv => whnf)
 | (refine W.ret ?_; conv => whnf)
 | (refine W.skip ?_; conv => whnf)
 | (refine W.exit ?_; conv => whnf)
 | (refine ⟨false, _, _, _, _, rfl, Path.imp_of (with_at us i (by omega) (by omega) (by omega)), rfl, rfl, rfl, ?_⟩; conv => whnf)
 | (refine ⟨false, _, _, _, _, rfl, Path.imp_of (possible_at _ _ (by omega) (by omega) hf hset), rfl, rfl, rfl, ?_⟩; conv => whnf)
 | (refine W.cond rfl (fun hb => ?_) (fun hb => ?_) <;> (try simp only [minL, maxL, pickB, getD_int, getD_sl, getD_bool, len_int, len_sl, len_bool, decide_eq_true_eq, decide_eq_false_iff_not, Bool.and_eq_true, Bool.or_eq_true, Bool.and_eq_false_iff, Bool.or_eq_false_iff, Bool.not_eq_true', Bool.not_eq_false', Int.toNat_natCast, Int.ofNat_lt, Int.ofNat_le, not_true_eq_false, not_false_eq_true, or_false, false_or, and_true, true_and, or_true, true_or, and_false, false_and] at hb) <;> (try (first | (cases hb; done) | exact absurd hb (by decide) | (exfalso; omega))))
 | ((with_reducible refine And.intro ?_ ?_); (focus ((repeat' (first | rfl | exact Or.inl rfl | exact Or.inr rfl | (with_reducible refine And.intro ?_ ?_) | omega | (focus ((try simp only [minL, maxL, pickB, getD_int, getD_sl, getD_bool, len_int, len_sl, len_bool, decide_eq_true_eq, decide_eq_false_iff_not, Bool.and_eq_true, Bool.or_eq_true, Bool.and_eq_false_iff, Bool.or_eq_false_iff, Bool.not_eq_true', Bool.not_eq_false', Int.toNat_natCast, Int.ofNat_lt, Int.ofNat_le, not_true_eq_false, not_false_eq_true, or_false, false_or, and_true, true_and, or_true, true_or, and_false, false_and, InK, Path.imp] at *); omega)))); done)); (conv => whnf))
 | ((with_reducible refine And.intro (Side.out ?_) ?_); rotate_left; (conv => whnf))
 | (refine Exists.intro _ (And.intro rfl (And.intro rfl (And.intro ?_ ?_))) <;> (conv => whnf) <;> repeat' (first
 | exact trivial
 | rfl
 | (refine And.intro (fun h => h) (Or.inl ?_))
 | (refine And.intro (fun _ => rfl) (Or.inl ?_))
 | (refine And.intro (fun h => Bool.noConfusion h) (Or.inl ?_))
 | (with_reducible refine And.intro (fun _ => rfl) ?_)
 | ((with_reducible refine And.intro ?_ ?_) <;> conv => whnf)
 | (refine congrArg (Value.int _) ?_)
 | (refine congrArg (SV.arr _) ?_)
 | (refine congrArg Value.bool ?_)))); all_goals (try unfold Side)
        all_goals try (repeat' (first | rfl | exact Or.inl rfl | exact Or.inr rfl | (with_reducible refine And.intro ?_ ?_) | omega | (focus ((try simp only [minL, maxL, pickB, getD_int, getD_sl, getD_bool, len_int, len_sl, len_bool, decide_eq_true_eq, decide_eq_false_iff_not, Bool.and_eq_true, Bool.or_eq_true, Bool.and_eq_false_iff, Bool.or_eq_false_iff, Bool.not_eq_true', Bool.not_eq_false', Int.toNat_natCast, Int.ofNat_lt, Int.ofNat_le, not_true_eq_false, not_false_eq_true, or_false, false_or, and_true, true_and, or_true, true_or, and_false, false_and, InK, Path.imp] at *); omega))))
        · rename_i hb
          have hok : okB fl gs us (pk fl gs us i) i = true := by simp only [okB, Bool.and_eq_true, Bool.or_eq_true, decide_eq_true_eq]; exact hb
          have hp1 : (i : Int) = pk fl gs us (i + 1) := by simp only [pk, hok, cond_true]
          refine ⟨i + 1, ⟨by omega, by omega⟩, ?_⟩
          refine ⟨rfl, ?_, ?_⟩ <;> (conv => whnf) <;> repeat' (first
 | exact trivial
 | rfl
 | (refine And.intro (fun h => h) (Or.inl ?_))
 | (refine And.intro (fun _ => rfl) (Or.inl ?_))
 | (refine And.intro (fun h => Bool.noConfusion h) (Or.inl ?_))
 | (with_reducible refine And.intro (fun _ => rfl) ?_)
 | ((with_reducible refine And.intro ?_ ?_) <;> conv => whnf)
 | (refine congrArg (Value.int _) ?_)
 | (refine congrArg (SV.arr _) ?_)
 | (refine congrArg Value.bool ?_))
          exact hp1
        · rename_i hb
          have hok : okB fl gs us (pk fl gs us i) i = false := by simp only [okB, Bool.and_eq_false_iff, Bool.or_eq_false_iff, decide_eq_false_iff_not]; exact hb
          have hp1 : pk fl gs us i = pk fl gs us (i + 1) := by simp only [pk, hok, cond_false]
          refine ⟨i + 1, ⟨by omega, by omega⟩, ?_⟩
          refine ⟨rfl, ?_, ?_⟩ <;> (conv => whnf) <;> repeat' (first
 | exact trivial
 | rfl
 | (refine And.intro (fun h => h) (Or.inl ?_))
 | (refine And.intro (fun _ => rfl) (Or.inl ?_))
 | (refine And.intro (fun h => Bool.noConfusion h) (Or.inl ?_))
 | (with_reducible refine And.intro (fun _ => rfl) ?_)
 | ((with_reducible refine And.intro ?_ ?_) <;> conv => whnf)
 | (refine congrArg (Value.int _) ?_)
 | (refine congrArg (SV.arr _) ?_)
 | (refine congrArg Value.bool ?_))
          exact hp1
      · have hi' : i = gs.length := by omega
        subst hi'
        have huat := huv (pk fl gs us gs.length).toNat
        repeat' (first
 | refine W.seq ?_
 | refine W.block ?_
 | (refine W.region tys_ok [] ?_; conv => whnf)
 | (refine W.drawAll tys_ok [] mixed rfl ?_; conv => whnf)
 | (refine W.ret ?_; conv => whnf)
 | (refine W.skip ?_; conv => whnf)
 | (refine W.exit ?_; conv => whnf)
 | (refine ⟨false, _, _, _, _, rfl, Path.imp_of (with_atI us (pk fl gs us gs.length) (by omega) (by omega) (by omega) (by omega)), rfl, rfl, rfl, ?_⟩; conv => whnf)
 | (refine W.cond rfl (fun hb => ?_) (fun hb => ?_) <;> (try simp only [minL, maxL, pickB, getD_int, getD_sl, getD_bool, len_int, len_sl, len_bool, decide_eq_true_eq, decide_eq_false_iff_not, Bool.and_eq_true, Bool.or_eq_true, Bool.and_eq_false_iff, Bool.or_eq_false_iff, Bool.not_eq_true', Bool.not_eq_false', Int.toNat_natCast, Int.ofNat_lt, Int.ofNat_le, not_true_eq_false, not_false_eq_true, or_false, false_or, and_true, true_and, or_true, true_or, and_false, false_and] at hb) <;> (try (first | (cases hb; done) | exact absurd hb (by decide) | (exfalso; omega))))
 | ((with_reducible refine And.intro ?_ ?_); (focus ((repeat' (first | rfl | exact Or.inl rfl | exact Or.inr rfl | (with_reducible refine And.intro ?_ ?_) | omega | (focus ((try simp only [minL, maxL, pickB, getD_int, getD_sl, getD_bool, len_int, len_sl, len_bool, decide_eq_true_eq, decide_eq_false_iff_not, Bool.and_eq_true, Bool.or_eq_true, Bool.and_eq_false_iff, Bool.or_eq_false_iff, Bool.not_eq_true', Bool.not_eq_false', Int.toNat_natCast, Int.ofNat_lt, Int.ofNat_le, not_true_eq_false, not_false_eq_true, or_false, false_or, and_true, true_and, or_true, true_or, and_false, false_and, InK, Path.imp] at *); omega)))); done)); (conv => whnf))
 | ((with_reducible refine And.intro (Side.out ?_) ?_); rotate_left; (conv => whnf))
 | (refine Exists.intro _ (And.intro rfl (And.intro rfl (And.intro ?_ ?_))) <;> (conv => whnf) <;> repeat' (first
 | exact trivial
 | rfl
 | (refine And.intro (fun h => h) (Or.inl ?_))
 | (refine And.intro (fun _ => rfl) (Or.inl ?_))
 | (refine And.intro (fun h => Bool.noConfusion h) (Or.inl ?_))
 | (with_reducible refine And.intro (fun _ => rfl) ?_)
 | ((with_reducible refine And.intro ?_ ?_) <;> conv => whnf)
 | (refine congrArg (Value.int _) ?_)
 | (refine congrArg (SV.arr _) ?_)
 | (refine congrArg Value.bool ?_)))); all_goals (try unfold Side)
        all_goals try (repeat' (first | rfl | exact Or.inl rfl | exact Or.inr rfl | (with_reducible refine And.intro ?_ ?_) | omega | (focus ((try simp only [minL, maxL, pickB, getD_int, getD_sl, getD_bool, len_int, len_sl, len_bool, decide_eq_true_eq, decide_eq_false_iff_not, Bool.and_eq_true, Bool.or_eq_true, Bool.and_eq_false_iff, Bool.or_eq_false_iff, Bool.not_eq_true', Bool.not_eq_false', Int.toNat_natCast, Int.ofNat_lt, Int.ofNat_le, not_true_eq_false, not_false_eq_true, or_false, false_or, and_true, true_and, or_true, true_or, and_false, false_and, InK, Path.imp] at *); omega))))
        · have : bestF fl gs k us = us := by
            cases k with
            | zero => rfl
            | succ k => simp only [bestF, hb, decide_true, cond_true]
          exact (hbest.trans this).symm
        · have h3 := room_set (gs := gs) (us := us) (i := (pk fl gs us gs.length).toNat) (by omega) (by omega) (by omega) (by omega)
          cases k with
          | zero => omega
          | succ k =>
            refine ⟨(k, us.set (pk fl gs us gs.length).toNat (us.getD (pk fl gs us gs.length).toNat 0 + 1)), ⟨⟨?_, ?_, ?_, ?_⟩, ?_⟩, ?_⟩
            · dsimp only; rw [List.length_set]; exact hul
            · intro j hj
              dsimp only
              rw [set_getD (by omega)]
              have := hG.lens (pk fl gs us gs.length).toNat (by omega)
              split
              · omega
              · exact huv j hj
            · dsimp only; omega
            · dsimp only
              rw [hbest]
              have : decide (pk fl gs us gs.length < 0) = false := by simp only [decide_eq_false_iff_not]; exact hb
              simp only [bestF, this, cond_false]
            · dsimp only; omega
            · refine ⟨rfl, ?_, ?_⟩ <;> (conv => whnf) <;> repeat' (first
 | exact trivial
 | rfl
 | (refine And.intro (fun h => h) (Or.inl ?_))
 | (refine And.intro (fun _ => rfl) (Or.inl ?_))
 | (refine And.intro (fun h => Bool.noConfusion h) (Or.inl ?_))
 | (with_reducible refine And.intro (fun _ => rfl) ?_)
 | ((with_reducible refine And.intro ?_ ?_) <;> conv => whnf)
 | (refine congrArg (Value.int _) ?_)
 | (refine congrArg (SV.arr _) ?_)
 | (refine congrArg Value.bool ?_))
end Go.Proofs.Ytohfemfgnohhdaa
/- Reading a river: what the function returns. No condition. -/
namespace Go.Proofs.Ytohfemfgnohhdaa
open Go Go.Vc
set_option linter.unusedVariables false
set_option linter.unusedSimpArgs false

def within (us : List Int) (m : Int) : Bool := !(us.any fun x => decide (x < 0) || decide (m < x))
def desc : List Int → Bool
  | a :: b :: r => !decide (a < b) && desc (b :: r)
  | _ => true
def gOk (l : List Int) : Bool := decide (l.length ≤ 20) && within l 1000 && desc l
def riverOk (fl : List Int) (gs : List (List Int)) : Bool := decide (1 ≤ fl.length) && decide (fl.length ≤ 8) && decide (gs.length = fl.length) && within fl 30 && gs.all gOk

theorem all_drop {α : Type} (d : α) (p : α → Bool) {xs : List α} {i : Nat} (h : i < xs.length) : (xs.drop i).all p = (p (xs.getD i d) && (xs.drop (i + 1)).all p) := by
  rw [drop_getD d h]; rfl
theorem desc_drop {xs : List Int} {i : Nat} (h : i + 1 < xs.length) : desc (xs.drop i) = (!decide (xs.getD i 0 < xs.getD (i + 1) 0) && desc (xs.drop (i + 1))) := by
  rw [drop_getD 0 (by omega : i < xs.length), drop_getD 0 h]
  rfl

theorem read_at (fl : List Int) (gs : List (List Int)) (h1 : fl.length ≤ 1000) (h2 : gs.length ≤ 1000) (h3 : ∀ i, i < gs.length → (gs.getD i []).length ≤ 1000) :
    FnAt Try.prog true 39 [.arr (.int .i64) fl, .arr (.sl (.int .i64)) gs] (.tup [.strct [.st true (.arr (.int .i64) (cond (riverOk fl gs) fl [])), .st true (.arr (.sl (.int .i64)) (cond (riverOk fl gs) gs []))], .lit (.bool (riverOk fl gs))]) [] := by
  refine FnAt.of_body tys_ok Try.func39 (by rfl) rfl Try.ntmps39 (by rw [Try.results39]) (by simp) ?_
  
  repeat' (first
 | refine W.seq ?_
 | refine W.block ?_
 | (refine W.region tys_ok [] ?_; conv => whnf)
 | (refine W.drawAll tys_ok [] mixed rfl ?_; conv => whnf)
 | (refine W.ret ?_; conv => whnf)
 | (refine W.skip ?_; conv => whnf)
 | (refine W.exit ?_; conv => whnf)
 | (refine call_at (al := false) (within_at _ _ h1) rfl rfl rfl rfl ?_; conv => whnf)

    | (refine W.cond rfl (fun hb => ?_) (fun hb => ?_) <;> (try simp only [minL, maxL, pickB, getD_int, getD_sl, getD_bool, len_int, len_sl, len_bool, decide_eq_true_eq, decide_eq_false_iff_not, Bool.and_eq_true, Bool.or_eq_true, Bool.and_eq_false_iff, Bool.or_eq_false_iff, Bool.not_eq_true', Bool.not_eq_false', Bool.true_eq_false, Bool.false_eq_true, Int.toNat_natCast, Int.ofNat_lt, Int.ofNat_le, not_true_eq_false, not_false_eq_true, or_false, false_or, and_true, true_and, or_true, true_or, and_false, false_and] at hb) <;> (try (first | (cases hb; done) | exact absurd hb (by decide) | (exfalso; omega))))
    | ((with_reducible refine And.intro ?_ ?_); (focus ((repeat' (first | (with_reducible rfl) | (with_reducible refine And.intro ?_ ?_) | omega | rfl | exact Or.inl rfl | exact Or.inr rfl | (focus ((try simp only [minL, maxL, pickB, getD_int, getD_sl, getD_bool, len_int, len_sl, len_bool, decide_eq_true_eq, decide_eq_false_iff_not, Bool.and_eq_true, Bool.or_eq_true, Bool.and_eq_false_iff, Bool.or_eq_false_iff, Bool.not_eq_true', Bool.not_eq_false', Bool.true_eq_false, Bool.false_eq_true, Int.toNat_natCast, Int.ofNat_lt, Int.ofNat_le, not_true_eq_false, not_false_eq_true, or_false, false_or, and_true, true_and, or_true, true_or, and_false, false_and, InK, Path.imp, List.length_replicate, List.length_set, List.length_append, List.length_cons, List.length_nil] at *); omega)) | (refine app_le rfl ?_; omega))); done)); (conv => whnf))
    | ((with_reducible refine And.intro (Side.out ?_) ?_); rotate_left; (conv => whnf))
    | (refine retF1 ?_ <;> (conv => whnf) <;> repeat' (first
 | exact trivial
 | (with_reducible rfl)
 | ((with_reducible refine And.intro ?_ ?_) <;> conv => whnf)
 | omega
 | rfl
 | (refine congrArg (SV.arr _) ?_)
 | (refine congrArg (Value.int _) ?_)
 | (refine congrArg Value.bool ?_)))
 | (refine retF2 ?_ <;> (conv => whnf) <;> repeat' (first
 | exact trivial
 | (with_reducible rfl)
 | ((with_reducible refine And.intro ?_ ?_) <;> conv => whnf)
 | omega
 | rfl
 | (refine congrArg (SV.arr _) ?_)
 | (refine congrArg (Value.int _) ?_)
 | (refine congrArg Value.bool ?_)))); all_goals (try unfold Side)
  all_goals try (repeat' (first | (with_reducible rfl) | (with_reducible refine And.intro ?_ ?_) | omega | rfl | exact Or.inl rfl | exact Or.inr rfl | (focus ((try simp only [minL, maxL, pickB, getD_int, getD_sl, getD_bool, len_int, len_sl, len_bool, decide_eq_true_eq, decide_eq_false_iff_not, Bool.and_eq_true, Bool.or_eq_true, Bool.and_eq_false_iff, Bool.or_eq_false_iff, Bool.not_eq_true', Bool.not_eq_false', Bool.true_eq_false, Bool.false_eq_true, Int.toNat_natCast, Int.ofNat_lt, Int.ofNat_le, not_true_eq_false, not_false_eq_true, or_false, false_or, and_true, true_and, or_true, true_or, and_false, false_and, InK, Path.imp, List.length_replicate, List.length_set, List.length_append, List.length_cons, List.length_nil] at *); omega)) | (refine app_le rfl ?_; omega)))
  iterate 3
    · have hbad : riverOk fl gs = false := by
        simp only [riverOk, within, Bool.and_eq_false_iff, decide_eq_false_iff_not, Bool.not_eq_false']
        rcases hb with ((h | h) | h) | h
        · exact .inl (.inl (.inl (.inl (by omega))))
        · exact .inl (.inl (.inl (.inr (by omega))))
        · exact .inl (.inl (.inr (by omega)))
        · exact .inl (.inr h)
      rw [hbad] <;> rfl
  have hgood : riverOk fl gs = gs.all gOk := by
    have e1 : decide (1 ≤ fl.length) = true := by simp only [decide_eq_true_eq]; omega
    have e2 : decide (fl.length ≤ 8) = true := by simp only [decide_eq_true_eq]; omega
    have e3 : decide (gs.length = fl.length) = true := by simp only [decide_eq_true_eq]; omega
    simp only [riverOk, within, e1, e2, e3, hb.2, Bool.not_false, Bool.true_and]
  refine W.loop (fun i : Nat => ⟨[(4, .padr 5000 0), (0, .st true (.arr (.int .i64) fl)), (1, .st true (.arr (.sl (.int .i64)) gs)), (30, .st true (.arr (.sl (.int .i64)) gs)), (31, .lit (.int .i64 gs.length)), (32, .lit (.int .i64 i))],
      [(5000, .box [.lit (.slice none 0 0), .lit (.slice none 0 0)])]⟩)
    (fun i => i ≤ gs.length ∧ gs.all gOk = (gs.drop i).all gOk) (fun i => gs.length - i) 0 ?_ ?_
  · refine ⟨by simp, ?_⟩
    refine subF.ok ?_ <;> (conv => whnf) <;> repeat' (first
 | exact trivial
 | (with_reducible rfl)
 | ((with_reducible refine And.intro ?_ ?_) <;> conv => whnf)
 | omega
 | rfl
 | (refine congrArg (SV.arr _) ?_)
 | (refine congrArg (Value.int _) ?_)
 | (refine congrArg Value.bool ?_))
  · rintro i ⟨hi, hp⟩
    have h3i := h3 i
    by_cases hil : i < gs.length
    · rw [all_drop [] gOk hil, ← hgood] at hp
      have hbad : gOk (gs.getD i []) = false → riverOk fl gs = false := fun h => by rw [hp, h]; rfl
      repeat' (first
 | refine W.seq ?_
 | refine W.block ?_
 | (refine W.region tys_ok [] ?_; conv => whnf)
 | (refine W.drawAll tys_ok [] mixed rfl ?_; conv => whnf)
 | (refine W.ret ?_; conv => whnf)
 | (refine W.skip ?_; conv => whnf)
 | (refine W.exit ?_; conv => whnf)
 | (refine call_at (al := false) (within_at _ _ (h3 i hil)) rfl rfl rfl rfl ?_; conv => whnf)

    | (refine W.cond rfl (fun hb => ?_) (fun hb => ?_) <;> (try simp only [minL, maxL, pickB, getD_int, getD_sl, getD_bool, len_int, len_sl, len_bool, decide_eq_true_eq, decide_eq_false_iff_not, Bool.and_eq_true, Bool.or_eq_true, Bool.and_eq_false_iff, Bool.or_eq_false_iff, Bool.not_eq_true', Bool.not_eq_false', Bool.true_eq_false, Bool.false_eq_true, Int.toNat_natCast, Int.ofNat_lt, Int.ofNat_le, not_true_eq_false, not_false_eq_true, or_false, false_or, and_true, true_and, or_true, true_or, and_false, false_and] at hb) <;> (try (first | (cases hb; done) | exact absurd hb (by decide) | (exfalso; omega))))
    | ((with_reducible refine And.intro ?_ ?_); (focus ((repeat' (first | (with_reducible rfl) | (with_reducible refine And.intro ?_ ?_) | omega | rfl | exact Or.inl rfl | exact Or.inr rfl | (focus ((try simp only [minL, maxL, pickB, getD_int, getD_sl, getD_bool, len_int, len_sl, len_bool, decide_eq_true_eq, decide_eq_false_iff_not, Bool.and_eq_true, Bool.or_eq_true, Bool.and_eq_false_iff, Bool.or_eq_false_iff, Bool.not_eq_true', Bool.not_eq_false', Bool.true_eq_false, Bool.false_eq_true, Int.toNat_natCast, Int.ofNat_lt, Int.ofNat_le, not_true_eq_false, not_false_eq_true, or_false, false_or, and_true, true_and, or_true, true_or, and_false, false_and, InK, Path.imp, List.length_replicate, List.length_set, List.length_append, List.length_cons, List.length_nil] at *); omega)) | (refine app_le rfl ?_; omega))); done)); (conv => whnf))
    | ((with_reducible refine And.intro (Side.out ?_) ?_); rotate_left; (conv => whnf))
    | (refine retF1 ?_ <;> (conv => whnf) <;> repeat' (first
 | exact trivial
 | (with_reducible rfl)
 | ((with_reducible refine And.intro ?_ ?_) <;> conv => whnf)
 | omega
 | rfl
 | (refine congrArg (SV.arr _) ?_)
 | (refine congrArg (Value.int _) ?_)
 | (refine congrArg Value.bool ?_)))
 | (refine retF2 ?_ <;> (conv => whnf) <;> repeat' (first
 | exact trivial
 | (with_reducible rfl)
 | ((with_reducible refine And.intro ?_ ?_) <;> conv => whnf)
 | omega
 | rfl
 | (refine congrArg (SV.arr _) ?_)
 | (refine congrArg (Value.int _) ?_)
 | (refine congrArg Value.bool ?_)))); all_goals (try unfold Side)
      all_goals try (repeat' (first | (with_reducible rfl) | (with_reducible refine And.intro ?_ ?_) | omega | rfl | exact Or.inl rfl | exact Or.inr rfl | (focus ((try simp only [minL, maxL, pickB, getD_int, getD_sl, getD_bool, len_int, len_sl, len_bool, decide_eq_true_eq, decide_eq_false_iff_not, Bool.and_eq_true, Bool.or_eq_true, Bool.and_eq_false_iff, Bool.or_eq_false_iff, Bool.not_eq_true', Bool.not_eq_false', Bool.true_eq_false, Bool.false_eq_true, Int.toNat_natCast, Int.ofNat_lt, Int.ofNat_le, not_true_eq_false, not_false_eq_true, or_false, false_or, and_true, true_and, or_true, true_or, and_false, false_and, InK, Path.imp, List.length_replicate, List.length_set, List.length_append, List.length_cons, List.length_nil] at *); omega)) | (refine app_le rfl ?_; omega)))
      iterate 3
        · have : riverOk fl gs = false := by
            refine hbad ?_
            simp only [gOk, within, Bool.and_eq_false_iff, decide_eq_false_iff_not, Bool.not_eq_false']
            rcases hb with h | h
            · exact .inl (.inl (by omega))
            · exact .inl (.inr h)
          rw [this] <;> rfl
      have hgd : gOk (gs.getD i []) = desc (gs.getD i []) := by
        have e1 : decide ((gs.getD i []).length ≤ 20) = true := by simp only [decide_eq_true_eq]; omega
        simp only [gOk, within, e1, hb.2, Bool.not_false, Bool.true_and]
      rw [hgd] at hbad hp
      refine W.loop (fun j : Nat => ⟨[(4, .padr 5000 0), (0, .st true (.arr (.int .i64) fl)), (1, .st true (.arr (.sl (.int .i64)) gs)), (30, .st true (.arr (.sl (.int .i64)) gs)), (31, .lit (.int .i64 gs.length)), (32, .lit (.int .i64 i)),
          (7, .st true (.arr (.int .i64) (gs.getD i []))), (8, .lit (.int .i64 j))], [(5000, .box [.lit (.slice none 0 0), .lit (.slice none 0 0)])]⟩)
        (fun j => 1 ≤ j ∧ j ≤ 1001 ∧ (j = 1 ∨ j ≤ (gs.getD i []).length) ∧ desc (gs.getD i []) = desc ((gs.getD i []).drop (j - 1))) (fun j => 1001 - j) 1 ?_ ?_
      · refine ⟨by simp, ?_⟩
        refine subF.ok ?_ <;> (conv => whnf) <;> repeat' (first
 | exact trivial
 | (with_reducible rfl)
 | ((with_reducible refine And.intro ?_ ?_) <;> conv => whnf)
 | omega
 | rfl
 | (refine congrArg (SV.arr _) ?_)
 | (refine congrArg (Value.int _) ?_)
 | (refine congrArg Value.bool ?_))
      · rintro j ⟨hj1, hj2, hj3, hd⟩
        by_cases hjl : j < (gs.getD i []).length
        · rw [desc_drop (by omega : j - 1 + 1 < (gs.getD i []).length), show j - 1 + 1 = j from by omega] at hd
          have e0 : ((j : Int) - 1).toNat = j - 1 := by omega
          repeat' (first
 | refine W.seq ?_
 | refine W.block ?_
 | (refine W.region tys_ok [] ?_; conv => whnf)
 | (refine W.drawAll tys_ok [] mixed rfl ?_; conv => whnf)
 | (refine W.ret ?_; conv => whnf)
 | (refine W.skip ?_; conv => whnf)
 | (refine W.exit ?_; conv => whnf)

    | (refine W.cond rfl (fun hb => ?_) (fun hb => ?_) <;> (try simp only [minL, maxL, pickB, getD_int, getD_sl, getD_bool, len_int, len_sl, len_bool, decide_eq_true_eq, decide_eq_false_iff_not, Bool.and_eq_true, Bool.or_eq_true, Bool.and_eq_false_iff, Bool.or_eq_false_iff, Bool.not_eq_true', Bool.not_eq_false', Bool.true_eq_false, Bool.false_eq_true, Int.toNat_natCast, Int.ofNat_lt, Int.ofNat_le, not_true_eq_false, not_false_eq_true, or_false, false_or, and_true, true_and, or_true, true_or, and_false, false_and] at hb) <;> (try (first | (cases hb; done) | exact absurd hb (by decide) | (exfalso; omega))))
    | ((with_reducible refine And.intro ?_ ?_); (focus ((repeat' (first | (with_reducible rfl) | (with_reducible refine And.intro ?_ ?_) | omega | rfl | exact Or.inl rfl | exact Or.inr rfl | (focus ((try simp only [minL, maxL, pickB, getD_int, getD_sl, getD_bool, len_int, len_sl, len_bool, decide_eq_true_eq, decide_eq_false_iff_not, Bool.and_eq_true, Bool.or_eq_true, Bool.and_eq_false_iff, Bool.or_eq_false_iff, Bool.not_eq_true', Bool.not_eq_false', Bool.true_eq_false, Bool.false_eq_true, Int.toNat_natCast, Int.ofNat_lt, Int.ofNat_le, not_true_eq_false, not_false_eq_true, or_false, false_or, and_true, true_and, or_true, true_or, and_false, false_and, InK, Path.imp, List.length_replicate, List.length_set, List.length_append, List.length_cons, List.length_nil] at *); omega)) | (refine app_le rfl ?_; omega))); done)); (conv => whnf))
    | ((with_reducible refine And.intro (Side.out ?_) ?_); rotate_left; (conv => whnf))
    | (refine retF1 ?_ <;> (conv => whnf) <;> repeat' (first
 | exact trivial
 | (with_reducible rfl)
 | ((with_reducible refine And.intro ?_ ?_) <;> conv => whnf)
 | omega
 | rfl
 | (refine congrArg (SV.arr _) ?_)
 | (refine congrArg (Value.int _) ?_)
 | (refine congrArg Value.bool ?_)))
 | (refine retF2 ?_ <;> (conv => whnf) <;> repeat' (first
 | exact trivial
 | (with_reducible rfl)
 | ((with_reducible refine And.intro ?_ ?_) <;> conv => whnf)
 | omega
 | rfl
 | (refine congrArg (SV.arr _) ?_)
 | (refine congrArg (Value.int _) ?_)
 | (refine congrArg Value.bool ?_)))); all_goals (try unfold Side)
          all_goals try (repeat' (first | (with_reducible rfl) | (with_reducible refine And.intro ?_ ?_) | omega | rfl | exact Or.inl rfl | exact Or.inr rfl | (focus ((try simp only [minL, maxL, pickB, getD_int, getD_sl, getD_bool, len_int, len_sl, len_bool, decide_eq_true_eq, decide_eq_false_iff_not, Bool.and_eq_true, Bool.or_eq_true, Bool.and_eq_false_iff, Bool.or_eq_false_iff, Bool.not_eq_true', Bool.not_eq_false', Bool.true_eq_false, Bool.false_eq_true, Int.toNat_natCast, Int.ofNat_lt, Int.ofNat_le, not_true_eq_false, not_false_eq_true, or_false, false_or, and_true, true_and, or_true, true_or, and_false, false_and, InK, Path.imp, List.length_replicate, List.length_set, List.length_append, List.length_cons, List.length_nil] at *); omega)) | (refine app_le rfl ?_; omega)))
          iterate 3
            · have h5 : riverOk fl gs = false := by
                refine hbad ?_
                rw [e0] at hb
                rw [hd]
                simp only [hb, decide_true, Bool.not_true, Bool.false_and]
              rw [h5] <;> rfl
          refine ⟨j + 1, ⟨⟨by omega, by omega, by omega, ?_⟩, by omega⟩, ?_⟩
          · rw [e0] at hb
            rw [hd]
            simp only [hb, decide_false, Bool.not_false, Bool.true_and]
            rfl
          · refine subF.ok ?_ <;> (conv => whnf) <;> repeat' (first
 | exact trivial
 | (with_reducible rfl)
 | ((with_reducible refine And.intro ?_ ?_) <;> conv => whnf)
 | omega
 | rfl
 | (refine congrArg (SV.arr _) ?_)
 | (refine congrArg (Value.int _) ?_)
 | (refine congrArg Value.bool ?_))
        · have hd1 : desc ((gs.getD i []).drop (j - 1)) = true := by
            match h : (gs.getD i []).drop (j - 1) with
            | [] => rfl
            | [_] => rfl
            | a :: b :: r =>
              have := congrArg List.length h
              simp only [List.length_drop, List.length_cons] at this
              omega
          rw [hd, hd1] at hp
          repeat' (first
 | refine W.seq ?_
 | refine W.block ?_
 | (refine W.region tys_ok [] ?_; conv => whnf)
 | (refine W.drawAll tys_ok [] mixed rfl ?_; conv => whnf)
 | (refine W.ret ?_; conv => whnf)
 | (refine W.skip ?_; conv => whnf)
 | (refine W.exit ?_; conv => whnf)

    | (refine W.cond rfl (fun hb => ?_) (fun hb => ?_) <;> (try simp only [minL, maxL, pickB, getD_int, getD_sl, getD_bool, len_int, len_sl, len_bool, decide_eq_true_eq, decide_eq_false_iff_not, Bool.and_eq_true, Bool.or_eq_true, Bool.and_eq_false_iff, Bool.or_eq_false_iff, Bool.not_eq_true', Bool.not_eq_false', Bool.true_eq_false, Bool.false_eq_true, Int.toNat_natCast, Int.ofNat_lt, Int.ofNat_le, not_true_eq_false, not_false_eq_true, or_false, false_or, and_true, true_and, or_true, true_or, and_false, false_and] at hb) <;> (try (first | (cases hb; done) | exact absurd hb (by decide) | (exfalso; omega))))
    | ((with_reducible refine And.intro ?_ ?_); (focus ((repeat' (first | (with_reducible rfl) | (with_reducible refine And.intro ?_ ?_) | omega | rfl | exact Or.inl rfl | exact Or.inr rfl | (focus ((try simp only [minL, maxL, pickB, getD_int, getD_sl, getD_bool, len_int, len_sl, len_bool, decide_eq_true_eq, decide_eq_false_iff_not, Bool.and_eq_true, Bool.or_eq_true, Bool.and_eq_false_iff, Bool.or_eq_false_iff, Bool.not_eq_true', Bool.not_eq_false', Bool.true_eq_false, Bool.false_eq_true, Int.toNat_natCast, Int.ofNat_lt, Int.ofNat_le, not_true_eq_false, not_false_eq_true, or_false, false_or, and_true, true_and, or_true, true_or, and_false, false_and, InK, Path.imp, List.length_replicate, List.length_set, List.length_append, List.length_cons, List.length_nil] at *); omega)) | (refine app_le rfl ?_; omega))); done)); (conv => whnf))
    | ((with_reducible refine And.intro (Side.out ?_) ?_); rotate_left; (conv => whnf))
    | (refine retF1 ?_ <;> (conv => whnf) <;> repeat' (first
 | exact trivial
 | (with_reducible rfl)
 | ((with_reducible refine And.intro ?_ ?_) <;> conv => whnf)
 | omega
 | rfl
 | (refine congrArg (SV.arr _) ?_)
 | (refine congrArg (Value.int _) ?_)
 | (refine congrArg Value.bool ?_)))
 | (refine retF2 ?_ <;> (conv => whnf) <;> repeat' (first
 | exact trivial
 | (with_reducible rfl)
 | ((with_reducible refine And.intro ?_ ?_) <;> conv => whnf)
 | omega
 | rfl
 | (refine congrArg (SV.arr _) ?_)
 | (refine congrArg (Value.int _) ?_)
 | (refine congrArg Value.bool ?_)))); all_goals (try unfold Side)
          all_goals try (repeat' (first | (with_reducible rfl) | (with_reducible refine And.intro ?_ ?_) | omega | rfl | exact Or.inl rfl | exact Or.inr rfl | (focus ((try simp only [minL, maxL, pickB, getD_int, getD_sl, getD_bool, len_int, len_sl, len_bool, decide_eq_true_eq, decide_eq_false_iff_not, Bool.and_eq_true, Bool.or_eq_true, Bool.and_eq_false_iff, Bool.or_eq_false_iff, Bool.not_eq_true', Bool.not_eq_false', Bool.true_eq_false, Bool.false_eq_true, Int.toNat_natCast, Int.ofNat_lt, Int.ofNat_le, not_true_eq_false, not_false_eq_true, or_false, false_or, and_true, true_and, or_true, true_or, and_false, false_and, InK, Path.imp, List.length_replicate, List.length_set, List.length_append, List.length_cons, List.length_nil] at *); omega)) | (refine app_le rfl ?_; omega)))
          refine ⟨i + 1, ⟨⟨by omega, ?_⟩, by omega⟩, ?_⟩
          · rw [← hgood, hp]; rfl
          · refine subF.ok ?_ <;> (conv => whnf) <;> repeat' (first
 | exact trivial
 | (with_reducible rfl)
 | ((with_reducible refine And.intro ?_ ?_) <;> conv => whnf)
 | omega
 | rfl
 | (refine congrArg (SV.arr _) ?_)
 | (refine congrArg (Value.int _) ?_)
 | (refine congrArg Value.bool ?_))
    · have hi' : i = gs.length := by omega
      subst hi'
      rw [List.drop_length] at hp
      have hok : riverOk fl gs = true := by rw [hgood, hp]; rfl
      repeat' (first
 | refine W.seq ?_
 | refine W.block ?_
 | (refine W.region tys_ok [] ?_; conv => whnf)
 | (refine W.drawAll tys_ok [] mixed rfl ?_; conv => whnf)
 | (refine W.ret ?_; conv => whnf)
 | (refine W.skip ?_; conv => whnf)
 | (refine W.exit ?_; conv => whnf)

    | (refine W.cond rfl (fun hb => ?_) (fun hb => ?_) <;> (try simp only [minL, maxL, pickB, getD_int, getD_sl, getD_bool, len_int, len_sl, len_bool, decide_eq_true_eq, decide_eq_false_iff_not, Bool.and_eq_true, Bool.or_eq_true, Bool.and_eq_false_iff, Bool.or_eq_false_iff, Bool.not_eq_true', Bool.not_eq_false', Bool.true_eq_false, Bool.false_eq_true, Int.toNat_natCast, Int.ofNat_lt, Int.ofNat_le, not_true_eq_false, not_false_eq_true, or_false, false_or, and_true, true_and, or_true, true_or, and_false, false_and] at hb) <;> (try (first | (cases hb; done) | exact absurd hb (by decide) | (exfalso; omega))))
    | ((with_reducible refine And.intro ?_ ?_); (focus ((repeat' (first | (with_reducible rfl) | (with_reducible refine And.intro ?_ ?_) | omega | rfl | exact Or.inl rfl | exact Or.inr rfl | (focus ((try simp only [minL, maxL, pickB, getD_int, getD_sl, getD_bool, len_int, len_sl, len_bool, decide_eq_true_eq, decide_eq_false_iff_not, Bool.and_eq_true, Bool.or_eq_true, Bool.and_eq_false_iff, Bool.or_eq_false_iff, Bool.not_eq_true', Bool.not_eq_false', Bool.true_eq_false, Bool.false_eq_true, Int.toNat_natCast, Int.ofNat_lt, Int.ofNat_le, not_true_eq_false, not_false_eq_true, or_false, false_or, and_true, true_and, or_true, true_or, and_false, false_and, InK, Path.imp, List.length_replicate, List.length_set, List.length_append, List.length_cons, List.length_nil] at *); omega)) | (refine app_le rfl ?_; omega))); done)); (conv => whnf))
    | ((with_reducible refine And.intro (Side.out ?_) ?_); rotate_left; (conv => whnf))
    | (refine retF1 ?_ <;> (conv => whnf) <;> repeat' (first
 | exact trivial
 | (with_reducible rfl)
 | ((with_reducible refine And.intro ?_ ?_) <;> conv => whnf)
 | omega
 | rfl
 | (refine congrArg (SV.arr _) ?_)
 | (refine congrArg (Value.int _) ?_)
 | (refine congrArg Value.bool ?_)))
 | (refine retF2 ?_ <;> (conv => whnf) <;> repeat' (first
 | exact trivial
 | (with_reducible rfl)
 | ((with_reducible refine And.intro ?_ ?_) <;> conv => whnf)
 | omega
 | rfl
 | (refine congrArg (SV.arr _) ?_)
 | (refine congrArg (Value.int _) ?_)
 | (refine congrArg Value.bool ?_)))); all_goals (try unfold Side)
      all_goals try (repeat' (first | (with_reducible rfl) | (with_reducible refine And.intro ?_ ?_) | omega | rfl | exact Or.inl rfl | exact Or.inr rfl | (focus ((try simp only [minL, maxL, pickB, getD_int, getD_sl, getD_bool, len_int, len_sl, len_bool, decide_eq_true_eq, decide_eq_false_iff_not, Bool.and_eq_true, Bool.or_eq_true, Bool.and_eq_false_iff, Bool.or_eq_false_iff, Bool.not_eq_true', Bool.not_eq_false', Bool.true_eq_false, Bool.false_eq_true, Int.toNat_natCast, Int.ofNat_lt, Int.ofNat_le, not_true_eq_false, not_false_eq_true, or_false, false_or, and_true, true_and, or_true, true_or, and_false, false_and, InK, Path.imp, List.length_replicate, List.length_set, List.length_append, List.length_cons, List.length_nil] at *); omega)) | (refine app_le rfl ?_; omega)))
      all_goals (rw [hok] <;> rfl)
end Go.Proofs.Ytohfemfgnohhdaa
/- Best and Shares: what they return. No condition. -/
namespace Go.Proofs.Ytohfemfgnohhdaa
open Go Go.Vc
set_option linter.unusedVariables false
set_option linter.unusedSimpArgs false

theorem within_get {us : List Int} {m : Int} (h : within us m = true) : ∀ i, i < us.length → 0 ≤ us.getD i 0 ∧ us.getD i 0 ≤ m := by
  intro i hi
  simp only [within, Bool.not_eq_true', List.any_eq_false] at h
  have := h (us.getD i 0) (by rw [List.getD_eq_getElem?_getD, List.getElem?_eq_getElem hi]; exact List.getElem_mem hi)
  simp only [Bool.or_eq_true, decide_eq_true_eq] at this
  omega
structure River (fl : List Int) (gs : List (List Int)) : Prop where
  g : OkG gs
  len : fl.length = gs.length
  pos : 1 ≤ fl.length
  val : ∀ i, i < fl.length → 0 ≤ fl.getD i 0 ∧ fl.getD i 0 ≤ 30
theorem riverOk.river {fl : List Int} {gs : List (List Int)} (h : riverOk fl gs = true) : River fl gs := by
  simp only [riverOk, Bool.and_eq_true, decide_eq_true_eq] at h
  obtain ⟨⟨⟨⟨h1, h2⟩, h3⟩, h4⟩, h5⟩ := h
  have h6 : ∀ i, i < gs.length → gOk (gs.getD i []) = true := fun i hi => List.all_eq_true.1 h5 _ (by rw [List.getD_eq_getElem?_getD, List.getElem?_eq_getElem hi]; exact List.getElem_mem hi)
  simp only [gOk, Bool.and_eq_true, decide_eq_true_eq] at h6
  exact ⟨⟨by omega, fun i hi => (h6 i hi).1.1, fun i hi j hj => within_get (h6 i hi).1.2 j hj⟩, by omega, h1, within_get h4⟩
theorem OkG.take {gs : List (List Int)} (h : OkG gs) (n : Nat) : OkG (gs.take n) := by
  have e : ∀ i, i < (gs.take n).length → i < gs.length ∧ (gs.take n).getD i [] = gs.getD i [] := fun i hi => by
    rw [List.length_take] at hi
    exact ⟨by omega, getD_take (by omega)⟩
  refine ⟨by rw [List.length_take]; have := h.len; omega, fun i hi => ?_, fun i hi j hj => ?_⟩
  · rw [(e i hi).2]; exact h.lens i (e i hi).1
  · rw [(e i hi).2] at hj ⊢; exact h.val i (e i hi).1 j hj
theorem sum_bound {m : Int} : ∀ {xs : List Int}, (∀ i, i < xs.length → 0 ≤ xs.getD i 0 ∧ xs.getD i 0 ≤ m) → 0 ≤ xs.sum ∧ xs.sum ≤ m * xs.length
  | [], _ => by simp
  | x :: r, h => by
    have h1 := h 0 (by simp)
    have h2 := sum_bound (m := m) (xs := r) fun i hi => by simpa using h (i + 1) (by simpa using hi)
    simp only [List.getD_cons_zero] at h1
    simp only [List.sum_cons, List.length_cons]
    rw [show ((r.length + 1 : Nat) : Int) = r.length + 1 from by omega, Int.mul_add]
    omega
theorem OkG.tail {g : List Int} {gs : List (List Int)} (h : OkG (g :: gs)) : OkG gs :=
  ⟨by have := h.len; simp at this; omega, fun i hi => h.lens (i + 1) (by simpa using hi), fun i hi j hj => h.val (i + 1) (by simpa using hi) j hj⟩
theorem worth_bound : ∀ {gs : List (List Int)} {us : List Int}, OkG gs → 0 ≤ worthL gs us ∧ worthL gs us ≤ 20000 * gs.length
  | [], us, _ => by simp [worthL]
  | g :: gs, [], _ => by simp only [worthL]; omega
  | g :: gs, u :: us, h => by
    have h1 := worth_bound (gs := gs) (us := us) h.tail
    have h2 := sum_bound (m := 1000) (xs := g.take u.toNat) fun i hi => by
      rw [List.length_take] at hi
      rw [getD_take (by omega)]
      exact h.val 0 (by simp) i (by simp; omega)
    have h3 := h.lens 0 (by simp)
    simp only [List.getD_cons_zero] at h3
    have h4 : (g.take u.toNat).length ≤ 20 := by rw [List.length_take]; omega
    simp only [worthL, List.length_cons]
    omega
structure Use (gs : List (List Int)) (us : List Int) : Prop where
  len : us.length = gs.length
  val : ∀ i, i < gs.length → 0 ≤ us.getD i 0 ∧ us.getD i 0 ≤ (gs.getD i []).length
theorem bestF_use {fl : List Int} {gs : List (List Int)} : ∀ {k : Nat} {us : List Int}, Use gs us → Use gs (bestF fl gs k us)
  | 0, us, h => h
  | k + 1, us, h => by
    simp only [bestF]
    have hp := pk_lt (fl := fl) (gs := gs) (us := us) gs.length
    cases hn : decide (pk fl gs us gs.length < 0) with
    | true => exact h
    | false =>
      simp only [decide_eq_false_iff_not] at hn
      refine bestF_use ⟨by rw [List.length_set]; exact h.len, fun i hi => ?_⟩
      have hl := h.len
      rw [set_getD (by omega)]
      have hv := h.val (pk fl gs us gs.length).toNat (by omega)
      split
      · rename_i e; rw [e]; omega
      · exact h.val i hi
theorem replicate_getD {n i : Nat} : (List.replicate n (0 : Int)).getD i 0 = 0 := by
  simp [List.getD_eq_getElem?_getD, List.getElem?_replicate]; split <;> rfl
theorem bestL_use {fl : List Int} {gs : List (List Int)} (hl : fl.length = gs.length) : Use gs (bestL fl gs) :=
  bestF_use ⟨by simp [hl], fun i hi => by rw [replicate_getD]; omega⟩
/-- The worth of the best use. -/
def val (fl : List Int) (gs : List (List Int)) : Int := worthL gs (bestL fl gs)

theorem value_at (fl : List Int) (gs : List (List Int)) (hG : OkG gs) (hl : fl.length = gs.length) (hf : ∀ i, i < fl.length → 0 ≤ fl.getD i 0 ∧ fl.getD i 0 ≤ 1000) :
    FnAt Try.prog false 53 [.agg [.arr (.int .i64) fl, .arr (.sl (.int .i64)) gs]] (.lit (.int .i64 (val fl gs))) [] := by
  have hU := bestL_use hl
  have hUl := hU.len
  have hU2 : ∀ i, i < (bestL fl gs).length → 0 ≤ (bestL fl gs).getD i 0 := fun i hi => (hU.val i (by omega)).1
  refine FnAt.of_body tys_ok Try.func53 (by rfl) rfl Try.ntmps53 (by rw [Try.results53]) (by simp) ?_
  
  repeat' (first
 | refine W.seq ?_
 | refine W.block ?_
 | (refine W.region tys_ok [] ?_; conv => whnf)
 | (refine W.drawAll tys_ok [] mixed rfl ?_; conv => whnf)
 | (refine W.ret ?_; conv => whnf)
 | (refine W.skip ?_; conv => whnf)
 | (refine W.exit ?_; conv => whnf)
 | (refine call_at (al := false) (best_at _ _ hG hl hf) rfl rfl rfl rfl ?_; conv => whnf)
 | (refine call_at (al := false) (worth_at _ _ _ hG (by omega) hU2) rfl rfl rfl rfl ?_; conv => whnf)

    | (refine W.cond rfl (fun hb => ?_) (fun hb => ?_) <;> (try simp only [minL, maxL, pickB, getD_int, getD_sl, getD_bool, len_int, len_sl, len_bool, decide_eq_true_eq, decide_eq_false_iff_not, Bool.and_eq_true, Bool.or_eq_true, Bool.and_eq_false_iff, Bool.or_eq_false_iff, Bool.not_eq_true', Bool.not_eq_false', Bool.true_eq_false, Bool.false_eq_true, Int.toNat_natCast, Int.ofNat_lt, Int.ofNat_le, not_true_eq_false, not_false_eq_true, or_false, false_or, and_true, true_and, or_true, true_or, and_false, false_and] at hb) <;> (try (first | (cases hb; done) | exact absurd hb (by decide) | (exfalso; omega))))
    | ((with_reducible refine And.intro ?_ ?_); (focus ((repeat' (first | (with_reducible rfl) | (with_reducible refine And.intro ?_ ?_) | omega | rfl | exact Or.inl rfl | exact Or.inr rfl | (focus ((try simp only [minL, maxL, pickB, getD_int, getD_sl, getD_bool, len_int, len_sl, len_bool, decide_eq_true_eq, decide_eq_false_iff_not, Bool.and_eq_true, Bool.or_eq_true, Bool.and_eq_false_iff, Bool.or_eq_false_iff, Bool.not_eq_true', Bool.not_eq_false', Bool.true_eq_false, Bool.false_eq_true, Int.toNat_natCast, Int.ofNat_lt, Int.ofNat_le, not_true_eq_false, not_false_eq_true, or_false, false_or, and_true, true_and, or_true, true_or, and_false, false_and, InK, Path.imp, List.length_replicate, List.length_set, List.length_append, List.length_cons, List.length_nil] at *); omega)) | (refine app_le rfl ?_; omega))); done)); (conv => whnf))
    | ((with_reducible refine And.intro (Side.out ?_) ?_); rotate_left; (conv => whnf))
    | (refine retF1 ?_ <;> (conv => whnf) <;> repeat' (first
 | exact trivial
 | (with_reducible rfl)
 | ((with_reducible refine And.intro ?_ ?_) <;> conv => whnf)
 | omega
 | rfl
 | (refine congrArg (SV.arr _) ?_)
 | (refine congrArg (Value.int _) ?_)
 | (refine congrArg Value.bool ?_)))
 | (refine retF2 ?_ <;> (conv => whnf) <;> repeat' (first
 | exact trivial
 | (with_reducible rfl)
 | ((with_reducible refine And.intro ?_ ?_) <;> conv => whnf)
 | omega
 | rfl
 | (refine congrArg (SV.arr _) ?_)
 | (refine congrArg (Value.int _) ?_)
 | (refine congrArg Value.bool ?_)))); all_goals (try unfold Side)

theorem part_at (fl : List Int) (gs : List (List Int)) (i : Nat) (h1 : i ≤ fl.length) (h2 : i ≤ gs.length) (h3 : fl.length < 2 ^ 40) (h4 : gs.length < 2 ^ 40) :
    FnAt Try.prog true 52 [.agg [.arr (.int .i64) fl, .arr (.sl (.int .i64)) gs], .lit (.int .i64 0), .lit (.int .i64 i)] (.strct [.st true (.arr (.int .i64) (fl.take i)), .st true (.arr (.sl (.int .i64)) (gs.take i))]) [] := by
  refine FnAt.of_body tys_ok Try.func52 (by rfl) rfl Try.ntmps52 (by rw [Try.results52]) (by simp) ?_
  
  repeat' (first
 | refine W.seq ?_
 | refine W.block ?_
 | (refine W.drawTo (id := 1) tys_ok [] mixed [] 11 (by decide +kernel) ?_; conv => whnf)
 | (refine W.region tys_ok [] ?_; conv => whnf)
 | (refine W.drawAll tys_ok [] mixed rfl ?_; conv => whnf)
 | (refine W.ret ?_; conv => whnf)
 | (refine W.skip ?_; conv => whnf)
 | (refine W.exit ?_; conv => whnf)

    | (refine W.cond rfl (fun hb => ?_) (fun hb => ?_) <;> (try simp only [minL, maxL, pickB, getD_int, getD_sl, getD_bool, len_int, len_sl, len_bool, decide_eq_true_eq, decide_eq_false_iff_not, Bool.and_eq_true, Bool.or_eq_true, Bool.and_eq_false_iff, Bool.or_eq_false_iff, Bool.not_eq_true', Bool.not_eq_false', Bool.true_eq_false, Bool.false_eq_true, Int.toNat_natCast, Int.ofNat_lt, Int.ofNat_le, not_true_eq_false, not_false_eq_true, or_false, false_or, and_true, true_and, or_true, true_or, and_false, false_and] at hb) <;> (try (first | (cases hb; done) | exact absurd hb (by decide) | (exfalso; omega))))
    | ((with_reducible refine And.intro ?_ ?_); (focus ((repeat' (first | (with_reducible rfl) | (with_reducible refine And.intro ?_ ?_) | omega | rfl | exact Or.inl rfl | exact Or.inr rfl | (focus ((try simp only [minL, maxL, pickB, getD_int, getD_sl, getD_bool, len_int, len_sl, len_bool, decide_eq_true_eq, decide_eq_false_iff_not, Bool.and_eq_true, Bool.or_eq_true, Bool.and_eq_false_iff, Bool.or_eq_false_iff, Bool.not_eq_true', Bool.not_eq_false', Bool.true_eq_false, Bool.false_eq_true, Int.toNat_natCast, Int.ofNat_lt, Int.ofNat_le, not_true_eq_false, not_false_eq_true, or_false, false_or, and_true, true_and, or_true, true_or, and_false, false_and, InK, Path.imp, List.length_replicate, List.length_set, List.length_append, List.length_cons, List.length_nil] at *); omega)) | (refine app_le rfl ?_; omega))); done)); (conv => whnf))
    | ((with_reducible refine And.intro (Side.out ?_) ?_); rotate_left; (conv => whnf))
    | (refine retF1 ?_ <;> (conv => whnf) <;> repeat' (first
 | exact trivial
 | (with_reducible rfl)
 | ((with_reducible refine And.intro ?_ ?_) <;> conv => whnf)
 | omega
 | rfl
 | (refine congrArg (SV.arr _) ?_)
 | (refine congrArg (Value.int _) ?_)
 | (refine congrArg Value.bool ?_)))
 | (refine retF2 ?_ <;> (conv => whnf) <;> repeat' (first
 | exact trivial
 | (with_reducible rfl)
 | ((with_reducible refine And.intro ?_ ?_) <;> conv => whnf)
 | omega
 | rfl
 | (refine congrArg (SV.arr _) ?_)
 | (refine congrArg (Value.int _) ?_)
 | (refine congrArg Value.bool ?_)))); all_goals (try unfold Side)
  all_goals try (repeat' (first | (with_reducible rfl) | (with_reducible refine And.intro ?_ ?_) | omega | rfl | exact Or.inl rfl | exact Or.inr rfl | (focus ((try simp only [minL, maxL, pickB, getD_int, getD_sl, getD_bool, len_int, len_sl, len_bool, decide_eq_true_eq, decide_eq_false_iff_not, Bool.and_eq_true, Bool.or_eq_true, Bool.and_eq_false_iff, Bool.or_eq_false_iff, Bool.not_eq_true', Bool.not_eq_false', Bool.true_eq_false, Bool.false_eq_true, Int.toNat_natCast, Int.ofNat_lt, Int.ofNat_le, not_true_eq_false, not_false_eq_true, or_false, false_or, and_true, true_and, or_true, true_or, and_false, false_and, InK, Path.imp, List.length_replicate, List.length_set, List.length_append, List.length_cons, List.length_nil] at *); omega)) | (refine app_le rfl ?_; omega)))

theorem Best_ok (fl : List Int) (gs : List (List Int)) (h1 : fl.length ≤ 1000) (h2 : gs.length ≤ 1000) (h3 : ∀ i, i < gs.length → (gs.getD i []).length ≤ 1000) :
    FnAt Try.prog false 16 [.arr (.int .i64) fl, .arr (.sl (.int .i64)) gs] (.tup [.own 0, .lit (.int .i64 (cond (riverOk fl gs) (val fl gs) 0)), .lit (.int .i64 (cond (riverOk fl gs) 0 1))]) [(0, .row 3 (.int .i64) true (cond (riverOk fl gs) (bestL fl gs) []))] := by
  have hr := read_at fl gs h1 h2 h3
  cases hok : riverOk fl gs with
  | false =>
    rw [hok] at hr
    refine FnAt.of_body tys_ok Try.func16 (by rfl) rfl Try.ntmps16 (by rw [Try.results16]) (by simp) ?_
  
    repeat' (first
 | refine W.seq ?_
 | refine W.block ?_
 | (refine W.region tys_ok [] ?_; conv => whnf)
 | (refine W.drawAll tys_ok [] mixed rfl ?_; conv => whnf)
 | (refine W.ret ?_; conv => whnf)
 | (refine W.skip ?_; conv => whnf)
 | (refine W.exit ?_; conv => whnf)
 | (refine call_at (al := true) (hr) rfl rfl rfl rfl ?_; conv => whnf)

    | (refine W.cond rfl (fun hb => ?_) (fun hb => ?_) <;> (try simp only [minL, maxL, pickB, getD_int, getD_sl, getD_bool, len_int, len_sl, len_bool, decide_eq_true_eq, decide_eq_false_iff_not, Bool.and_eq_true, Bool.or_eq_true, Bool.and_eq_false_iff, Bool.or_eq_false_iff, Bool.not_eq_true', Bool.not_eq_false', Bool.true_eq_false, Bool.false_eq_true, Int.toNat_natCast, Int.ofNat_lt, Int.ofNat_le, not_true_eq_false, not_false_eq_true, or_false, false_or, and_true, true_and, or_true, true_or, and_false, false_and] at hb) <;> (try (first | (cases hb; done) | exact absurd hb (by decide) | (exfalso; omega))))
    | ((with_reducible refine And.intro ?_ ?_); (focus ((repeat' (first | (with_reducible rfl) | (with_reducible refine And.intro ?_ ?_) | omega | rfl | exact Or.inl rfl | exact Or.inr rfl | (focus ((try simp only [minL, maxL, pickB, getD_int, getD_sl, getD_bool, len_int, len_sl, len_bool, decide_eq_true_eq, decide_eq_false_iff_not, Bool.and_eq_true, Bool.or_eq_true, Bool.and_eq_false_iff, Bool.or_eq_false_iff, Bool.not_eq_true', Bool.not_eq_false', Bool.true_eq_false, Bool.false_eq_true, Int.toNat_natCast, Int.ofNat_lt, Int.ofNat_le, not_true_eq_false, not_false_eq_true, or_false, false_or, and_true, true_and, or_true, true_or, and_false, false_and, InK, Path.imp, List.length_replicate, List.length_set, List.length_append, List.length_cons, List.length_nil] at *); omega)) | (refine app_le rfl ?_; omega))); done)); (conv => whnf))
    | ((with_reducible refine And.intro (Side.out ?_) ?_); rotate_left; (conv => whnf))
    | (refine retF1 ?_ <;> (conv => whnf) <;> repeat' (first
 | exact trivial
 | (with_reducible rfl)
 | ((with_reducible refine And.intro ?_ ?_) <;> conv => whnf)
 | omega
 | rfl
 | (refine congrArg (SV.arr _) ?_)
 | (refine congrArg (Value.int _) ?_)
 | (refine congrArg Value.bool ?_)))
 | (refine retF2 ?_ <;> (conv => whnf) <;> repeat' (first
 | exact trivial
 | (with_reducible rfl)
 | ((with_reducible refine And.intro ?_ ?_) <;> conv => whnf)
 | omega
 | rfl
 | (refine congrArg (SV.arr _) ?_)
 | (refine congrArg (Value.int _) ?_)
 | (refine congrArg Value.bool ?_)))); all_goals (try unfold Side)
    all_goals try (repeat' (first | (with_reducible rfl) | (with_reducible refine And.intro ?_ ?_) | omega | rfl | exact Or.inl rfl | exact Or.inr rfl | (focus ((try simp only [minL, maxL, pickB, getD_int, getD_sl, getD_bool, len_int, len_sl, len_bool, decide_eq_true_eq, decide_eq_false_iff_not, Bool.and_eq_true, Bool.or_eq_true, Bool.and_eq_false_iff, Bool.or_eq_false_iff, Bool.not_eq_true', Bool.not_eq_false', Bool.true_eq_false, Bool.false_eq_true, Int.toNat_natCast, Int.ofNat_lt, Int.ofNat_le, not_true_eq_false, not_false_eq_true, or_false, false_or, and_true, true_and, or_true, true_or, and_false, false_and, InK, Path.imp, List.length_replicate, List.length_set, List.length_append, List.length_cons, List.length_nil] at *); omega)) | (refine app_le rfl ?_; omega)))
    all_goals cases hb
  | true =>
    rw [hok] at hr
    have hR := riverOk.river hok
    have hU := bestL_use hR.len
    have hUl := hU.len
    have hU2 : ∀ i, i < (bestL fl gs).length → 0 ≤ (bestL fl gs).getD i 0 := fun i hi => (hU.val i (by omega)).1
    have hf : ∀ i, i < fl.length → 0 ≤ fl.getD i 0 ∧ fl.getD i 0 ≤ 1000 := fun i hi => by have := hR.val i hi; omega
    refine FnAt.of_body tys_ok Try.func16 (by rfl) rfl Try.ntmps16 (by rw [Try.results16]) (by simp) ?_
  
    repeat' (first
 | refine W.seq ?_
 | refine W.block ?_
 | (refine W.region tys_ok [] ?_; conv => whnf)
 | (refine W.drawAll tys_ok [] mixed rfl ?_; conv => whnf)
 | (refine W.ret ?_; conv => whnf)
 | (refine W.skip ?_; conv => whnf)
 | (refine W.exit ?_; conv => whnf)
 | (refine call_at (al := true) (hr) rfl rfl rfl rfl ?_; conv => whnf)
 | (refine call_at (al := false) (best_at _ _ hR.g hR.len hf) rfl rfl rfl rfl ?_; conv => whnf)
 | (refine call_at (al := false) (worth_at _ _ _ hR.g (by omega) hU2) rfl rfl rfl rfl ?_; conv => whnf)

    | (refine W.cond rfl (fun hb => ?_) (fun hb => ?_) <;> (try simp only [minL, maxL, pickB, getD_int, getD_sl, getD_bool, len_int, len_sl, len_bool, decide_eq_true_eq, decide_eq_false_iff_not, Bool.and_eq_true, Bool.or_eq_true, Bool.and_eq_false_iff, Bool.or_eq_false_iff, Bool.not_eq_true', Bool.not_eq_false', Bool.true_eq_false, Bool.false_eq_true, Int.toNat_natCast, Int.ofNat_lt, Int.ofNat_le, not_true_eq_false, not_false_eq_true, or_false, false_or, and_true, true_and, or_true, true_or, and_false, false_and] at hb) <;> (try (first | (cases hb; done) | exact absurd hb (by decide) | (exfalso; omega))))
    | ((with_reducible refine And.intro ?_ ?_); (focus ((repeat' (first | (with_reducible rfl) | (with_reducible refine And.intro ?_ ?_) | omega | rfl | exact Or.inl rfl | exact Or.inr rfl | (focus ((try simp only [minL, maxL, pickB, getD_int, getD_sl, getD_bool, len_int, len_sl, len_bool, decide_eq_true_eq, decide_eq_false_iff_not, Bool.and_eq_true, Bool.or_eq_true, Bool.and_eq_false_iff, Bool.or_eq_false_iff, Bool.not_eq_true', Bool.not_eq_false', Bool.true_eq_false, Bool.false_eq_true, Int.toNat_natCast, Int.ofNat_lt, Int.ofNat_le, not_true_eq_false, not_false_eq_true, or_false, false_or, and_true, true_and, or_true, true_or, and_false, false_and, InK, Path.imp, List.length_replicate, List.length_set, List.length_append, List.length_cons, List.length_nil] at *); omega)) | (refine app_le rfl ?_; omega))); done)); (conv => whnf))
    | ((with_reducible refine And.intro (Side.out ?_) ?_); rotate_left; (conv => whnf))
    | (refine retF1 ?_ <;> (conv => whnf) <;> repeat' (first
 | exact trivial
 | (with_reducible rfl)
 | ((with_reducible refine And.intro ?_ ?_) <;> conv => whnf)
 | omega
 | rfl
 | (refine congrArg (SV.arr _) ?_)
 | (refine congrArg (Value.int _) ?_)
 | (refine congrArg Value.bool ?_)))
 | (refine retF2 ?_ <;> (conv => whnf) <;> repeat' (first
 | exact trivial
 | (with_reducible rfl)
 | ((with_reducible refine And.intro ?_ ?_) <;> conv => whnf)
 | omega
 | rfl
 | (refine congrArg (SV.arr _) ?_)
 | (refine congrArg (Value.int _) ?_)
 | (refine congrArg Value.bool ?_)))); all_goals (try unfold Side)
    all_goals try (repeat' (first | (with_reducible rfl) | (with_reducible refine And.intro ?_ ?_) | omega | rfl | exact Or.inl rfl | exact Or.inr rfl | (focus ((try simp only [minL, maxL, pickB, getD_int, getD_sl, getD_bool, len_int, len_sl, len_bool, decide_eq_true_eq, decide_eq_false_iff_not, Bool.and_eq_true, Bool.or_eq_true, Bool.and_eq_false_iff, Bool.or_eq_false_iff, Bool.not_eq_true', Bool.not_eq_false', Bool.true_eq_false, Bool.false_eq_true, Int.toNat_natCast, Int.ofNat_lt, Int.ofNat_le, not_true_eq_false, not_false_eq_true, or_false, false_or, and_true, true_and, or_true, true_or, and_false, false_and, InK, Path.imp, List.length_replicate, List.length_set, List.length_append, List.length_cons, List.length_nil] at *); omega)) | (refine app_le rfl ?_; omega)))
    all_goals cases hb

def sharesT (fl : List Int) (gs : List (List Int)) : Nat → List Int
  | 0 => []
  | i + 1 => sharesT fl gs i ++ [val (fl.take (i + 1)) (gs.take (i + 1)) - (match i with | 0 => 0 | i + 1 => val (fl.take (i + 1)) (gs.take (i + 1)))]
def lastV (fl : List Int) (gs : List (List Int)) : Nat → Int
  | 0 => 0
  | i + 1 => val (fl.take (i + 1)) (gs.take (i + 1))
theorem sharesT_succ {fl : List Int} {gs : List (List Int)} {i : Nat} : sharesT fl gs (i + 1) = sharesT fl gs i ++ [val (fl.take (i + 1)) (gs.take (i + 1)) - lastV fl gs i] := by
  cases i <;> rfl
theorem sharesT_len {fl : List Int} {gs : List (List Int)} : ∀ {i : Nat}, (sharesT fl gs i).length = i
  | 0 => rfl
  | i + 1 => by rw [sharesT_succ, List.length_append, sharesT_len]; rfl
theorem lastV_bound {fl : List Int} {gs : List (List Int)} (hG : OkG gs) : ∀ {i : Nat}, 0 ≤ lastV fl gs i ∧ lastV fl gs i ≤ 160000
  | 0 => by simp [lastV]
  | i + 1 => by
    have h := worth_bound (gs := gs.take (i + 1)) (us := bestL (fl.take (i + 1)) (gs.take (i + 1))) (hG.take _)
    have h2 := (hG.take (i + 1)).len
    simp only [lastV, val]
    omega

theorem Shares_ok (fl : List Int) (gs : List (List Int)) (h1 : fl.length ≤ 1000) (h2 : gs.length ≤ 1000) (h3 : ∀ i, i < gs.length → (gs.getD i []).length ≤ 1000) :
    FnAt Try.prog false 29 [.arr (.int .i64) fl, .arr (.sl (.int .i64)) gs] (.tup [.own 0, .lit (.int .i64 (cond (riverOk fl gs) 0 1))]) [(0, .row 3 (.int .i64) true (cond (riverOk fl gs) (sharesT fl gs fl.length) []))] := by
  have hr := read_at fl gs h1 h2 h3
  cases hok : riverOk fl gs with
  | false =>
    rw [hok] at hr
    refine FnAt.of_body tys_ok Try.func29 (by rfl) rfl Try.ntmps29 (by rw [Try.results29]) (by simp) ?_
  
    repeat' (first
 | refine W.seq ?_
 | refine W.block ?_
 | (refine W.region tys_ok [] ?_; conv => whnf)
 | (refine W.drawAll tys_ok [] mixed rfl ?_; conv => whnf)
 | (refine W.ret ?_; conv => whnf)
 | (refine W.skip ?_; conv => whnf)
 | (refine W.exit ?_; conv => whnf)
 | (refine call_at (al := true) (hr) rfl rfl rfl rfl ?_; conv => whnf)

    | (refine W.cond rfl (fun hb => ?_) (fun hb => ?_) <;> (try simp only [minL, maxL, pickB, getD_int, getD_sl, getD_bool, len_int, len_sl, len_bool, decide_eq_true_eq, decide_eq_false_iff_not, Bool.and_eq_true, Bool.or_eq_true, Bool.and_eq_false_iff, Bool.or_eq_false_iff, Bool.not_eq_true', Bool.not_eq_false', Bool.true_eq_false, Bool.false_eq_true, Int.toNat_natCast, Int.ofNat_lt, Int.ofNat_le, not_true_eq_false, not_false_eq_true, or_false, false_or, and_true, true_and, or_true, true_or, and_false, false_and] at hb) <;> (try (first | (cases hb; done) | exact absurd hb (by decide) | (exfalso; omega))))
    | ((with_reducible refine And.intro ?_ ?_); (focus ((repeat' (first | (with_reducible rfl) | (with_reducible refine And.intro ?_ ?_) | omega | rfl | exact Or.inl rfl | exact Or.inr rfl | (focus ((try simp only [minL, maxL, pickB, getD_int, getD_sl, getD_bool, len_int, len_sl, len_bool, decide_eq_true_eq, decide_eq_false_iff_not, Bool.and_eq_true, Bool.or_eq_true, Bool.and_eq_false_iff, Bool.or_eq_false_iff, Bool.not_eq_true', Bool.not_eq_false', Bool.true_eq_false, Bool.false_eq_true, Int.toNat_natCast, Int.ofNat_lt, Int.ofNat_le, not_true_eq_false, not_false_eq_true, or_false, false_or, and_true, true_and, or_true, true_or, and_false, false_and, InK, Path.imp, List.length_replicate, List.length_set, List.length_append, List.length_cons, List.length_nil] at *); omega)) | (refine app_le rfl ?_; omega))); done)); (conv => whnf))
    | ((with_reducible refine And.intro (Side.out ?_) ?_); rotate_left; (conv => whnf))
    | (refine retF1 ?_ <;> (conv => whnf) <;> repeat' (first
 | exact trivial
 | (with_reducible rfl)
 | ((with_reducible refine And.intro ?_ ?_) <;> conv => whnf)
 | omega
 | rfl
 | (refine congrArg (SV.arr _) ?_)
 | (refine congrArg (Value.int _) ?_)
 | (refine congrArg Value.bool ?_)))
 | (refine retF2 ?_ <;> (conv => whnf) <;> repeat' (first
 | exact trivial
 | (with_reducible rfl)
 | ((with_reducible refine And.intro ?_ ?_) <;> conv => whnf)
 | omega
 | rfl
 | (refine congrArg (SV.arr _) ?_)
 | (refine congrArg (Value.int _) ?_)
 | (refine congrArg Value.bool ?_)))); all_goals (try unfold Side)
    all_goals try (repeat' (first | (with_reducible rfl) | (with_reducible refine And.intro ?_ ?_) | omega | rfl | exact Or.inl rfl | exact Or.inr rfl | (focus ((try simp only [minL, maxL, pickB, getD_int, getD_sl, getD_bool, len_int, len_sl, len_bool, decide_eq_true_eq, decide_eq_false_iff_not, Bool.and_eq_true, Bool.or_eq_true, Bool.and_eq_false_iff, Bool.or_eq_false_iff, Bool.not_eq_true', Bool.not_eq_false', Bool.true_eq_false, Bool.false_eq_true, Int.toNat_natCast, Int.ofNat_lt, Int.ofNat_le, not_true_eq_false, not_false_eq_true, or_false, false_or, and_true, true_and, or_true, true_or, and_false, false_and, InK, Path.imp, List.length_replicate, List.length_set, List.length_append, List.length_cons, List.length_nil] at *); omega)) | (refine app_le rfl ?_; omega)))
    all_goals cases hb
  | true =>
    rw [hok] at hr
    have hR := riverOk.river hok
    have hRl := hR.len
    have hR8 := hR.g.len
    refine FnAt.of_body tys_ok Try.func29 (by rfl) rfl Try.ntmps29 (by rw [Try.results29]) (by simp) ?_
  
    repeat' (first
 | refine W.seq ?_
 | refine W.block ?_
 | (refine W.region tys_ok [] ?_; conv => whnf)
 | (refine W.drawAll tys_ok [] mixed rfl ?_; conv => whnf)
 | (refine W.ret ?_; conv => whnf)
 | (refine W.skip ?_; conv => whnf)
 | (refine W.exit ?_; conv => whnf)
 | (refine call_at (al := true) (hr) rfl rfl rfl rfl ?_; conv => whnf)

    | (refine W.cond rfl (fun hb => ?_) (fun hb => ?_) <;> (try simp only [minL, maxL, pickB, getD_int, getD_sl, getD_bool, len_int, len_sl, len_bool, decide_eq_true_eq, decide_eq_false_iff_not, Bool.and_eq_true, Bool.or_eq_true, Bool.and_eq_false_iff, Bool.or_eq_false_iff, Bool.not_eq_true', Bool.not_eq_false', Bool.true_eq_false, Bool.false_eq_true, Int.toNat_natCast, Int.ofNat_lt, Int.ofNat_le, not_true_eq_false, not_false_eq_true, or_false, false_or, and_true, true_and, or_true, true_or, and_false, false_and] at hb) <;> (try (first | (cases hb; done) | exact absurd hb (by decide) | (exfalso; omega))))
    | ((with_reducible refine And.intro ?_ ?_); (focus ((repeat' (first | (with_reducible rfl) | (with_reducible refine And.intro ?_ ?_) | omega | rfl | exact Or.inl rfl | exact Or.inr rfl | (focus ((try simp only [minL, maxL, pickB, getD_int, getD_sl, getD_bool, len_int, len_sl, len_bool, decide_eq_true_eq, decide_eq_false_iff_not, Bool.and_eq_true, Bool.or_eq_true, Bool.and_eq_false_iff, Bool.or_eq_false_iff, Bool.not_eq_true', Bool.not_eq_false', Bool.true_eq_false, Bool.false_eq_true, Int.toNat_natCast, Int.ofNat_lt, Int.ofNat_le, not_true_eq_false, not_false_eq_true, or_false, false_or, and_true, true_and, or_true, true_or, and_false, false_and, InK, Path.imp, List.length_replicate, List.length_set, List.length_append, List.length_cons, List.length_nil] at *); omega)) | (refine app_le rfl ?_; omega))); done)); (conv => whnf))
    | ((with_reducible refine And.intro (Side.out ?_) ?_); rotate_left; (conv => whnf))
    | (refine retF1 ?_ <;> (conv => whnf) <;> repeat' (first
 | exact trivial
 | (with_reducible rfl)
 | ((with_reducible refine And.intro ?_ ?_) <;> conv => whnf)
 | omega
 | rfl
 | (refine congrArg (SV.arr _) ?_)
 | (refine congrArg (Value.int _) ?_)
 | (refine congrArg Value.bool ?_)))
 | (refine retF2 ?_ <;> (conv => whnf) <;> repeat' (first
 | exact trivial
 | (with_reducible rfl)
 | ((with_reducible refine And.intro ?_ ?_) <;> conv => whnf)
 | omega
 | rfl
 | (refine congrArg (SV.arr _) ?_)
 | (refine congrArg (Value.int _) ?_)
 | (refine congrArg Value.bool ?_)))); all_goals (try unfold Side)
    all_goals try (cases hb; done)
    refine W.loop (fun i : Nat => ⟨[(6, .padr 7000 0), (8, .own 36000), (9, .lit (.int .i64 (lastV fl gs i))), (21, .lit (.int .i64 fl.length)), (22, .lit (.int .i64 i))],
        [(7000, .box [.st false (.arr (.int .i64) fl), .st false (.arr (.sl (.int .i64)) gs)]), (36000, .row 3 (.int .i64) true (sharesT fl gs i))]⟩)
      (fun i => i ≤ fl.length) (fun i => fl.length - i) 0 ?_ ?_
    · refine ⟨by simp, ?_⟩
      refine subF.ok ?_ <;> (conv => whnf) <;> repeat' (first
 | exact trivial
 | (with_reducible rfl)
 | ((with_reducible refine And.intro ?_ ?_) <;> conv => whnf)
 | omega
 | rfl
 | (refine congrArg (SV.arr _) ?_)
 | (refine congrArg (Value.int _) ?_)
 | (refine congrArg Value.bool ?_))
    · intro i hi
      have hb1 := lastV_bound (fl := fl) hR.g (i := i)
      have hb2 := lastV_bound (fl := fl) hR.g (i := i + 1)
      have hsl := sharesT_len (fl := fl) (gs := gs) (i := i)
      by_cases hil : i < fl.length
      · have hp := part_at fl gs (i + 1) (by omega) (by omega) (by omega) (by omega)
        have hv := value_at (fl.take (i + 1)) (gs.take (i + 1)) (hR.g.take _) (by simp [hRl]) (fun j hj => by
          rw [List.length_take] at hj
          rw [getD_take (by omega)]
          have := hR.val j (by omega)
          omega)
        have e : lastV fl gs (i + 1) = val (fl.take (i + 1)) (gs.take (i + 1)) := rfl
        rw [e] at hb2
        repeat' (first
 | refine W.seq ?_
 | refine W.block ?_
 | (refine W.region tys_ok [] ?_; conv => whnf)
 | (refine W.drawAll tys_ok [] mixed rfl ?_; conv => whnf)
 | (refine W.ret ?_; conv => whnf)
 | (refine W.skip ?_; conv => whnf)
 | (refine W.exit ?_; conv => whnf)
 | (refine call_at (al := true) (hp) rfl rfl rfl rfl ?_; conv => whnf)
 | (refine call_at (al := false) (hv) rfl rfl rfl rfl ?_; conv => whnf)

    | (refine W.cond rfl (fun hb => ?_) (fun hb => ?_) <;> (try simp only [minL, maxL, pickB, getD_int, getD_sl, getD_bool, len_int, len_sl, len_bool, decide_eq_true_eq, decide_eq_false_iff_not, Bool.and_eq_true, Bool.or_eq_true, Bool.and_eq_false_iff, Bool.or_eq_false_iff, Bool.not_eq_true', Bool.not_eq_false', Bool.true_eq_false, Bool.false_eq_true, Int.toNat_natCast, Int.ofNat_lt, Int.ofNat_le, not_true_eq_false, not_false_eq_true, or_false, false_or, and_true, true_and, or_true, true_or, and_false, false_and] at hb) <;> (try (first | (cases hb; done) | exact absurd hb (by decide) | (exfalso; omega))))
    | ((with_reducible refine And.intro ?_ ?_); (focus ((repeat' (first | (with_reducible rfl) | (with_reducible refine And.intro ?_ ?_) | omega | rfl | exact Or.inl rfl | exact Or.inr rfl | (focus ((try simp only [minL, maxL, pickB, getD_int, getD_sl, getD_bool, len_int, len_sl, len_bool, decide_eq_true_eq, decide_eq_false_iff_not, Bool.and_eq_true, Bool.or_eq_true, Bool.and_eq_false_iff, Bool.or_eq_false_iff, Bool.not_eq_true', Bool.not_eq_false', Bool.true_eq_false, Bool.false_eq_true, Int.toNat_natCast, Int.ofNat_lt, Int.ofNat_le, not_true_eq_false, not_false_eq_true, or_false, false_or, and_true, true_and, or_true, true_or, and_false, false_and, InK, Path.imp, List.length_replicate, List.length_set, List.length_append, List.length_cons, List.length_nil] at *); omega)) | (refine app_le rfl ?_; omega))); done)); (conv => whnf))
    | ((with_reducible refine And.intro (Side.out ?_) ?_); rotate_left; (conv => whnf))
    | (refine retF1 ?_ <;> (conv => whnf) <;> repeat' (first
 | exact trivial
 | (with_reducible rfl)
 | ((with_reducible refine And.intro ?_ ?_) <;> conv => whnf)
 | omega
 | rfl
 | (refine congrArg (SV.arr _) ?_)
 | (refine congrArg (Value.int _) ?_)
 | (refine congrArg Value.bool ?_)))
 | (refine retF2 ?_ <;> (conv => whnf) <;> repeat' (first
 | exact trivial
 | (with_reducible rfl)
 | ((with_reducible refine And.intro ?_ ?_) <;> conv => whnf)
 | omega
 | rfl
 | (refine congrArg (SV.arr _) ?_)
 | (refine congrArg (Value.int _) ?_)
 | (refine congrArg Value.bool ?_)))); all_goals (try unfold Side)
        all_goals try (repeat' (first | (with_reducible rfl) | (with_reducible refine And.intro ?_ ?_) | omega | rfl | exact Or.inl rfl | exact Or.inr rfl | (focus ((try simp only [minL, maxL, pickB, getD_int, getD_sl, getD_bool, len_int, len_sl, len_bool, decide_eq_true_eq, decide_eq_false_iff_not, Bool.and_eq_true, Bool.or_eq_true, Bool.and_eq_false_iff, Bool.or_eq_false_iff, Bool.not_eq_true', Bool.not_eq_false', Bool.true_eq_false, Bool.false_eq_true, Int.toNat_natCast, Int.ofNat_lt, Int.ofNat_le, not_true_eq_false, not_false_eq_true, or_false, false_or, and_true, true_and, or_true, true_or, and_false, false_and, InK, Path.imp, List.length_replicate, List.length_set, List.length_append, List.length_cons, List.length_nil] at *); omega)) | (refine app_le rfl ?_; omega)))
        · refine ⟨i + 1, ⟨by omega, by omega⟩, ?_⟩
          refine subF.ok ?_ <;> (conv => whnf) <;> repeat' (first
 | exact trivial
 | (with_reducible rfl)
 | ((with_reducible refine And.intro ?_ ?_) <;> conv => whnf)
 | omega
 | rfl
 | (refine congrArg (SV.arr _) ?_)
 | (refine congrArg (Value.int _) ?_)
 | (refine congrArg Value.bool ?_))
        · have : (sharesT fl gs i).length + 1 ≤ 4294967296 := by omega
          exact this
      · have hi' : i = fl.length := by omega
        subst hi'
        repeat' (first
 | refine W.seq ?_
 | refine W.block ?_
 | (refine W.region tys_ok [] ?_; conv => whnf)
 | (refine W.drawAll tys_ok [] mixed rfl ?_; conv => whnf)
 | (refine W.ret ?_; conv => whnf)
 | (refine W.skip ?_; conv => whnf)
 | (refine W.exit ?_; conv => whnf)

    | (refine W.cond rfl (fun hb => ?_) (fun hb => ?_) <;> (try simp only [minL, maxL, pickB, getD_int, getD_sl, getD_bool, len_int, len_sl, len_bool, decide_eq_true_eq, decide_eq_false_iff_not, Bool.and_eq_true, Bool.or_eq_true, Bool.and_eq_false_iff, Bool.or_eq_false_iff, Bool.not_eq_true', Bool.not_eq_false', Bool.true_eq_false, Bool.false_eq_true, Int.toNat_natCast, Int.ofNat_lt, Int.ofNat_le, not_true_eq_false, not_false_eq_true, or_false, false_or, and_true, true_and, or_true, true_or, and_false, false_and] at hb) <;> (try (first | (cases hb; done) | exact absurd hb (by decide) | (exfalso; omega))))
    | ((with_reducible refine And.intro ?_ ?_); (focus ((repeat' (first | (with_reducible rfl) | (with_reducible refine And.intro ?_ ?_) | omega | rfl | exact Or.inl rfl | exact Or.inr rfl | (focus ((try simp only [minL, maxL, pickB, getD_int, getD_sl, getD_bool, len_int, len_sl, len_bool, decide_eq_true_eq, decide_eq_false_iff_not, Bool.and_eq_true, Bool.or_eq_true, Bool.and_eq_false_iff, Bool.or_eq_false_iff, Bool.not_eq_true', Bool.not_eq_false', Bool.true_eq_false, Bool.false_eq_true, Int.toNat_natCast, Int.ofNat_lt, Int.ofNat_le, not_true_eq_false, not_false_eq_true, or_false, false_or, and_true, true_and, or_true, true_or, and_false, false_and, InK, Path.imp, List.length_replicate, List.length_set, List.length_append, List.length_cons, List.length_nil] at *); omega)) | (refine app_le rfl ?_; omega))); done)); (conv => whnf))
    | ((with_reducible refine And.intro (Side.out ?_) ?_); rotate_left; (conv => whnf))
    | (refine retF1 ?_ <;> (conv => whnf) <;> repeat' (first
 | exact trivial
 | (with_reducible rfl)
 | ((with_reducible refine And.intro ?_ ?_) <;> conv => whnf)
 | omega
 | rfl
 | (refine congrArg (SV.arr _) ?_)
 | (refine congrArg (Value.int _) ?_)
 | (refine congrArg Value.bool ?_)))
 | (refine retF2 ?_ <;> (conv => whnf) <;> repeat' (first
 | exact trivial
 | (with_reducible rfl)
 | ((with_reducible refine And.intro ?_ ?_) <;> conv => whnf)
 | omega
 | rfl
 | (refine congrArg (SV.arr _) ?_)
 | (refine congrArg (Value.int _) ?_)
 | (refine congrArg Value.bool ?_)))); all_goals (try unfold Side)
        all_goals try (repeat' (first | (with_reducible rfl) | (with_reducible refine And.intro ?_ ?_) | omega | rfl | exact Or.inl rfl | exact Or.inr rfl | (focus ((try simp only [minL, maxL, pickB, getD_int, getD_sl, getD_bool, len_int, len_sl, len_bool, decide_eq_true_eq, decide_eq_false_iff_not, Bool.and_eq_true, Bool.or_eq_true, Bool.and_eq_false_iff, Bool.or_eq_false_iff, Bool.not_eq_true', Bool.not_eq_false', Bool.true_eq_false, Bool.false_eq_true, Int.toNat_natCast, Int.ofNat_lt, Int.ofNat_le, not_true_eq_false, not_false_eq_true, or_false, false_or, and_true, true_and, or_true, true_or, and_false, false_and, InK, Path.imp, List.length_replicate, List.length_set, List.length_append, List.length_cons, List.length_nil] at *); omega)) | (refine app_le rfl ?_; omega)))
end Go.Proofs.Ytohfemfgnohhdaa
