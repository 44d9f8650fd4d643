/- Joined of: Se3 Se4 Se5 Sm9 S18 S19 S26 Sd1 Sc1 S31 Sc3 S33 Sm10. No condition. -/
import Derived.Test.YtdfajcfkdfjoeaaJ3
import Derived.Test.YtdfajcfkdfjoeaaJ5
import Derived.Test.YtdfajcfkdfjoeaaJ4

/- The steps at a crossing, and the parity of the number of faces. No condition. -/
namespace Go.Scr
set_option linter.unusedVariables false
set_option linter.unusedSimpArgs false

/-- The edge before a position. -/
def bf (n a : Nat) : Nat := if a = 0 then 2 * n - 1 else a - 1
theorem bf_lt {n a : Nat} (h : a < 2 * n) : bf n a < 2 * n := by unfold bf; split <;> omega
theorem bf_inj {n a b : Nat} (ha : a < 2 * n) (hb : b < 2 * n) (h : bf n a = bf n b) : a = b := by
  unfold bf at h; split at h <;> split at h <;> omega
theorem at_bf {n a : Nat} (h : a < 2 * n) : atT (2 * n) (bf n a : Nat) = a := by
  unfold atT bf
  split
  · rw [if_pos (by omega)]
    rename_i h0; subst h0
    rw [show ((2 * n - 1 : Nat) : Int) + 1 = (2 * n : Nat) by omega, Int.tmod_self]; rfl
  · rw [if_pos (by omega), Int.tmod_eq_emod_of_nonneg (by omega), Int.emod_eq_of_lt (by omega) (by omega)]; omega
theorem at_neg {n a : Nat} (h : a < 2 * n) : atT (2 * n) (-1 - (a : Int)) = a := by
  unfold atT; rw [if_neg (by omega)]; omega
theorem at_cases {n a : Nat} {st : Int} (ha : a < 2 * n) (h0 : -((2 * n : Nat) : Int) ≤ st) (h1 : st < (2 * n : Nat)) (h : atT (2 * n) st = a) : st = (bf n a : Nat) ∨ st = -1 - (a : Int) := by
  unfold atT at h
  split at h
  · left
    unfold bf
    by_cases e : st + 1 = (2 * n : Nat)
    · rw [e, Int.tmod_self] at h; rw [if_pos (by omega)]; omega
    · rw [Int.tmod_eq_emod_of_nonneg (by omega), Int.emod_eq_of_lt (by omega) (by omega)] at h
      rw [if_neg (by omega)]; omega
  · right; omega
theorem tm_bf {n o : Nat} (h : o < 2 * n) : ((o : Int) + (2 * n : Nat) - 1).tmod (2 * n : Nat) = (bf n o : Nat) := by
  rw [Int.tmod_eq_emod_of_nonneg (by omega)]
  unfold bf; split
  · rename_i h0; subst h0
    rw [Int.emod_eq_of_lt (by omega) (by omega)]; omega
  · rw [show (o : Int) + (2 * n : Nat) - 1 = ((o - 1 : Nat) : Int) + (2 * n : Nat) by omega, Int.add_emod_right, Int.emod_eq_of_lt (by omega) (by omega)]

/-- A crossing: the positions of a letter, and where its four steps lead. -/
structure Cr (w s : List Int) (n x p q : Nat) : Prop where
  pq : p < q
  hq : q < 2 * n
  pl : placesT w x = [(p : Int), (q : Int)]
  wp : w.getD p 0 = x
  wq : w.getD q 0 = x
  all : ∀ i, i < 2 * n → w.getD i 0 = x → i = p ∨ i = q
  nx : s.getD x 0 = 1 ∧ nextT w s (bf n p : Nat) = -1 - (bf n q : Nat) ∧ nextT w s (-1 - (p : Int)) = q ∧ nextT w s (bf n q : Nat) = p ∧ nextT w s (-1 - (q : Int)) = -1 - (bf n p : Nat)
    ∨ s.getD x 0 = -1 ∧ nextT w s (bf n p : Nat) = q ∧ nextT w s (-1 - (p : Int)) = -1 - (bf n q : Nat) ∧ nextT w s (bf n q : Nat) = -1 - (bf n p : Nat) ∧ nextT w s (-1 - (q : Int)) = p

theorem cr_of {w s : List Int} {n : Nat} (h : Word w n) (hs : s.all (fun x => decide (x = 1) || decide (x = -1)) = true) (hl : s.length = n) {x : Nat} (hx : x < n) : ∃ p q, Cr w s n x p q := by
  obtain ⟨p, q, hpq, hq, hpl, hwp, hwq, hall⟩ := h.places hx
  refine ⟨p, q, hpq, hq, hpl, hwp, hwq, hall, ?_⟩
  have key : ∀ (st : Int) (a : Nat), a < 2 * n → w.getD a 0 = x → -((2 * n : Nat) : Int) ≤ st → st < (2 * n : Nat) → atT (2 * n) st = a →
      nextT w s st = if decide (0 ≤ st) == (decide (s.getD x 0 = 1) == decide (a = p)) then (-1 : Int) - ((bf n (p + q - a) : Nat) : Int) else ((p + q - a : Nat) : Int) := by
    intro st a ha hwa h0 h1 hat
    obtain ⟨a', x', p', q', H⟩ := at_of h hs hl h0 h1
    have e1 : a' = a := by have := H.at_; omega
    subst e1
    have e2 : x' = x := by have := H.wa; omega
    subst e2
    have e3 := H.pl
    rw [hpl] at e3
    simp at e3
    obtain ⟨e4, e5⟩ := e3
    have e4 : p = p' := by omega
    have e5 : q = q' := by omega
    subst e4 e5
    have h2 := H.hp
    rw [H.nx]
    rw [show (p : Int) + q - a' = ((p + q - a' : Nat) : Int) by omega, tm_bf (by omega)]
  have hm : s.getD x 0 ∈ s := mem_getD (by omega)
  have hsg := List.all_eq_true.1 hs _ hm
  have k1 := key (bf n p : Nat) p (by omega) hwp (by have := bf_lt (n := n) (a := p) (by omega); omega) (by have := bf_lt (n := n) (a := p) (by omega); omega) (at_bf (by omega))
  have k2 := key (-1 - (p : Int)) p (by omega) hwp (by omega) (by omega) (at_neg (by omega))
  have k3 := key (bf n q : Nat) q (by omega) hwq (by have := bf_lt (n := n) (a := q) (by omega); omega) (by have := bf_lt (n := n) (a := q) (by omega); omega) (at_bf (by omega))
  have k4 := key (-1 - (q : Int)) q (by omega) hwq (by omega) (by omega) (at_neg (by omega))
  have hqp : ¬ q = p := by omega
  have n1 : ¬ (0 : Int) ≤ -1 - (p : Int) := by omega
  have n2 : ¬ (0 : Int) ≤ -1 - (q : Int) := by omega
  have p1 : (0 : Int) ≤ (bf n p : Nat) := by omega
  have p2 : (0 : Int) ≤ (bf n q : Nat) := by omega
  rw [show p + q - p = q by omega] at k1 k2
  rw [show p + q - q = p by omega] at k3 k4
  simp only [n1, n2, p1, p2, hqp, decide_true, decide_false] at k1 k2 k3 k4
  have hsg2 : s.getD x 0 = 1 ∨ s.getD x 0 = -1 := by simpa using hsg
  rcases hsg2 with e | e
  · left
    rw [e] at k1 k2 k3 k4
    exact ⟨e, by simpa using k1, by simpa using k2, by simpa using k3, by simpa using k4⟩
  · right
    rw [e] at k1 k2 k3 k4
    exact ⟨e, by simpa using k1, by simpa using k2, by simpa using k3, by simpa using k4⟩

theorem sw_comm {f : Nat → Nat} {a b : Nat} (h : a ≠ b) (x : Nat) : sw a b f x = sw b a f x := by
  unfold sw; split <;> split <;> first | rfl | omega
theorem flip' {N : Nat} {f : Nat → Nat} {a b : Nat} (h : Pm f N) (hab : a ≠ b) (ha : a < N) (hb : b < N) : (cyc (sw a b f) N + cyc f N) % 2 = 1 := by
  by_cases h1 : a < b
  · exact flip h h1 hb
  · rw [cyc_congr fun x _ => sw_comm hab x]; exact flip h (by omega) ha
theorem Pm.congr {f g : Nat → Nat} {N : Nat} (h : Pm f N) (e : ∀ x, x < N → f x = g x) : Pm g N :=
  ⟨fun x hx => by rw [← e x hx]; exact h.lt x hx, fun x y hx hy he => h.inj x y hx hy (by rw [e x hx, e y hy, he])⟩
/-- The first j pairs of numbers exchanged from outside. -/
def chi (N j : Nat) : Nat → Nat := fun k => if k < j ∨ N - j ≤ k then N - 1 - k else k
theorem chi_ok {M : Nat} : ∀ j, j ≤ M → Pm (chi (2 * M) j) (2 * M) ∧ (cyc (chi (2 * M) j) (2 * M) + j) % 2 = 0
  | 0, _ => by
    have e : ∀ x, x < 2 * M → (fun x => x) x = chi (2 * M) 0 x := fun x hx => by unfold chi; exact (if_neg (by omega)).symm
    refine ⟨Pm.congr ⟨fun x hx => hx, fun x y _ _ h => h⟩ e, ?_⟩
    rw [← cyc_congr e, cyc_id]; omega
  | j + 1, hj => by
    obtain ⟨h1, h2⟩ := chi_ok (M := M) j (by omega)
    have e : ∀ x, x < 2 * M → sw j (2 * M - 1 - j) (chi (2 * M) j) x = chi (2 * M) (j + 1) x := fun x hx => by
      unfold sw chi
      by_cases h3 : x = j
      · rw [if_pos h3, if_neg (by omega), if_pos (by omega)]; omega
      · rw [if_neg h3]
        by_cases h4 : x = 2 * M - 1 - j
        · subst h4; rw [if_pos rfl, if_neg (by omega), if_pos (by omega)]; omega
        · rw [if_neg h4]
          by_cases h5 : x < j ∨ 2 * M - j ≤ x
          · have h6 : x < j + 1 ∨ 2 * M - (j + 1) ≤ x := by omega
            rw [if_pos h5, if_pos h6]
          · have h6 : ¬ (x < j + 1 ∨ 2 * M - (j + 1) ≤ x) := by omega
            rw [if_neg h5, if_neg h6]
    refine ⟨(h1.sw (by omega) (by omega)).congr e, ?_⟩
    have := flip' h1 (a := j) (b := 2 * M - 1 - j) (by omega) (by omega) (by omega)
    rw [cyc_congr e] at this
    omega
/-- The map in which the letters below k lead on, and the others back. -/
def nuK (w s : List Int) (k : Nat) (st : Int) : Int := if w.getD (atT w.length st).toNat 0 < k then nextT w s st else -1 - st
theorem rot3 {f g : Nat → Nat} {N a b c d : Nat} (h : Pm f N) (ha : a < N) (hb : b < N) (hc : c < N) (hd : d < N) (hab : a ≠ b) (hac : a ≠ c) (had : a ≠ d) (hbc : b ≠ c) (hbd : b ≠ d) (hcd : c ≠ d)
    (e1 : g a = f c) (e2 : g c = f b) (e3 : g b = f d) (e4 : g d = f a) (e : ∀ x, x < N → x ≠ a → x ≠ b → x ≠ c → x ≠ d → g x = f x) : Pm g N ∧ (cyc g N + cyc f N) % 2 = 1 := by
  have h1 := h.sw (a := a) (b := c) ha hc
  have h2 := h1.sw (a := c) (b := b) hc hb
  have h3 := h2.sw (a := b) (b := d) hb hd
  have eq : ∀ x, x < N → sw b d (sw c b (sw a c f)) x = g x := fun x hx => by
    unfold sw
    by_cases x1 : x = a
    · subst x1; simp [*]
    · by_cases x2 : x = b
      · subst x2; simp [*, Ne.symm hbd, Ne.symm hcd, Ne.symm had]
      · by_cases x3 : x = c
        · subst x3; simp [*, Ne.symm hbc, Ne.symm hab]
        · by_cases x4 : x = d
          · subst x4; simp [*, Ne.symm hbc, Ne.symm hab, Ne.symm hac]
          · simp [*]
  refine ⟨h3.congr eq, ?_⟩
  have f1 := flip' h hac ha hc
  have f2 := flip' h1 (Ne.symm hbc) hc hb
  have f3 := flip' h2 hbd hb hd
  rw [cyc_congr eq] at f3
  omega
theorem nu_ok {w s : List Int} {n : Nat} (h : Word w n) (hs : s.all (fun x => decide (x = 1) || decide (x = -1)) = true) (hl : s.length = n) : ∀ k, k ≤ n → Pm (up (nuK w s k) (2 * n)) (2 * (2 * n)) ∧ (cyc (up (nuK w s k) (2 * n)) (2 * (2 * n)) + k) % 2 = 0
  | 0, _ => by
    have e : ∀ x, x < 2 * (2 * n) → chi (2 * (2 * n)) (2 * n) x = up (nuK w s 0) (2 * n) x := fun x hx => by
      have h1 := atT_lt (m := 2 * n) (st := (x : Int) - (2 * n : Nat)) (by have := h.pos; omega) (by omega) (by omega)
      have h2 := h.rg (atT (2 * n) ((x : Int) - (2 * n : Nat))).toNat (by omega)
      unfold chi up nuK
      have h3 : x < 2 * n ∨ 2 * (2 * n) - 2 * n ≤ x := by omega
      rw [h.len, if_pos h3, if_neg (by omega)]; omega
    obtain ⟨h1, h2⟩ := chi_ok (M := 2 * n) (2 * n) (Nat.le_refl _)
    refine ⟨h1.congr e, ?_⟩
    rw [← cyc_congr e]; omega
  | k + 1, hk => by
    obtain ⟨h1, h2⟩ := nu_ok h hs hl k (by omega)
    obtain ⟨p, q, C⟩ := cr_of h hs hl (x := k) (by omega)
    have hpq := C.pq; have hq := C.hq
    have bp := bf_lt (n := n) (a := p) (by omega)
    have bq := bf_lt (n := n) (a := q) (by omega)
    have bne : bf n p ≠ bf n q := fun e => by have := bf_inj (by omega) (by omega) e; omega
    have upv : ∀ (st : Int) (j : Nat), -((2 * n : Nat) : Int) ≤ st → up (nuK w s j) (2 * n) (st + (2 * n : Nat)).toNat = (nuK w s j st + (2 * n : Nat)).toNat := fun st j h0 => by
      unfold up; rw [show (((st + (2 * n : Nat)).toNat : Nat) : Int) - (2 * n : Nat) = st by omega]
    have old : ∀ (st : Int) (a : Nat), atT (2 * n) st = a → w.getD a 0 = k → nuK w s k st = -1 - st := fun st a ha hw => by
      unfold nuK; rw [h.len, ha, Int.toNat_natCast, hw, if_neg (by omega)]
    have new : ∀ (st : Int) (a : Nat), atT (2 * n) st = a → w.getD a 0 = k → nuK w s (k + 1) st = nextT w s st := fun st a ha hw => by
      unfold nuK; rw [h.len, ha, Int.toNat_natCast, hw, if_pos (by omega)]
    have oA := old _ _ (at_bf (n := n) (a := p) (by omega)) C.wp
    have oB := old _ _ (at_neg (n := n) (a := p) (by omega)) C.wp
    have oC := old _ _ (at_bf (n := n) (a := q) (by omega)) C.wq
    have oD := old _ _ (at_neg (n := n) (a := q) (by omega)) C.wq
    have nA := new _ _ (at_bf (n := n) (a := p) (by omega)) C.wp
    have nB := new _ _ (at_neg (n := n) (a := p) (by omega)) C.wp
    have nC := new _ _ (at_bf (n := n) (a := q) (by omega)) C.wq
    have nD := new _ _ (at_neg (n := n) (a := q) (by omega)) C.wq
    have rest : ∀ x, x < 2 * (2 * n) → x ≠ (((bf n p : Nat) : Int) + (2 * n : Nat)).toNat → x ≠ ((-1 - (p : Int)) + (2 * n : Nat)).toNat → x ≠ (((bf n q : Nat) : Int) + (2 * n : Nat)).toNat → x ≠ ((-1 - (q : Int)) + (2 * n : Nat)).toNat → up (nuK w s (k + 1)) (2 * n) x = up (nuK w s k) (2 * n) x := fun x hx x1 x2 x3 x4 => by
      obtain ⟨a, y, _, _, H⟩ := at_of h hs hl (st := (x : Int) - (2 * n : Nat)) (by omega) (by omega)
      have hy : y ≠ k := fun e => by
        have h5 := C.all a H.ha (by rw [H.wa, e])
        have h6 := at_cases H.ha (by omega) (by omega) H.at_
        rcases h5 with e5 | e5 <;> subst e5 <;> rcases h6 with h6 | h6 <;> omega
      unfold up nuK
      rw [h.len, H.at_, Int.toNat_natCast, H.wa]
      by_cases h7 : (y : Int) < k
      · rw [if_pos h7, if_pos (by omega)]
      · rw [if_neg h7, if_neg (by omega)]
    have uA := fun j => upv (bf n p : Nat) j (by omega)
    have uB := fun j => upv (-1 - (p : Int)) j (by omega)
    have uC := fun j => upv (bf n q : Nat) j (by omega)
    have uD := fun j => upv (-1 - (q : Int)) j (by omega)
    rcases C.nx with ⟨_, v1, v2, v3, v4⟩ | ⟨_, v1, v2, v3, v4⟩
    · have R := rot3 (g := up (nuK w s (k + 1)) (2 * n)) h1 (a := (((bf n p : Nat) : Int) + (2 * n : Nat)).toNat) (b := ((-1 - (p : Int)) + (2 * n : Nat)).toNat) (c := (((bf n q : Nat) : Int) + (2 * n : Nat)).toNat) (d := ((-1 - (q : Int)) + (2 * n : Nat)).toNat)
        (by omega) (by omega) (by omega) (by omega) (by omega) (by omega) (by omega) (by omega) (by omega) (by omega)
        (by rw [uA, uC, oC, nA, v1]) (by rw [uC, uB, oB, nC, v3]; omega) (by rw [uB, uD, oD, nB, v2]; omega) (by rw [uD, uA, oA, nD, v4]) rest
      exact ⟨R.1, by have := R.2; omega⟩
    · have R := rot3 (g := up (nuK w s (k + 1)) (2 * n)) h1 (a := (((bf n p : Nat) : Int) + (2 * n : Nat)).toNat) (b := ((-1 - (p : Int)) + (2 * n : Nat)).toNat) (c := ((-1 - (q : Int)) + (2 * n : Nat)).toNat) (d := (((bf n q : Nat) : Int) + (2 * n : Nat)).toNat)
        (by omega) (by omega) (by omega) (by omega) (by omega) (by omega) (by omega) (by omega) (by omega) (by omega)
        (by rw [uA, uD, oD, nA, v1]; omega) (by rw [uD, uB, oB, nD, v4]; omega) (by rw [uB, uC, oC, nB, v2]) (by rw [uC, uA, oA, nC, v3]) (fun x hx x1 x2 x3 x4 => rest x hx x1 x2 x4 x3)
      exact ⟨R.1, by have := R.2; omega⟩
theorem nu_all {w s : List Int} {n : Nat} (h : Word w n) {st : Int} (h0 : -((2 * n : Nat) : Int) ≤ st) (h1 : st < (2 * n : Nat)) : nuK w s n st = nextT w s st := by
  have h2 := atT_lt (m := 2 * n) (st := st) (by have := h.pos; omega) h0 h1
  have h3 := h.rg (atT (2 * n) st).toNat (by omega)
  unfold nuK; rw [h.len, if_pos h3.2]
theorem next_pn {w s : List Int} {n : Nat} (h : Word w n) (hs : s.all (fun x => decide (x = 1) || decide (x = -1)) = true) (hl : s.length = n) : Pn (nextT w s) (2 * n) := by
  have hr : ∀ st, -((2 * n : Nat) : Int) ≤ st → st < (2 * n : Nat) → -((2 * n : Nat) : Int) ≤ nextT w s st ∧ nextT w s st < (2 * n : Nat) := fun st h0 h1 => by
    obtain ⟨a, x, p, q, H⟩ := at_of h hs hl h0 h1; exact H.rg
  refine ⟨hr, fun x y hx0 hx1 hy0 hy1 e => ?_⟩
  have P := (nu_ok h hs hl n (Nat.le_refl _)).1
  have h1 := hr x hx0 hx1
  have := P.inj (x + (2 * n : Nat)).toNat (y + (2 * n : Nat)).toNat (by omega) (by omega) (by
    unfold up
    rw [show (((x + (2 * n : Nat)).toNat : Nat) : Int) - (2 * n : Nat) = x by omega, show (((y + (2 * n : Nat)).toNat : Nat) : Int) - (2 * n : Nat) = y by omega, nu_all h hx0 hx1, nu_all h hy0 hy1, e])
  omega
/-- The number of faces is even where the number of letters is. -/
theorem faces_par {w s : List Int} {n : Nat} (h : Word w n) (hs : s.all (fun x => decide (x = 1) || decide (x = -1)) = true) (hl : s.length = n) : ((facesT (nextT w s) (2 * n)).length + n) % 2 = 0 := by
  rw [facesT_cyc (next_pn h hs hl)]
  have := (nu_ok h hs hl n (Nat.le_refl _)).2
  rw [cyc_congr (g := up (nextT w s) (2 * n)) fun x hx => by unfold up; rw [nu_all h (by omega) (by omega)]] at this
  exact this
end Go.Scr
/- How many faces there are at most; the two colours of the faces of a plane word; faces with all signs changed. No condition. -/
namespace Go.Scr
set_option linter.unusedVariables false
set_option linter.unusedSimpArgs false

/-! ### Sums of sets -/
def comb {α : Type} : List Bool → List (α → Bool) → α → Bool
  | c :: cs, v :: vs, j => (c && v j) ^^ comb cs vs j
  | _, _, _ => false
theorem comb_app {α : Type} {j : α} : ∀ {c1 : List Bool} {L1 : List (α → Bool)} {c2 : List Bool} {L2 : List (α → Bool)}, c1.length = L1.length → comb (c1 ++ c2) (L1 ++ L2) j = (comb c1 L1 j ^^ comb c2 L2 j)
  | [], [], c2, L2, _ => by simp [comb]
  | c :: c1, v :: L1, c2, L2, h => by
    simp only [List.cons_append, comb, comb_app (c1 := c1) (L1 := L1) (by simpa using h), Bool.xor_assoc]
  | [], _ :: _, _, _, h => by simp at h
  | _ :: _, [], _, _, h => by simp at h
theorem comb_zero {α : Type} {j : α} : ∀ {c : List Bool} {L : List (α → Bool)}, (∀ v ∈ L, v j = false) → comb c L j = false
  | [], _, _ => by simp [comb]
  | _ :: _, [], _ => by simp [comb]
  | c :: cs, v :: vs, h => by rw [comb, h v (by simp), comb_zero fun u hu => h u (by simp [hu])]; simp
theorem comb_map {j m : Nat} {v : Nat → Bool} : ∀ {c : List Bool} {L : List (Nat → Bool)}, comb c (L.map fun u => fun i => u i ^^ (u m && v i)) j = (comb c L j ^^ (comb c L m && v j))
  | [], _ => by simp [comb]
  | _ :: _, [] => by simp [comb]
  | c :: cs, u :: us => by
    simp only [List.map_cons, comb, comb_map (c := cs) (L := us)]
    cases c <;> cases u j <;> cases u m <;> cases v j <;> cases comb cs us j <;> cases comb cs us m <;> rfl
/-- More sets than elements: some of them add up to nothing. -/
theorem dep : ∀ (m : Nat) (L : List (Nat → Bool)), m < L.length → ∃ c : List Bool, c.length = L.length ∧ true ∈ c ∧ ∀ j, j < m → comb c L j = false
  | 0, L, h => ⟨List.replicate L.length true, by simp, by rw [List.mem_replicate]; exact ⟨by omega, rfl⟩, fun j hj => by omega⟩
  | m + 1, L, h => by
    by_cases hv : ∃ v ∈ L, v m = true
    · obtain ⟨v, hv, hm⟩ := hv
      obtain ⟨A, B, rfl⟩ := List.append_of_mem hv
      obtain ⟨c, h1, h2, h3⟩ := dep m ((A ++ B).map fun u => fun i => u i ^^ (u m && v i)) (by simp at h ⊢; omega)
      simp only [comb_map] at h3
      have hc : c = c.take A.length ++ c.drop A.length := (List.take_append_drop _ _).symm
      have hl : (c.take A.length).length = A.length := by simp at h1 ⊢; omega
      have hl2 : (c.drop A.length).length = B.length := by simp at h1 ⊢; omega
      generalize c.take A.length = c1 at *
      generalize c.drop A.length = c2 at *
      subst hc
      refine ⟨c1 ++ comb (c1 ++ c2) (A ++ B) m :: c2, by simp; omega, ?_, fun j hj => ?_⟩
      · rcases List.mem_append.1 h2 with h | h <;> simp [h]
      · rw [comb_app hl, comb]
        by_cases hjm : j = m
        · subst hjm
          rw [comb_app hl, hm]
          cases comb c1 A j <;> cases comb c2 B j <;> rfl
        · have h4 := h3 j (by omega)
          rw [comb_app hl] at h4
          rw [← h4]
          cases comb c1 A j <;> cases comb c2 B j <;> cases comb (c1 ++ c2) (A ++ B) m <;> cases v j <;> rfl
    · obtain ⟨c, h1, h2, h3⟩ := dep m L (by omega)
      refine ⟨c, h1, h2, fun j hj => ?_⟩
      by_cases hjm : j = m
      · subst hjm
        exact comb_zero fun v hv' => by
          cases e : v j with
          | false => rfl
          | true => exact absurd ⟨v, hv', e⟩ hv
      · exact h3 j (by omega)

/-! ### Faces as sets of steps and of edges -/
def ind (f : List Int) : Int → Bool := fun s => decide (s ∈ f)
def dv (f : List Int) : Nat → Bool := fun e => decide ((e : Int) ∈ f) ^^ decide (-1 - (e : Int) ∈ f)
def uv (t : Nat) : Nat → Bool := fun e => decide (e = t)
theorem comb_dv {e : Nat} : ∀ {c : List Bool} {fs : List (List Int)}, comb c (fs.map dv) e = (comb c (fs.map ind) (e : Int) ^^ comb c (fs.map ind) (-1 - (e : Int)))
  | [], _ => by simp [comb]
  | _ :: _, [] => by simp [comb]
  | c :: cs, f :: fs => by
    simp only [List.map_cons, comb, comb_dv (c := cs) (fs := fs), dv, ind]
    cases c <;> cases decide ((e : Int) ∈ f) <;> cases decide (-1 - (e : Int) ∈ f) <;> cases comb cs (fs.map ind) (e : Int) <;> cases comb cs (fs.map ind) (-1 - (e : Int)) <;> rfl
theorem comb_uv {e : Nat} {c : List Bool} {ts : List Nat} (h : ¬ e ∈ ts) : comb c (ts.map uv) e = false := comb_zero fun v hv => by
  obtain ⟨t, ht, rfl⟩ := List.mem_map.1 hv
  unfold uv; rw [decide_eq_false]; rintro rfl; exact h ht
theorem comb_cl {nx : Int → Int} {m : Nat} : ∀ {c : List Bool} {fs : List (List Int)}, (∀ f ∈ fs, Fac nx m f) → Cl nx m (comb c (fs.map ind))
  | [], _, _ => fun x _ _ => by simp [comb]
  | _ :: _, [], _ => fun x _ _ => by simp [comb]
  | c :: cs, f :: fs, h => fun x h0 h1 => by
    have h2 := comb_cl (c := cs) (fs := fs) (fun g hg => h g (by simp [hg])) x h0 h1
    have h3 : ind f x = ind f (nx x) := by unfold ind; rw [decide_eq_decide]; exact (h f (by simp)).cl x h0 h1
    simp only [List.map_cons, comb, h2, h3]
/-- Where a step lies in one of some faces without common steps, the sum there is that face's. -/
theorem comb_at {α : Type} {j : α} : ∀ {c : List Bool} {L : List (α → Bool)} {i : Nat}, c.length = L.length → i < L.length → (∀ k, k < L.length → ((L.getD k fun _ => false) j = true ↔ k = i)) → comb c L j = c.getD i false
  | [], [], i, _, h, _ => by simp at h
  | _ :: _, [], i, h, _, _ => by simp at h
  | [], _ :: _, i, h, _, _ => by simp at h
  | c :: cs, v :: vs, 0, hl, hi, h => by
    have h0 := (h 0 (by simp)).2 rfl
    simp at h0
    rw [comb, h0, comb_zero fun u hu => ?_]
    · simp
    · obtain ⟨k, hk, e⟩ := List.getElem_of_mem hu
      have := h (k + 1) (by simp; omega)
      simp [hk, e] at this
      exact this
  | c :: cs, v :: vs, i + 1, hl, hi, h => by
    have h0 := h 0 (by simp)
    simp at h0
    rw [comb, h0, comb_at (i := i) (by simpa using hl) (by simpa using hi) fun k hk => ?_]
    · simp
    · have := h (k + 1) (by simp; omega)
      simpa using this

/-- A closed set of steps that has both or none of the steps of each edge has all steps or none. -/
theorem conn {w s : List Int} {n : Nat} (h : Word w n) (hs : s.all (fun x => decide (x = 1) || decide (x = -1)) = true) (hl : s.length = n) {X : Int → Bool} (hX : Cl (nextT w s) (2 * n) X)
    (he : ∀ e : Nat, e < 2 * n → X e = X (-1 - (e : Int))) : ∀ st, -((2 * n : Nat) : Int) ≤ st → st < (2 * n : Nat) → X st = X 0 := by
  have hpos := h.pos
  have k : ∀ a : Nat, a < 2 * n → X (bf n a : Nat) = X a := fun a ha => by
    have hx := h.rg a ha
    obtain ⟨p, q, C⟩ := cr_of h hs hl (x := (w.getD a 0).toNat) (by omega)
    have hpq := C.pq; have hq := C.hq
    have bp := bf_lt (n := n) (a := p) (by omega)
    have bq := bf_lt (n := n) (a := q) (by omega)
    have e1 := hX (bf n p : Nat) (by omega) (by omega)
    have e2 := hX (-1 - (p : Int)) (by omega) (by omega)
    have e3 := hX (bf n q : Nat) (by omega) (by omega)
    have e4 := hX (-1 - (q : Int)) (by omega) (by omega)
    have g1 := he _ bp; have g2 := he _ bq; have g3 := he p (by omega); have g4 := he q (by omega)
    have hall := C.all a ha (by omega)
    rcases C.nx with ⟨_, v1, v2, v3, v4⟩ | ⟨_, v1, v2, v3, v4⟩ <;> rw [v1] at e1 <;> rw [v2] at e2 <;> rw [v3] at e3 <;> rw [v4] at e4 <;> rcases hall with e | e <;> subst e <;> simp_all
  have k2 : ∀ a : Nat, a < 2 * n → X (a : Int) = X 0 := by
    intro a
    induction a with
    | zero => intro _; rfl
    | succ a ih =>
      intro ha
      have := k (a + 1) ha
      unfold bf at this
      rw [if_neg (by omega)] at this
      rw [← this]; exact ih (by omega)
  intro st h0 h1
  by_cases h2 : 0 ≤ st
  · have := k2 st.toNat (by omega)
    rwa [show ((st.toNat : Nat) : Int) = st by omega] at this
  · have h3 := he (-1 - st).toNat (by omega)
    have := k2 (-1 - st).toNat (by omega)
    rw [show (((-1 - st).toNat : Nat) : Int) = -1 - st by omega] at this h3
    rw [show -1 - (-1 - st) = st by omega] at h3
    rw [← h3, this]
/-- At each crossing the border of a closed set has an even number of ends. -/
theorem even_at {w s : List Int} {n x p q : Nat} (C : Cr w s n x p q) {X : Int → Bool} (hX : Cl (nextT w s) (2 * n) X) {z : Nat → Bool} {c : Bool} (hz : ∀ e, z e = (c ^^ (X (e : Int) ^^ X (-1 - (e : Int))))) : (z (bf n p) ^^ z p ^^ z (bf n q) ^^ z q) = false := by
  have hpq := C.pq; have hq := C.hq
  have bp := bf_lt (n := n) (a := p) (by omega)
  have bq := bf_lt (n := n) (a := q) (by omega)
  have e1 := hX (bf n p : Nat) (by omega) (by omega)
  have e2 := hX (-1 - (p : Int)) (by omega) (by omega)
  have e3 := hX (bf n q : Nat) (by omega) (by omega)
  have e4 := hX (-1 - (q : Int)) (by omega) (by omega)
  simp only [hz]
  rcases C.nx with ⟨_, v1, v2, v3, v4⟩ | ⟨_, v1, v2, v3, v4⟩ <;> rw [v1] at e1 <;> rw [v2] at e2 <;> rw [v3] at e3 <;> rw [v4] at e4 <;> rw [e1, e2, e3, e4] <;>
    cases c <;> cases X p <;> cases X q <;> cases X (-1 - ((bf n p : Nat) : Int)) <;> cases X (-1 - ((bf n q : Nat) : Int)) <;> rfl
/-- The first position of a letter. -/
def fst (w : List Int) (x : Nat) : Nat := ((placesT w x).getD 0 0).toNat
theorem Cr.fst {w s : List Int} {n x p q : Nat} (C : Cr w s n x p q) : fst w x = p := by unfold Scr.fst; rw [C.pl]; simp
/-- The edges of a tree: those that lead to letters not met before. -/
def tree (w : List Int) (n : Nat) : List Nat := ((List.range n).erase (w.getD 0 0).toNat).map fun x => fst w x - 1
theorem tree_len {w : List Int} {n : Nat} (h : Word w n) : (tree w n).length = n - 1 := by
  have := h.pos
  have := h.rg 0 (by omega)
  unfold tree
  rw [List.length_map, List.length_erase_of_mem (by rw [List.mem_range]; omega), List.length_range]
/-- A set of edges with an even number of ends at each crossing, and none outside of the tree, is empty. -/
theorem tree_zero {w s : List Int} {n : Nat} (h : Word w n) (hs : s.all (fun x => decide (x = 1) || decide (x = -1)) = true) (hl : s.length = n) {z : Nat → Bool}
    (hz : ∀ x p q, x < n → Cr w s n x p q → (z (bf n p) ^^ z p ^^ z (bf n q) ^^ z q) = false) (ht : ∀ e, e < 2 * n → ¬ e ∈ tree w n → z e = false) : ∀ k e, e < 2 * n → 2 * n ≤ e + k → z e = false
  | 0, e, h1, h2 => by omega
  | k + 1, e, h1, h2 => by
    by_cases he : e ∈ tree w n
    · obtain ⟨x, hx, hxe⟩ := List.mem_map.1 he
      have hx1 : x < n := by have := List.mem_of_mem_erase hx; rwa [List.mem_range] at this
      have hx2 : x ≠ (w.getD 0 0).toNat := fun e => by
        subst e
        exact (List.nodup_range.not_mem_erase) hx
      obtain ⟨p, q, C⟩ := cr_of h hs hl hx1
      rw [C.fst] at hxe
      have hpq := C.pq; have hq := C.hq
      have hp : p ≠ 0 := fun e => by subst e; have := C.wp; omega
      have h3 := hz x p q hx1 C
      have bp : bf n p = e := by unfold bf; rw [if_neg hp]; exact hxe
      have bq : bf n q = q - 1 := by unfold bf; rw [if_neg (by omega)]
      rw [bp, bq, tree_zero h hs hl hz ht k p (by omega) (by omega), tree_zero h hs hl hz ht k q (by omega) (by omega), tree_zero h hs hl hz ht k (q - 1) (by omega) (by omega)] at h3
      simpa using h3
    · exact ht e h1 he
theorem fst_inj {w : List Int} {n : Nat} (h : Word w n) {x y : Nat} (hx : x < n) (hy : y < n) (e : fst w x = fst w y) : x = y := by
  obtain ⟨p, q, _, _, hp, h1, _⟩ := h.places hx
  obtain ⟨r, t, _, _, hr, h2, _⟩ := h.places hy
  unfold fst at e; rw [hp, hr] at e
  simp at e
  have e : p = r := by omega
  subst e
  omega
theorem tree_nodup {w : List Int} {n : Nat} (h : Word w n) : (tree w n).Nodup := by
  unfold tree List.Nodup
  rw [List.pairwise_map]
  have hn : ((List.range n).erase (w.getD 0 0).toNat).Nodup := List.nodup_range.erase _
  refine hn.imp_of_mem fun {x y} hx hy hxy e => ?_
  have hx1 : x < n := by have := List.mem_of_mem_erase hx; rwa [List.mem_range] at this
  have hy1 : y < n := by have := List.mem_of_mem_erase hy; rwa [List.mem_range] at this
  have px : ∀ {x}, x < n → x ∈ (List.range n).erase (w.getD 0 0).toNat → fst w x ≠ 0 := fun {x} hx1 hx e => by
    have hx2 : x ≠ (w.getD 0 0).toNat := fun e => by subst e; exact (List.nodup_range.not_mem_erase) hx
    obtain ⟨p, q, _, _, hp, h1, _⟩ := h.places hx1
    unfold fst at e; rw [hp] at e
    simp at e
    have e : p = 0 := by omega
    subst e; omega
  have := px hx1 hx
  have := px hy1 hy
  exact hxy (fst_inj h hx1 hy1 (by omega))
theorem tree_lt {w : List Int} {n : Nat} (h : Word w n) : ∀ e ∈ tree w n, e < 2 * n := fun e he => by
  obtain ⟨x, hx, hxe⟩ := List.mem_map.1 he
  have hx1 : x < n := by have := List.mem_of_mem_erase hx; rwa [List.mem_range] at this
  obtain ⟨p, q, h2, h3, hp, h1, _⟩ := h.places hx1
  unfold fst at hxe; rw [hp] at hxe
  simp at hxe
  omega
end Go.Scr
/- At most n + 2 faces; two colours; faces with all signs changed. No condition. -/
namespace Go.Scr
set_option linter.unusedVariables false
set_option linter.unusedSimpArgs false

theorem FK.disj {nx : Int → Int} {m k : Nat} {F : List (List Int)} (h : FK nx m k F) {i j : Nat} (hi : i < F.length) (hj : j < F.length) {x : Int} (h1 : x ∈ F.getD i []) (h2 : x ∈ F.getD j []) : i = j := by
  have hp := (List.pairwise_flatten.1 h.nd).2
  rw [List.pairwise_iff_getElem] at hp
  rw [List.getD_eq_getElem?_getD, List.getElem?_eq_getElem hi] at h1
  rw [List.getD_eq_getElem?_getD, List.getElem?_eq_getElem hj] at h2
  rcases Nat.lt_trichotomy i j with hlt | he | hlt
  · exact absurd rfl (hp i j hi hj hlt x h1 x h2)
  · exact he
  · exact absurd rfl (hp j i hj hi hlt x h2 x h1)
theorem Fac.head {nx : Int → Int} {m : Nat} {f : List Int} (h : Fac nx m f) : f.getD 0 0 ∈ f := mem_getD (List.length_pos_iff.2 h.ne)
theorem getD_mem' {F : List (List Int)} {i : Nat} (h : i < F.length) : F.getD i [] ∈ F := by
  rw [List.getD_eq_getElem?_getD, List.getElem?_eq_getElem h]; exact List.getElem_mem h
theorem mem_true {c : List Bool} (h : ∀ i, i < c.length → c.getD i false = false) : ¬ true ∈ c := fun hc => by
  obtain ⟨i, hi, e⟩ := List.getElem_of_mem hc
  have := h i hi
  rw [List.getD_eq_getElem?_getD, List.getElem?_eq_getElem hi] at this
  simp [e] at this
theorem rel {w s : List Int} {n : Nat} (h : Word w n) (hs : s.all (fun x => decide (x = 1) || decide (x = -1)) = true) (hl : s.length = n) {k : Nat} {f0 : List Int} {fs : List (List Int)} (hF : FK (nextT w s) (2 * n) k (f0 :: fs))
    {c0 : Bool} {c1 c2 : List Bool} (l1 : c1.length = fs.length) (l2 : c2.length = (tree w n).length) (h0 : ∀ e, e < 2 * n → (c0 ^^ (comb c1 (fs.map dv) e ^^ comb c2 ((tree w n).map uv) e)) = false) :
    (∀ e : Nat, e < 2 * n → (comb c1 (fs.map ind) (e : Int) ^^ comb c1 (fs.map ind) (-1 - (e : Int))) = c0) ∧ (c0 = false → ¬ true ∈ c1 ∧ ¬ true ∈ c2) := by
  have hX : Cl (nextT w s) (2 * n) (comb c1 (fs.map ind)) := comb_cl fun f hf => hF.fac f (by simp [hf])
  have hz := tree_zero h hs hl (z := fun e => c0 ^^ (comb c1 (fs.map ind) (e : Int) ^^ comb c1 (fs.map ind) (-1 - (e : Int)))) (fun x p q hx C => even_at C hX fun e => rfl) (fun e he hn => by
    have := h0 e he
    rw [comb_uv hn, comb_dv] at this
    simpa using this) (2 * n)
  have hz2 : ∀ e : Nat, e < 2 * n → (comb c1 (fs.map ind) (e : Int) ^^ comb c1 (fs.map ind) (-1 - (e : Int))) = c0 := fun e he => by
    have := hz e he (by omega)
    revert this
    cases (comb c1 (fs.map ind) (e : Int) ^^ comb c1 (fs.map ind) (-1 - (e : Int))) <;> cases c0 <;> simp
  refine ⟨hz2, fun hc => ?_⟩
  subst hc
  have hc := conn h hs hl hX fun e he => by
    have := hz2 e he
    revert this
    cases comb c1 (fs.map ind) (e : Int) <;> cases comb c1 (fs.map ind) (-1 - (e : Int)) <;> simp
  have hrg : ∀ f, f ∈ f0 :: fs → ∀ x ∈ f, -((2 * n : Nat) : Int) ≤ x ∧ x < (2 * n : Nat) := fun f hf x hx => hF.rg x (List.mem_flatten.2 ⟨f, hf, hx⟩)
  have hh := (hF.fac f0 (by simp)).head
  have hX0 : comb c1 (fs.map ind) (f0.getD 0 0) = false := comb_zero fun v hv => by
    obtain ⟨f, hf, rfl⟩ := List.mem_map.1 hv
    unfold ind; rw [decide_eq_false]
    intro hm
    obtain ⟨i, hi, e⟩ := List.getElem_of_mem hf
    have := hF.disj (i := 0) (j := i + 1) (by simp) (by simp; omega) (x := f0.getD 0 0) (by simpa using hh) (by simp [hi, e]; simpa using hm)
    omega
  have hX1 : ∀ st, -((2 * n : Nat) : Int) ≤ st → st < (2 * n : Nat) → comb c1 (fs.map ind) st = false := fun st g0 g1 => by
    have r0 := hrg f0 (by simp) _ hh
    rw [hc st g0 g1, ← hc _ r0.1 r0.2, hX0]
  have n1 : ¬ true ∈ c1 := mem_true fun i hi => by
    have hi2 : i < fs.length := by omega
    have hm := (hF.fac (fs.getD i []) (List.mem_cons_of_mem _ (getD_mem' hi2))).head
    have r := hrg (fs.getD i []) (List.mem_cons_of_mem _ (getD_mem' hi2)) _ hm
    rw [← comb_at (L := fs.map ind) (i := i) (j := (fs.getD i []).getD 0 0) (by simpa using l1) (by simpa using hi2) fun k hk => ?_, hX1 _ r.1 r.2]
    simp only [List.length_map] at hk
    have e : (fs.map ind).getD k (fun _ => false) = ind (fs.getD k []) := by
      simp [List.getD_eq_getElem?_getD, List.getElem?_eq_getElem hk]
    rw [e]
    constructor
    · intro g
      have := hF.disj (i := i + 1) (j := k + 1) (by simp; omega) (by simp; omega) (x := (fs.getD i []).getD 0 0) (by simpa using hm) (by simpa [ind] using g)
      omega
    · rintro rfl; unfold ind; simpa using hm
  refine ⟨n1, mem_true fun i hi => ?_⟩
  have hi2 : i < (tree w n).length := by omega
  have ht : (tree w n).getD i 0 ∈ tree w n := by rw [List.getD_eq_getElem?_getD, List.getElem?_eq_getElem hi2]; exact List.getElem_mem hi2
  have hlt := tree_lt h _ ht
  have h3 := h0 _ hlt
  rw [comb_dv, hX1 _ (by omega) (by omega), hX1 _ (by omega) (by omega)] at h3
  rw [comb_at (L := (tree w n).map uv) (i := i) (by simpa using l2) (by simpa using hi2) fun k hk => ?_] at h3
  · simpa using h3
  · simp only [List.length_map] at hk
    have e : ((tree w n).map uv).getD k (fun _ => false) = uv ((tree w n).getD k 0) := by
      simp [List.getD_eq_getElem?_getD, List.getElem?_eq_getElem hk]
    rw [e]
    unfold uv
    rw [decide_eq_true_iff]
    constructor
    · intro g
      rw [List.getD_eq_getElem?_getD, List.getElem?_eq_getElem hi2, List.getD_eq_getElem?_getD, List.getElem?_eq_getElem hk] at g
      exact ((List.getElem_inj (tree_nodup h)).1 g).symm
    · rintro rfl; rfl
theorem faces_cons {w s : List Int} {n : Nat} (h : Word w n) (hs : s.all (fun x => decide (x = 1) || decide (x = -1)) = true) (hl : s.length = n) : ∃ f0 fs, facesT (nextT w s) (2 * n) = f0 :: fs := by
  have H := facesT_FK (next_pn h hs hl)
  have := H.all 0 (by have := h.pos; omega)
  match hF : facesT (nextT w s) (2 * n) with
  | [] => rw [hF] at this; simp at this
  | f0 :: fs => exact ⟨f0, fs, rfl⟩
/-- There are at most n + 2 faces. -/
theorem faces_le {w s : List Int} {n : Nat} (h : Word w n) (hs : s.all (fun x => decide (x = 1) || decide (x = -1)) = true) (hl : s.length = n) : (facesT (nextT w s) (2 * n)).length ≤ n + 2 := by
  have hpos := h.pos
  obtain ⟨f0, fs, hF⟩ := faces_cons h hs hl
  have H := facesT_FK (next_pn h hs hl)
  rw [hF] at H ⊢
  refine Nat.le_of_not_lt fun hgt => ?_
  simp only [List.length_cons] at hgt
  obtain ⟨c, h1, h2, h3⟩ := dep (2 * n) (fs.map dv ++ (tree w n).map uv) (by simp [tree_len h]; omega)
  simp only [List.length_append, List.length_map] at h1
  have hc : c = c.take fs.length ++ c.drop fs.length := (List.take_append_drop _ _).symm
  have l1 : (c.take fs.length).length = fs.length := by simp; omega
  have l2 : (c.drop fs.length).length = (tree w n).length := by simp; omega
  generalize c.take fs.length = c1 at *
  generalize c.drop fs.length = c2 at *
  subst hc
  have := (rel h hs hl H (c0 := false) l1 l2 fun e he => by
    have := h3 e he
    rw [comb_app (by simpa using l1)] at this
    simpa using this).2 rfl
  rcases List.mem_append.1 h2 with g | g
  · exact this.1 g
  · exact this.2 g
/-- Where there are n + 2 faces, they have two colours. -/
theorem two_colors {w s : List Int} {n : Nat} (h : Word w n) (hs : s.all (fun x => decide (x = 1) || decide (x = -1)) = true) (hl : s.length = n) (hg : (facesT (nextT w s) (2 * n)).length = n + 2) :
    ∃ X, Cl (nextT w s) (2 * n) X ∧ ∀ e : Nat, e < 2 * n → X (-1 - (e : Int)) = ! X (e : Int) := by
  have hpos := h.pos
  obtain ⟨f0, fs, hF⟩ := faces_cons h hs hl
  have H := facesT_FK (next_pn h hs hl)
  rw [hF] at H hg
  simp only [List.length_cons] at hg
  obtain ⟨c, h1, h2, h3⟩ := dep (2 * n) ((fun _ => true) :: (fs.map dv ++ (tree w n).map uv)) (by simp [tree_len h]; omega)
  match c, h1, h2, h3 with
  | [], h1, _, _ => simp at h1
  | c0 :: c, h1, h2, h3 => ?_
  simp only [List.length_cons, List.length_append, List.length_map, Nat.add_right_cancel_iff] at h1
  have hc : c = c.take fs.length ++ c.drop fs.length := (List.take_append_drop _ _).symm
  have l1 : (c.take fs.length).length = fs.length := by simp; omega
  have l2 : (c.drop fs.length).length = (tree w n).length := by simp; omega
  generalize c.take fs.length = c1 at *
  generalize c.drop fs.length = c2 at *
  subst hc
  have R := rel h hs hl H (c0 := c0) l1 l2 fun e he => by
    have := h3 e he
    rw [comb, comb_app (by simpa using l1)] at this
    simpa using this
  have hc0 : c0 = true := by
    cases c0 with
    | true => rfl
    | false =>
      have := R.2 rfl
      simp at h2
      rcases h2 with g | g
      · exact absurd g this.1
      · exact absurd g this.2
  subst hc0
  refine ⟨_, comb_cl (c := c1) (fs := fs) fun f hf => H.fac f (by simp [hf]), fun e he => ?_⟩
  have := R.1 e he
  revert this
  cases comb c1 (fs.map ind) (e : Int) <;> cases comb c1 (fs.map ind) (-1 - (e : Int)) <;> simp

/-- Steps that closed sets keep apart are at most as many as the faces. -/
theorem sep_le {nx : Int → Int} {m : Nat} (h : Pn nx m) {xs : List Int} (hr : ∀ x ∈ xs, -(m : Int) ≤ x ∧ x < m) (hp : xs.Pairwise fun a b => ∃ C, Cl nx m C ∧ C a ≠ C b) : xs.length ≤ (facesT nx m).length := by
  have H := facesT_FK h
  have hex : ∀ x, -(m : Int) ≤ x → x < m → ∃ i, i < (facesT nx m).length ∧ x ∈ (facesT nx m).getD i [] := fun x h0 h1 => by
    have := H.all (x + m).toNat (by omega)
    rw [show (((x + m).toNat : Nat) : Int) - m = x by omega] at this
    obtain ⟨f, hf, hx⟩ := List.mem_flatten.1 this
    obtain ⟨i, hi, e⟩ := List.getElem_of_mem hf
    exact ⟨i, hi, by rw [List.getD_eq_getElem?_getD, List.getElem?_eq_getElem hi]; simpa [e] using hx⟩
  have g : ∃ g : Int → Nat, ∀ x, -(m : Int) ≤ x → x < m → g x < (facesT nx m).length ∧ x ∈ (facesT nx m).getD (g x) [] := by
    refine ⟨fun x => open Classical in if hx : -(m : Int) ≤ x ∧ x < m then (hex x hx.1 hx.2).choose else 0, fun x h0 h1 => ?_⟩
    dsimp only
    rw [dif_pos ⟨h0, h1⟩]
    exact (hex x h0 h1).choose_spec
  obtain ⟨g, hg⟩ := g
  have hn : (xs.map g).Nodup := by
    unfold List.Nodup
    rw [List.pairwise_map]
    refine hp.imp_of_mem fun {a b} ha hb ⟨C, hC, hne⟩ e => ?_
    have ra := hr a ha; have rb := hr b hb
    have ga := hg a ra.1 ra.2; have gb := hg b rb.1 rb.2
    rw [← e] at gb
    have hf := H.fac _ (getD_mem' ga.1)
    generalize (facesT nx m).getD (g a) [] = f at *
    cases hd : C (f.getD 0 0) with
    | true => exact hne (by rw [hf.ch C hC hd a ga.2, hf.ch C hC hd b gb.2])
    | false =>
      have k1 := hf.ch (fun x => ! C x) (fun x h0 h1 => by show (! C x) = (! C (nx x)); rw [hC x h0 h1]) (by show (! C _) = true; rw [hd]; rfl)
      have k2 := k1 a ga.2; have k3 := k1 b gb.2
      exact hne (by revert k2 k3; cases C a <;> cases C b <;> simp)
  have := nodup_lt (n := (facesT nx m).length) hn fun x hx => by
    obtain ⟨y, hy, rfl⟩ := List.mem_map.1 hx
    exact (hg y (hr y hy).1 (hr y hy).2).1
  simpa using this
/-- The first steps of the faces are kept apart by closed sets. -/
theorem heads_sep {nx : Int → Int} {m : Nat} (h : Pn nx m) : ((facesT nx m).map fun f => f.getD 0 0).Pairwise fun a b => ∃ C, Cl nx m C ∧ C a ≠ C b := by
  have H := facesT_FK h
  rw [List.pairwise_map]
  have hp := (List.pairwise_flatten.1 H.nd).2
  refine hp.imp_of_mem fun {f g} hf hg hd => ⟨ind f, fun x h0 h1 => by unfold ind; rw [decide_eq_decide]; exact (H.fac f hf).cl x h0 h1, ?_⟩
  unfold ind
  have h1 := (H.fac f hf).head
  have h2 : ¬ g.getD 0 0 ∈ f := fun hm => hd _ hm _ (H.fac g hg).head rfl
  rw [decide_eq_true h1, decide_eq_false h2]; simp
/-- A map of steps that brings closed sets to closed sets. -/
theorem faces_map {nx nx' : Int → Int} {m m' : Nat} (h : Pn nx m) (h' : Pn nx' m') {φ : Int → Int} (hr : ∀ x, -(m' : Int) ≤ x → x < m' → -(m : Int) ≤ φ x ∧ φ x < m)
    (hc : ∀ D, Cl nx' m' D → ∃ C, Cl nx m C ∧ ∀ x, -(m' : Int) ≤ x → x < m' → C (φ x) = D x) : (facesT nx' m').length ≤ (facesT nx m).length := by
  have H' := facesT_FK h'
  have hin : ∀ f ∈ facesT nx' m', -(m' : Int) ≤ f.getD 0 0 ∧ f.getD 0 0 < m' := fun f hf => H'.rg _ (List.mem_flatten.2 ⟨f, hf, (H'.fac f hf).head⟩)
  have := sep_le h (xs := ((facesT nx' m').map fun f => f.getD 0 0).map φ) (fun x hx => by
    obtain ⟨y, hy, rfl⟩ := List.mem_map.1 hx
    obtain ⟨f, hf, rfl⟩ := List.mem_map.1 hy
    exact hr _ (hin f hf).1 (hin f hf).2) (by
    rw [List.pairwise_map]
    refine (heads_sep h').imp_of_mem fun {a b} ha hb ⟨D, hD, hne⟩ => ?_
    obtain ⟨C, hC, e⟩ := hc D hD
    obtain ⟨f, hf, rfl⟩ := List.mem_map.1 ha
    obtain ⟨g, hg, rfl⟩ := List.mem_map.1 hb
    exact ⟨C, hC, by rw [e _ (hin f hf).1 (hin f hf).2, e _ (hin g hg).1 (hin g hg).2]; exact hne⟩)
  simpa using this
/-- All signs changed: each walk is walked backwards. -/
theorem next_neg {w s t : List Int} {n : Nat} (h : Word w n) (hs : s.all (fun x => decide (x = 1) || decide (x = -1)) = true) (hl : s.length = n) (ht : t.all (fun x => decide (x = 1) || decide (x = -1)) = true) (hlt : t.length = n)
    (hn : ∀ v, v < n → t.getD v 0 = - s.getD v 0) {y : Int} (h0 : -((2 * n : Nat) : Int) ≤ y) (h1 : y < (2 * n : Nat)) : nextT w t (-1 - nextT w s y) = -1 - y := by
  obtain ⟨a, x, p, q, H⟩ := at_of h hs hl h0 h1
  obtain ⟨p, q, C⟩ := cr_of h hs hl H.hx
  obtain ⟨p', q', D⟩ := cr_of h ht hlt H.hx
  have e := C.pl.symm.trans D.pl
  simp at e
  obtain ⟨e1, e2⟩ := e
  have e1 : p = p' := by omega
  have e2 : q = q' := by omega
  subst e1 e2
  have hpq := C.pq; have hq := C.hq
  have h2 := C.all a H.ha H.wa
  have h3 := at_cases H.ha h0 h1 H.at_
  have h4 := hn x H.hx
  rcases C.nx with ⟨f1, v1, v2, v3, v4⟩ | ⟨f1, v1, v2, v3, v4⟩ <;> rcases D.nx with ⟨g1, u1, u2, u3, u4⟩ | ⟨g1, u1, u2, u3, u4⟩ <;> (try omega) <;>
    rcases h2 with e | e <;> subst e <;> rcases h3 with e | e <;> subst e
  · rw [v1, show -1 - (-1 - ((bf n q : Nat) : Int)) = (bf n q : Nat) by omega, u3]
  · rw [v2, u4]; omega
  · rw [v3, u2]
  · rw [v4, show -1 - (-1 - ((bf n p : Nat) : Int)) = (bf n p : Nat) by omega, u1]; omega
  · rw [v1, u4]
  · rw [v2, show -1 - (-1 - ((bf n q : Nat) : Int)) = (bf n q : Nat) by omega, u3]; omega
  · rw [v3, show -1 - (-1 - ((bf n p : Nat) : Int)) = (bf n p : Nat) by omega, u1]
  · rw [v4, u2]; omega
theorem neg_le {w s t : List Int} {n : Nat} (h : Word w n) (hs : s.all (fun x => decide (x = 1) || decide (x = -1)) = true) (hl : s.length = n) (ht : t.all (fun x => decide (x = 1) || decide (x = -1)) = true) (hlt : t.length = n)
    (hn : ∀ v, v < n → t.getD v 0 = - s.getD v 0) : (facesT (nextT w t) (2 * n)).length ≤ (facesT (nextT w s) (2 * n)).length := by
  refine faces_map (next_pn h hs hl) (next_pn h ht hlt) (φ := fun x => -1 - x) (fun x h0 h1 => by omega) fun D hD => ⟨fun y => D (-1 - y), fun y h0 h1 => ?_, fun x h0 h1 => ?_⟩
  · have h2 := (next_pn h hs hl).rg y h0 h1
    show D (-1 - y) = D (-1 - nextT w s y)
    rw [hD (-1 - nextT w s y) (by omega) (by omega), next_neg h hs hl ht hlt hn h0 h1]
  · show D (-1 - (-1 - x)) = D x
    rw [show -1 - (-1 - x) = x by omega]
/-- Changing all signs does not change the number of faces. -/
theorem neg_eq {w s t : List Int} {n : Nat} (h : Word w n) (hs : s.all (fun x => decide (x = 1) || decide (x = -1)) = true) (hl : s.length = n) (ht : t.all (fun x => decide (x = 1) || decide (x = -1)) = true) (hlt : t.length = n)
    (hn : ∀ v, v < n → t.getD v 0 = - s.getD v 0) : (facesT (nextT w t) (2 * n)).length = (facesT (nextT w s) (2 * n)).length :=
  Nat.le_antisymm (neg_le h hs hl ht hlt hn) (neg_le h ht hlt hs hl fun v hv => by have := hn v hv; omega)
end Go.Scr
/- Words by counting letters; what the law asks of faces. No condition. -/
namespace Go.Scr
set_option linter.unusedVariables false
set_option linter.unusedSimpArgs false

theorem placesK_count {w : List Int} {v : Int} : ∀ {k : Nat}, k ≤ w.length → (placesK w v k).length = (w.take k).count v
  | 0, _ => by simp [placesK]
  | k + 1, h => by
    rw [placesK, take_getD' (by omega), List.count_append, ← placesK_count (k := k) (by omega)]
    by_cases e : w.getD k 0 = v
    · rw [if_pos e, e, List.length_append]; simp
    · rw [if_neg e, List.count_singleton]
      have : (w.getD k 0 == v) = false := by simpa using e
      rw [this]; rfl
theorem places_count {w : List Int} {v : Int} : (placesT w v).length = w.count v := by
  rw [placesT, placesK_count (Nat.le_refl _), List.take_length]
theorem word_count {w : List Int} {n : Nat} (h : Word w n) : ∀ v : Nat, v < n → w.count (v : Int) = 2 := fun v hv => by rw [← places_count]; exact h.two v hv
theorem count_word {w : List Int} {n : Nat} (hl : w.length = 2 * n) (hn : 1 ≤ n) (h : ∀ v : Nat, v < n → w.count (v : Int) = 2) : Word w n :=
  word_of hl hn fun v hv => by rw [places_count]; exact h v hv
theorem count_none {w : List Int} {n : Nat} (h : Word w n) {v : Int} (hv : v < 0 ∨ (n : Int) ≤ v) : w.count v = 0 := by
  rw [List.count_eq_zero]
  intro hm
  obtain ⟨i, hi, rfl⟩ := getD_mem hm
  have := h.rg i (by rw [← h.len]; exact hi)
  omega
theorem count_put {l : List Int} {a : Nat} {v u : Int} : (putT l a v).count u = l.count u + if v = u then 1 else 0 := by
  have h : l.count u = (l.take a).count u + (l.drop a).count u := by rw [← List.count_append, List.take_append_drop]
  unfold putT
  rw [List.count_append, List.count_append, List.count_singleton, h]
  by_cases e : v = u
  · subst e; simp; omega
  · have : (v == u) = false := by simpa using e
    rw [this, if_neg e]; simp
/-- A new letter is put in twice. -/
theorem word_put {w : List Int} {n a b : Nat} (h : Word w n) : Word (putT (putT w a n) b n) (n + 1) := by
  refine count_word ?_ (by omega) fun v hv => ?_
  · rw [putT_len, putT_len, h.len]; omega
  · rw [count_put, count_put]
    by_cases e : v = n
    · subst e; rw [count_none h (.inr (by omega)), if_pos rfl]
    · rw [word_count h v (by omega), if_neg (by omega)]
theorem made_word {x : List (Int × Int × Unit)} : ∀ {i : Nat}, Word (madeK x i) (i + 1)
  | 0 => count_word rfl (by omega) fun v hv => by
    have : v = 0 := by omega
    subst this; rfl
  | i + 1 => by
    rw [madeK]
    exact word_put (made_word (i := i))
theorem nodup_sub {α : Type} [DecidableEq α] : ∀ {l l' : List α}, l.Nodup → (∀ x ∈ l, x ∈ l') → l.length ≤ l'.length
  | [], _, _, _ => by simp
  | x :: l, l', hn, h => by
    have hx := h x (by simp)
    have hn' := List.nodup_cons.1 hn
    have := nodup_sub (l := l) (l' := l'.erase x) hn'.2 fun y hy => by
      have : y ≠ x := fun e => hn'.1 (e ▸ hy)
      exact (List.mem_erase_of_ne this).2 (h y (by simp [hy]))
    rw [List.length_erase_of_mem hx] at this
    have := List.length_pos_of_mem hx
    simp; omega
theorem FK.len {nx : Int → Int} {m : Nat} {F : List (List Int)} (h : FK nx m (2 * m) F) : F.flatten.length = 2 * m := by
  refine Nat.le_antisymm (nodup_range h.nd h.rg) ?_
  have := nodup_sub (l := (List.range (2 * m)).map fun (j : Nat) => (j : Int) - m) (l' := F.flatten) ?_ ?_
  · simpa using this
  · rw [List.nodup_iff_pairwise_ne, List.pairwise_map]
    exact (List.nodup_iff_pairwise_ne.1 List.nodup_range).imp fun {a b} h => by omega
  · intro x hx
    obtain ⟨j, hj, rfl⟩ := List.mem_map.1 hx
    exact h.all j (by simpa using hj)
theorem take_face {F : List (List Int)} {j : Nat} (h : j < F.length) : F.take (j + 1) = F.take j ++ [F.getD j []] := by
  rw [List.take_add_one, List.getD_eq_getElem?_getD, List.getElem?_eq_getElem h]; rfl
theorem flat_take {F : List (List Int)} {j : Nat} (h : j < F.length) : (F.take (j + 1)).flatten = (F.take j).flatten ++ F.getD j [] := by
  rw [take_face h]; simp
theorem flat_len {F : List (List Int)} {j : Nat} : (F.take j).flatten.length ≤ F.flatten.length := by
  have : F.flatten = (F.take j).flatten ++ (F.drop j).flatten := by rw [← List.flatten_append, List.take_append_drop]
  rw [this, List.length_append]; omega
/-- What the law asks at the q-th step of the j-th face. -/
theorem FK.at {nx : Int → Int} {m k : Nat} {F : List (List Int)} (h : FK nx m k F) {j q : Nat} (hj : j < F.length) (hq : q < (F.getD j []).length) :
    -(m : Int) ≤ (F.getD j []).getD q 0 ∧ (F.getD j []).getD q 0 < m ∧ ¬ (F.getD j []).getD q 0 ∈ (F.take j).flatten ++ (F.getD j []).take q ∧ (F.getD j []).getD 0 0 ≤ (F.getD j []).getD q 0 := by
  have hf := getD_mem' hj
  have hv : (F.getD j []).getD q 0 ∈ F.getD j [] := mem_getD hq
  have hr := h.rg _ (List.mem_flatten.2 ⟨_, hf, hv⟩)
  refine ⟨hr.1, hr.2, ?_, h.hd _ hf _ hv⟩
  have hnd := h.nd
  rw [← List.take_append_drop (j + 1) F, List.flatten_append, flat_take hj] at hnd
  have hnd := (List.nodup_append.1 hnd).1
  rw [← List.take_append_drop (q + 1) (F.getD j []), take_getD' hq, ← List.append_assoc] at hnd
  have hnd := (List.nodup_append.1 hnd).1
  rw [← List.append_assoc, List.nodup_append] at hnd
  intro hm
  exact hnd.2.2 _ hm _ (by simp) rfl
theorem FK.inc_at {nx : Int → Int} {m k : Nat} {F : List (List Int)} (h : FK nx m k F) {j : Nat} (hj : j + 1 < F.length) : (F.getD j []).getD 0 0 < (F.getD (j + 1) []).getD 0 0 := by
  have := List.pairwise_iff_getElem.1 h.inc j (j + 1) (by simp; omega) (by simpa using hj) (by omega)
  simp only [List.getElem_map] at this
  have e : ∀ i, (hi : i < F.length) → F.getD i [] = F[i] := fun i hi => by rw [List.getD_eq_getElem?_getD, List.getElem?_eq_getElem hi]; rfl
  rw [e j (by omega), e (j + 1) hj]; exact this
theorem FK.ne_at {nx : Int → Int} {m k : Nat} {F : List (List Int)} (h : FK nx m k F) {j : Nat} (hj : j < F.length) : 1 ≤ (F.getD j []).length :=
  List.length_pos_iff.2 (h.fac _ (getD_mem' hj)).ne
/-- The genus by the number of faces. -/
theorem genus_ok {n : Nat} {w s : List Int} (h : Word w n) (hs : s.all (fun x => decide (x = 1) || decide (x = -1)) = true) (hl : s.length = n) : 0 ≤ genusT n w s ∧ 2 * genusT n w s = (n : Int) + 2 - (facesT (nextT w s) (2 * n)).length := by
  have h1 := faces_le h hs hl
  have h2 := faces_par h hs hl
  unfold genusT
  rw [Int.tdiv_eq_ediv_of_nonneg (by omega)]
  omega
end Go.Scr
/- Words made of numbers. No condition. -/
namespace Go.Proofs.Ytdfajcfkdfjoeaa
open Go Go.Vc Go.Scr
set_option linter.unusedVariables false
set_option linter.unusedSimpArgs false

@[reducible] def U2 : Ty := .cons (.int .u8) (.cons (.int .u8) .nil)
/-- Numbers below 256. -/
def small (x : List (Int × Int × Unit)) : Prop := ∀ i : Nat, 0 ≤ (x.getD i (0, 0, ())).1 ∧ (x.getD i (0, 0, ())).1 ≤ 255 ∧ 0 ≤ (x.getD i (0, 0, ())).2.1 ∧ (x.getD i (0, 0, ())).2.1 ≤ 255
theorem tm_nat {p : Int} {l : Nat} (h0 : 0 ≤ p) (k : Nat) (hk : l + 1 = k) : p.tmod ((l : Int) + 1) = ((p.toNat % k : Nat) : Int) := by
  rw [Int.tmod_eq_emod_of_nonneg h0, Int.natCast_emod, Int.toNat_of_nonneg h0, ← hk]; rfl
theorem mod_le' {a k j : Nat} (h : k = j + 1) : a % k ≤ j := by have := Nat.mod_lt a (y := k) (by omega); omega
set_option maxHeartbeats 4000000 in
theorem made_at {x : List (Int × Int × Unit)} (hx : small x) {m c : Nat} (hm : m ≤ 10) (hc : c = min x.length (m - 1)) : FnAt Try.prog false 28 [.arr U2 x, .lit (.int .i64 m)] (.st true (.arr (.int .i64) (madeK x c))) [] := by
  have hxl : ∀ i, @List.getD U2.T x i U2.dflt = x.getD i (0, 0, ()) := fun i => rfl
  have hll : @List.length U2.T x = x.length := rfl
  have hml : ∀ i, @List.length (Ty.int .i64).T (madeK x i) = 2 * i + 2 := fun i => madeK_len
  refine FnAt.of_body tys_ok Try.func28 (by rfl) rfl Try.ntmps28 (by rw [Try.results28]) (by simp) ?_
  
  repeat' (first
 | refine W.seq ?_
 | refine W.block ?_
 | (refine W.region tys_ok [5, 7] ?_; conv => whnf)
 | (refine W.drawAll tys_ok [5, 7] mixed rfl ?_; conv => whnf)
 | (refine W.ret ?_; conv => whnf)
 | (refine W.skip ?_; conv => whnf)
 | (refine W.exit ?_; conv => whnf)

    | (refine W.cond rfl (fun hb => ?_) (fun hb => ?_) <;> (try simp only [Int.reduceToNat, Int.reduceTDiv, Int.reduceTMod, minL, maxL, pickB, zHB] at hb) <;> (try (first | (cases hb; done) | exact absurd hb (by decide) | (exfalso; omega))))
    | ((with_reducible refine And.intro ?_ ?_); (focus ((repeat' (first | (with_reducible rfl) | (with_reducible refine And.intro ?_ ?_) | omega | rfl | exact Or.inl rfl | exact Or.inr rfl | exact of_decide_eq_true rfl | exact Path.imp_of (of_decide_eq_true rfl) | (focus ((try simp only [Int.reduceToNat, Int.reduceTDiv, Int.reduceTMod, minL, maxL, pickB, zHB, InK, Path.imp, List.length_replicate, List.length_set, List.length_append, List.length_cons, List.length_nil] at *); omega)) | (refine app_le rfl ?_; omega))); done)); (conv => whnf))
    | ((with_reducible refine And.intro (Side.out ?_) ?_); rotate_left; (conv => whnf))
    | (refine retF1 ?_ <;> (conv => whnf) <;> repeat' (first
 | exact trivial
 | (with_reducible rfl)
 | ((with_reducible refine And.intro ?_ ?_) <;> conv => whnf)
 | omega
 | rfl
 | (refine congrArg (SV.arr _) ?_)
 | (refine congrArg (Value.int _) ?_)
 | (refine congrArg Value.bool ?_)))
 | (refine retF2 ?_ <;> (conv => whnf) <;> repeat' (first
 | exact trivial
 | (with_reducible rfl)
 | ((with_reducible refine And.intro ?_ ?_) <;> conv => whnf)
 | omega
 | rfl
 | (refine congrArg (SV.arr _) ?_)
 | (refine congrArg (Value.int _) ?_)
 | (refine congrArg Value.bool ?_)))); all_goals (try unfold Side)
  all_goals try (repeat' (first | (with_reducible rfl) | (with_reducible refine And.intro ?_ ?_) | omega | rfl | exact Or.inl rfl | exact Or.inr rfl | exact of_decide_eq_true rfl | exact Path.imp_of (of_decide_eq_true rfl) | (focus ((try simp only [Int.reduceToNat, Int.reduceTDiv, Int.reduceTMod, minL, maxL, pickB, zHB, InK, Path.imp, List.length_replicate, List.length_set, List.length_append, List.length_cons, List.length_nil] at *); omega)) | (refine app_le rfl ?_; omega)))
  refine W.loop (fun i : Nat => ⟨[(0, .st false (.arr U2 x)), (1, .lit (.int .i64 (m))), (5, .st true (.arr (.int .i64) ((madeK x i : List Int) : List Int))), (6, .lit (.int .i64 (i)))], []⟩) (fun i => i ≤ x.length ∧ i ≤ m - 1) (fun i => m - i) (0) ?_ ?_
  · refine ⟨⟨Nat.zero_le _, Nat.zero_le _⟩, ?_⟩
    refine subF.ok ?_ <;> (conv => whnf) <;> repeat' (first
 | exact trivial
 | (with_reducible rfl)
 | ((with_reducible refine And.intro ?_ ?_) <;> conv => whnf)
 | omega
 | rfl
 | (refine congrArg (SV.arr _) ?_)
 | (refine congrArg (Value.int _) ?_)
 | (refine congrArg Value.bool ?_))
  · rintro i ⟨hi, hi2⟩
    have hl := hml i
    obtain ⟨x0, x1, x2, x3⟩ := hx i
    by_cases hil : i < x.length ∧ i + 1 < m
    · obtain ⟨hil, him⟩ := hil
      obtain ⟨p, hp⟩ : ∃ p, p = (x.getD i (0, 0, ())).1 := ⟨_, rfl⟩
      obtain ⟨q, hq⟩ : ∃ q, q = (x.getD i (0, 0, ())).2.1 := ⟨_, rfl⟩
      obtain ⟨v1, hv1⟩ : ∃ v1, v1 = putT (madeK x i) (p.toNat % (2 * i + 3)) (i + 1) := ⟨_, rfl⟩
      have hl1 : @List.length (Ty.int .i64).T v1 = 2 * i + 3 := by show v1.length = _; rw [hv1, putT_len, madeK_len]
      have e2 : putT v1 (q.toNat % (2 * i + 4)) (i + 1) = madeK x (i + 1) := by rw [hv1, hp, hq]; rfl
      have c1 := put_at (w := madeK x i) (a := p.toNat % (2 * i + 3)) (v := i + 1) (by have : (madeK x i).length = _ := hl; rw [this]; exact mod_le' rfl) (by have : (madeK x i).length = _ := hl; omega)
      have c2 := put_at (w := v1) (a := q.toNat % (2 * i + 4)) (v := i + 1) (by have : v1.length = _ := hl1; rw [this]; exact mod_le' rfl) (by have : v1.length = _ := hl1; omega)
      rw [← hv1] at c1
      rw [e2] at c2
      have t1 := tm_nat (p := p) (l := @List.length (Ty.int .i64).T (madeK x i)) (by omega) (2 * i + 3) (by omega)
      have t2 := tm_nat (p := q) (l := @List.length (Ty.int .i64).T v1) (by omega) (2 * i + 4) (by omega)
      rw [← t1, hp] at c1
      rw [← t2, hq] at c2
      have ik1 : InK .i64 (x.getD i (0, 0, ())).1 := by simp only [InK]; omega
      have ik2 : InK .i64 (x.getD i (0, 0, ())).2.1 := by simp only [InK]; omega
      repeat' (first
 | refine W.seq ?_
 | refine W.block ?_
 | (refine W.region tys_ok [33, 47, 5] ?_; conv => whnf)
 | (refine W.drawAll tys_ok [33, 47, 5] mixed rfl ?_; conv => whnf)
 | (refine W.ret ?_; conv => whnf)
 | (refine W.skip ?_; conv => whnf)
 | (refine W.exit ?_; conv => whnf)
 | (refine call_at (al := false) (c1) rfl rfl rfl rfl ?_; conv => whnf)
 | (refine call_at (al := false) (c2) rfl rfl rfl rfl ?_; conv => whnf)

    | (refine W.cond rfl (fun hb => ?_) (fun hb => ?_) <;> (try simp only [Int.reduceToNat, Int.reduceTDiv, Int.reduceTMod, minL, maxL, pickB, zHB] at hb) <;> (try (first | (cases hb; done) | exact absurd hb (by decide) | (exfalso; omega))))
    | ((with_reducible refine And.intro ?_ ?_); (focus ((repeat' (first | (with_reducible rfl) | (with_reducible refine And.intro ?_ ?_) | omega | rfl | exact Or.inl rfl | exact Or.inr rfl | exact of_decide_eq_true rfl | exact Path.imp_of (of_decide_eq_true rfl) | (focus ((try simp only [Int.reduceToNat, Int.reduceTDiv, Int.reduceTMod, minL, maxL, pickB, zHB, InK, Path.imp, List.length_replicate, List.length_set, List.length_append, List.length_cons, List.length_nil] at *); omega)) | (refine app_le rfl ?_; omega))); done)); (conv => whnf))
    | ((with_reducible refine And.intro (Side.out ?_) ?_); rotate_left; (conv => whnf))
    | (refine retF1 ?_ <;> (conv => whnf) <;> repeat' (first
 | exact trivial
 | (with_reducible rfl)
 | ((with_reducible refine And.intro ?_ ?_) <;> conv => whnf)
 | omega
 | rfl
 | (refine congrArg (SV.arr _) ?_)
 | (refine congrArg (Value.int _) ?_)
 | (refine congrArg Value.bool ?_)))
 | (refine retF2 ?_ <;> (conv => whnf) <;> repeat' (first
 | exact trivial
 | (with_reducible rfl)
 | ((with_reducible refine And.intro ?_ ?_) <;> conv => whnf)
 | omega
 | rfl
 | (refine congrArg (SV.arr _) ?_)
 | (refine congrArg (Value.int _) ?_)
 | (refine congrArg Value.bool ?_)))); all_goals (try unfold Side)
      all_goals try (repeat' (first | (with_reducible rfl) | (with_reducible refine And.intro ?_ ?_) | omega | rfl | exact Or.inl rfl | exact Or.inr rfl | exact of_decide_eq_true rfl | exact Path.imp_of (of_decide_eq_true rfl) | (focus ((try simp only [Int.reduceToNat, Int.reduceTDiv, Int.reduceTMod, minL, maxL, pickB, zHB, InK, Path.imp, List.length_replicate, List.length_set, List.length_append, List.length_cons, List.length_nil] at *); omega)) | (refine app_le rfl ?_; omega)))
      all_goals try (first | exact Path.imp_of ik1 | exact Path.imp_of ik2)
      refine ⟨i + 1, ⟨⟨by omega, by omega⟩, by omega⟩, ?_⟩
      refine subF.ok ?_ <;> (conv => whnf) <;> repeat' (first
 | exact trivial
 | (with_reducible rfl)
 | ((with_reducible refine And.intro ?_ ?_) <;> conv => whnf)
 | omega
 | rfl
 | (refine congrArg (SV.arr _) ?_)
 | (refine congrArg (Value.int _) ?_)
 | (refine congrArg Value.bool ?_))
    · have hie : c = i := by omega
      subst hie
      repeat' (first
 | refine W.seq ?_
 | refine W.block ?_
 | (refine W.region tys_ok [] ?_; conv => whnf)
 | (refine W.drawAll tys_ok [] mixed rfl ?_; conv => whnf)
 | (refine W.ret ?_; conv => whnf)
 | (refine W.skip ?_; conv => whnf)
 | (refine W.exit ?_; conv => whnf)

    | (refine W.cond rfl (fun hb => ?_) (fun hb => ?_) <;> (try simp only [Int.reduceToNat, Int.reduceTDiv, Int.reduceTMod, minL, maxL, pickB, zHB] at hb) <;> (try (first | (cases hb; done) | exact absurd hb (by decide) | (exfalso; omega))))
    | ((with_reducible refine And.intro ?_ ?_); (focus ((repeat' (first | (with_reducible rfl) | (with_reducible refine And.intro ?_ ?_) | omega | rfl | exact Or.inl rfl | exact Or.inr rfl | exact of_decide_eq_true rfl | exact Path.imp_of (of_decide_eq_true rfl) | (focus ((try simp only [Int.reduceToNat, Int.reduceTDiv, Int.reduceTMod, minL, maxL, pickB, zHB, InK, Path.imp, List.length_replicate, List.length_set, List.length_append, List.length_cons, List.length_nil] at *); omega)) | (refine app_le rfl ?_; omega))); done)); (conv => whnf))
    | ((with_reducible refine And.intro (Side.out ?_) ?_); rotate_left; (conv => whnf))
    | (refine retF1 ?_ <;> (conv => whnf) <;> repeat' (first
 | exact trivial
 | (with_reducible rfl)
 | ((with_reducible refine And.intro ?_ ?_) <;> conv => whnf)
 | omega
 | rfl
 | (refine congrArg (SV.arr _) ?_)
 | (refine congrArg (Value.int _) ?_)
 | (refine congrArg Value.bool ?_)))
 | (refine retF2 ?_ <;> (conv => whnf) <;> repeat' (first
 | exact trivial
 | (with_reducible rfl)
 | ((with_reducible refine And.intro ?_ ?_) <;> conv => whnf)
 | omega
 | rfl
 | (refine congrArg (SV.arr _) ?_)
 | (refine congrArg (Value.int _) ?_)
 | (refine congrArg Value.bool ?_)))); all_goals (try unfold Side)
      all_goals try (repeat' (first | (with_reducible rfl) | (with_reducible refine And.intro ?_ ?_) | omega | rfl | exact Or.inl rfl | exact Or.inr rfl | exact of_decide_eq_true rfl | exact Path.imp_of (of_decide_eq_true rfl) | (focus ((try simp only [Int.reduceToNat, Int.reduceTDiv, Int.reduceTMod, minL, maxL, pickB, zHB, InK, Path.imp, List.length_replicate, List.length_set, List.length_append, List.length_cons, List.length_nil] at *); omega)) | (refine app_le rfl ?_; omega)))
end Go.Proofs.Ytdfajcfkdfjoeaa
/- ScrollEuler. No condition. -/
namespace Go.Proofs.Ytdfajcfkdfjoeaa
open Go Go.Vc Go.Scr
set_option linter.unusedVariables false
set_option linter.unusedSimpArgs false

theorem sigT_signs {n z : Nat} : signsB (sigT n z) n = true := by
  rw [signsB, sigT_len, show sgnB (sigT n z) = true from sigT_all]; simp
set_option maxHeartbeats 4000000 in
theorem ScrollEuler_at {x : List (Int × Int × Unit)} (hx : small x) {z : Int} (hz0 : 0 ≤ z) (hz1 : z ≤ 65535) : FnAt Try.prog false 6 [.arr U2 x, .lit (.int .u16 z)] (.lit (.bool true)) [] := by
  obtain ⟨z, rfl⟩ : ∃ y : Nat, z = y := ⟨z.toNat, by omega⟩
  obtain ⟨c, hc⟩ : ∃ c, c = min x.length (10 - 1) := ⟨_, rfl⟩
  have c1 := made_at hx (m := 10) (Nat.le_refl _) hc
  have hw : Word (madeK x c) (c + 1) := made_word
  obtain ⟨n, hn⟩ : ∃ n, n = c + 1 := ⟨_, rfl⟩
  rw [← hn] at hw
  have hn10 : n ≤ 10 := by omega
  obtain ⟨w, hwe⟩ : ∃ w, w = madeK x c := ⟨_, rfl⟩
  rw [← hwe] at hw c1
  have hl : @List.length (Ty.int .i64).T w = 2 * n := hw.len
  have hd : Int.tdiv (@List.length (Ty.int .i64).T w) 2 = n := by rw [hl, Int.tdiv_eq_ediv_of_nonneg (by omega)]; omega
  have c2 := signs_at (n := n) (z := z) hn10 (by omega)
  have c3 := signs_at (n := n) (z := 65535 - z) hn10 (by omega)
  rw [← hd] at c2 c3
  rw [show ((65535 - z : Nat) : Int) = 65535 - (z : Int) by omega] at c3
  have s1 := sigT_signs (n := n) (z := z)
  have s2 := sigT_signs (n := n) (z := 65535 - z)
  have a1 := sigT_all (n := n) (z := z)
  have a2 := sigT_all (n := n) (z := 65535 - z)
  have l1 := sigT_len (n := n) (z := z)
  have l2 := sigT_len (n := n) (z := 65535 - z)
  have sneg := fun v (hv : v < n) => sigT_neg (n := n) (z := z) (by omega) (by omega) hv
  obtain ⟨s, hs⟩ : ∃ s, s = sigT n z := ⟨_, rfl⟩
  obtain ⟨t, ht⟩ : ∃ t, t = sigT n (65535 - z) := ⟨_, rfl⟩
  rw [← hs] at c2 s1 a1 l1
  rw [← ht] at c3 s2 a2 l2
  rw [← hs, ← ht] at sneg
  have c4 := Faces_ok hw hn10 s1
  have c5 := Faces_ok hw hn10 s2
  have c6 := Genus_ok hw hn10 s1
  have c7 := Genus_ok hw hn10 s2
  obtain ⟨g0, g1⟩ := genus_ok hw a1 l1
  obtain ⟨g2, g3⟩ := genus_ok hw a2 l2
  have eqF := neg_eq hw a1 l1 a2 l2 sneg
  have H := facesT_FK (next_pn hw a1 l1)
  have flen := faces_le hw a1 l1
  obtain ⟨F, hF⟩ : ∃ F, F = facesT (nextT w s) (2 * n) := ⟨_, rfl⟩
  obtain ⟨F2, hF2⟩ : ∃ F2, F2 = facesT (nextT w t) (2 * n) := ⟨_, rfl⟩
  rw [← hF] at H eqF g1 c4 flen
  rw [← hF2] at eqF g3 c5
  obtain ⟨G, hG⟩ : ∃ G, G = genusT n w s := ⟨_, rfl⟩
  obtain ⟨G2, hG2⟩ : ∃ G2, G2 = genusT n w t := ⟨_, rfl⟩
  rw [← hG] at g0 g1 c6
  rw [← hG2] at g2 g3 c7
  have H1 := fun j q hj hq => H.at (j := j) (q := q) hj hq
  have H2 := fun j hj => H.inc_at (j := j) hj
  have H3 := fun j hj => H.ne_at (j := j) hj
  have H4 := H.len
  have H5 := fun j => flat_len (F := F) (j := j)
  have H6 := fun j hj => flat_take (F := F) (j := j) hj
  clear H hF hF2 hG hG2 hs ht hwe sneg
  have hFl : @List.length (List (Ty.int .i64).T) F ≤ n + 2 := flen
  have hFl2 : @List.length (Ty.sl (.int .i64)).T F2 = @List.length (Ty.sl (.int .i64)).T F := eqF
  have hGG : G2 = G := by omega
  subst hGG
  have hg4 : ∀ k, k = @List.length (Ty.sl (.int .i64)).T F → 2 * G2 = (Int.tdiv (@List.length (Ty.int .i64).T w) 2) + 2 - k := fun k hk => by subst hk; rw [hd]; exact g1
  have hgl : 0 ≤ G2 ∧ G2 ≤ 20 := by omega
  refine FnAt.of_body tys_ok Try.func6 (by rfl) rfl Try.ntmps6 (by rw [Try.results6]) (by simp) ?_
  
  repeat' (first
 | refine W.seq ?_
 | refine W.block ?_
 | (refine W.region tys_ok [5, 6, 7, 21, 26, 32, 8, 10, 33, 36, 37, 39, 42, 43] ?_; conv => whnf)
 | (refine W.drawAll tys_ok [5, 6, 7, 21, 26, 32, 8, 10, 33, 36, 37, 39, 42, 43] mixed rfl ?_; conv => whnf)
 | (refine W.ret ?_; conv => whnf)
 | (refine W.skip ?_; conv => whnf)
 | (refine W.exit ?_; conv => whnf)
 | (refine call_at (al := false) (c1) rfl rfl rfl rfl ?_; conv => whnf)
 | (refine call_at (al := false) (c2) rfl rfl rfl rfl ?_; conv => whnf)
 | (refine call_at (al := false) (c3) rfl rfl rfl rfl ?_; conv => whnf)
 | (refine call_at (al := false) (c4) rfl rfl rfl rfl ?_; conv => whnf)
 | (refine call_at (al := false) (c5) rfl rfl rfl rfl ?_; conv => whnf)
 | (refine call_at (al := false) (c6) rfl rfl rfl rfl ?_; conv => whnf)
 | (refine call_at (al := false) (c7) rfl rfl rfl rfl ?_; conv => whnf)
 | (refine call_at (al := false) (lives_at) rfl rfl rfl rfl ?_; conv => whnf)

    | (refine W.cond rfl (fun hb => ?_) (fun hb => ?_) <;> (try simp only [Int.reduceToNat, Int.reduceTDiv, Int.reduceTMod, minL, maxL, pickB, zHB] at hb) <;> (try (first | (cases hb; done) | exact absurd hb (by decide) | (exfalso; omega))))
    | ((with_reducible refine And.intro ?_ ?_); (focus ((repeat' (first | (with_reducible rfl) | (with_reducible refine And.intro ?_ ?_) | omega | rfl | exact Or.inl rfl | exact Or.inr rfl | exact of_decide_eq_true rfl | exact Path.imp_of (of_decide_eq_true rfl) | (focus ((try simp only [Int.reduceToNat, Int.reduceTDiv, Int.reduceTMod, minL, maxL, pickB, zHB, InK, Path.imp, List.length_replicate, List.length_set, List.length_append, List.length_cons, List.length_nil] at *); omega)) | (refine app_le rfl ?_; omega))); done)); (conv => whnf))
    | ((with_reducible refine And.intro (Side.out ?_) ?_); rotate_left; (conv => whnf))
    | (refine retF1 ?_ <;> (conv => whnf) <;> repeat' (first
 | exact trivial
 | (with_reducible rfl)
 | ((with_reducible refine And.intro ?_ ?_) <;> conv => whnf)
 | omega
 | rfl
 | (refine congrArg (SV.arr _) ?_)
 | (refine congrArg (Value.int _) ?_)
 | (refine congrArg Value.bool ?_)))
 | (refine retF2 ?_ <;> (conv => whnf) <;> repeat' (first
 | exact trivial
 | (with_reducible rfl)
 | ((with_reducible refine And.intro ?_ ?_) <;> conv => whnf)
 | omega
 | rfl
 | (refine congrArg (SV.arr _) ?_)
 | (refine congrArg (Value.int _) ?_)
 | (refine congrArg Value.bool ?_)))); all_goals (try unfold Side)
  all_goals try (repeat' (first | (with_reducible rfl) | (with_reducible refine And.intro ?_ ?_) | omega | rfl | exact Or.inl rfl | exact Or.inr rfl | exact of_decide_eq_true rfl | exact Path.imp_of (of_decide_eq_true rfl) | (focus ((try simp only [Int.reduceToNat, Int.reduceTDiv, Int.reduceTMod, minL, maxL, pickB, zHB, InK, Path.imp, List.length_replicate, List.length_set, List.length_append, List.length_cons, List.length_nil] at *); omega)) | (refine app_le rfl ?_; omega)))
  have Hin : ∀ j q : Nat, j < F.length → q < (F.getD j []).length → @List.length (Ty.int .i64).T (@List.getD (List (Ty.int .i64).T) F j []) = (F.getD j []).length := fun _ _ _ _ => rfl
  refine W.loop (fun j : Nat => ⟨[(5, .st true (.arr (.int .i64) (w : List Int))), (8, .st true (.arr (.sl (.int .i64)) (F : List (List Int)))), (16, .own 900016), (17, .lit (.int .i64 (j)))], [(900016, .mp .i64 .bool (mpT (F.take j).flatten) (F.take j).flatten.length)]⟩) (fun j => j ≤ F.length) (fun j => F.length - j) (0) ?_ ?_
  · refine ⟨Nat.zero_le _, ?_⟩
    refine subF.ok ?_ <;> (conv => whnf) <;> repeat' (first
 | exact trivial
 | (with_reducible rfl)
 | ((with_reducible refine And.intro ?_ ?_) <;> conv => whnf)
 | omega
 | rfl
 | (refine congrArg (SV.arr _) ?_)
 | (refine congrArg (Value.int _) ?_)
 | (refine congrArg Value.bool ?_))
    all_goals exact mp_nil rfl
  · intro j hj
    by_cases hjl : j < F.length
    · have K1 := fun q hq => H1 j q hjl hq
      have K3 := H3 j hjl
      have K6 := H6 j hjl
      have K5 := H5 (j + 1)
      have K5' := H5 j
      have hfl : (F.getD j []).length ≤ 40 := by rw [K6, List.length_append] at K5; omega
      repeat' (first
 | refine W.seq ?_
 | refine W.block ?_
 | (refine W.region tys_ok [] ?_; conv => whnf)
 | (refine W.drawAll tys_ok [] mixed rfl ?_; conv => whnf)
 | (refine W.ret ?_; conv => whnf)
 | (refine W.skip ?_; conv => whnf)
 | (refine W.exit ?_; conv => whnf)

    | (refine W.cond rfl (fun hb => ?_) (fun hb => ?_) <;> (try simp only [Int.reduceToNat, Int.reduceTDiv, Int.reduceTMod, minL, maxL, pickB, zHB] at hb) <;> (try (first | (cases hb; done) | exact absurd hb (by decide) | (exfalso; omega))))
    | ((with_reducible refine And.intro ?_ ?_); (focus ((repeat' (first | (with_reducible rfl) | (with_reducible refine And.intro ?_ ?_) | omega | rfl | exact Or.inl rfl | exact Or.inr rfl | exact of_decide_eq_true rfl | exact Path.imp_of (of_decide_eq_true rfl) | (focus ((try simp only [Int.reduceToNat, Int.reduceTDiv, Int.reduceTMod, minL, maxL, pickB, zHB, InK, Path.imp, List.length_replicate, List.length_set, List.length_append, List.length_cons, List.length_nil] at *); omega)) | (refine app_le rfl ?_; omega))); done)); (conv => whnf))
    | ((with_reducible refine And.intro (Side.out ?_) ?_); rotate_left; (conv => whnf))
    | (refine retF1 ?_ <;> (conv => whnf) <;> repeat' (first
 | exact trivial
 | (with_reducible rfl)
 | ((with_reducible refine And.intro ?_ ?_) <;> conv => whnf)
 | omega
 | rfl
 | (refine congrArg (SV.arr _) ?_)
 | (refine congrArg (Value.int _) ?_)
 | (refine congrArg Value.bool ?_)))
 | (refine retF2 ?_ <;> (conv => whnf) <;> repeat' (first
 | exact trivial
 | (with_reducible rfl)
 | ((with_reducible refine And.intro ?_ ?_) <;> conv => whnf)
 | omega
 | rfl
 | (refine congrArg (SV.arr _) ?_)
 | (refine congrArg (Value.int _) ?_)
 | (refine congrArg Value.bool ?_)))); all_goals (try unfold Side)
      all_goals try (repeat' (first | (with_reducible rfl) | (with_reducible refine And.intro ?_ ?_) | omega | rfl | exact Or.inl rfl | exact Or.inr rfl | exact of_decide_eq_true rfl | exact Path.imp_of (of_decide_eq_true rfl) | (focus ((try simp only [Int.reduceToNat, Int.reduceTDiv, Int.reduceTMod, minL, maxL, pickB, zHB, InK, Path.imp, List.length_replicate, List.length_set, List.length_append, List.length_cons, List.length_nil] at *); omega)) | (refine app_le rfl ?_; omega)))
      refine W.loop (fun q : Nat => ⟨[(5, .st true (.arr (.int .i64) (w : List Int))), (8, .st true (.arr (.sl (.int .i64)) (F : List (List Int)))), (16, .own 900016), (17, .lit (.int .i64 (j))), (18, .lit (.int .i64 (q)))], [(900016, .mp .i64 .bool (mpT ((F.take j).flatten ++ (F.getD j []).take q)) ((F.take j).flatten ++ (F.getD j []).take q).length)]⟩) (fun q => q ≤ (F.getD j []).length) (fun q => (F.getD j []).length - q) (0) ?_ ?_
      · refine ⟨Nat.zero_le _, ?_⟩
        refine subF.ok ?_ <;> (conv => whnf) <;> repeat' (first
 | exact trivial
 | (with_reducible rfl)
 | ((with_reducible refine And.intro ?_ ?_) <;> conv => whnf)
 | omega
 | rfl
 | (refine congrArg (SV.arr _) ?_)
 | (refine congrArg (Value.int _) ?_)
 | (refine congrArg Value.bool ?_))
        all_goals exact mp_eq (by simp)
      · intro q hq
        by_cases hql : q < (F.getD j []).length
        · obtain ⟨k1, k2, k3, k4⟩ := K1 q hql
          have hv := mpT_out k3
          have hadd := mp_add k3
          have htk := take_getD' hql
          have hno : (decide ((F.getD j []).getD q 0 < -(@List.length (Ty.int .i64).T w : Int)) || decide ((@List.length (Ty.int .i64).T w : Int) ≤ (F.getD j []).getD q 0) || (mpT ((F.take j).flatten ++ (F.getD j []).take q) ((F.getD j []).getD q 0)).getD false) = false := by rw [hv, decide_eq_false (by omega), decide_eq_false (by omega)]; rfl
          repeat' (first
 | refine W.seq ?_
 | refine W.block ?_
 | (refine W.drawPh (id := 18) tys_ok [] mixed [0, 0, 2, 4, 9, 16, 32, 32, 160, 352, 544, 1056, 2048, 2048, 14336, 18432, 34816, 65536, 65536, 458752, 589824, 1114112, 2162688, 65536, 12648448, 16842752] [([0, 1], 1, 7), ([3, 4, 5, 6, 7], 1, 511), ([9, 10, 11, 12, 13], 1, 32767), ([15, 16, 17, 18, 19, 20, 21, 22, 23, 24, 25], 0, 67108863)] (by decide +kernel) ?_; conv => whnf)
 | (refine W.region tys_ok [] ?_; conv => whnf)
 | (refine W.drawAll tys_ok [] mixed rfl ?_; conv => whnf)
 | (refine W.ret ?_; conv => whnf)
 | (refine W.skip ?_; conv => whnf)
 | (refine W.exit ?_; conv => whnf)

    | (refine Both.mk ?_ ?_ <;> (conv => whnf))
    | (refine subF.leaf ?_ <;> (conv => whnf) <;> repeat' (first
 | exact trivial
 | (with_reducible rfl)
 | ((with_reducible refine And.intro ?_ ?_) <;> conv => whnf)
 | omega
 | rfl
 | (refine congrArg (SV.arr _) ?_)
 | (refine congrArg (Value.int _) ?_)
 | (refine congrArg Value.bool ?_)))
 | (refine subF.side ?_ <;> (conv => whnf) <;> repeat' (first
 | exact trivial
 | (with_reducible rfl)
 | ((with_reducible refine And.intro ?_ ?_) <;> conv => whnf)
 | omega
 | rfl
 | (refine congrArg (SV.arr _) ?_)
 | (refine congrArg (Value.int _) ?_)
 | (refine congrArg Value.bool ?_)))
 | (refine W.cond rfl (fun hb => ?_) (fun hb => ?_) <;> (try simp only [Int.reduceToNat, Int.reduceTDiv, Int.reduceTMod, minL, maxL, pickB, zHB] at hb) <;> (try (first | (cases hb; done) | exact absurd hb (by decide) | (exfalso; omega) | (rcases hb with h | h; exact absurd (h.symm.trans hno) (by decide); omega))))
 | ((with_reducible refine And.intro ?_ ?_); (focus ((repeat' (first | (with_reducible rfl) | (with_reducible refine And.intro ?_ ?_) | omega | rfl | exact Or.inl rfl | exact Or.inr rfl | exact of_decide_eq_true rfl | exact Path.imp_of (of_decide_eq_true rfl) | (focus ((try simp only [Int.reduceToNat, Int.reduceTDiv, Int.reduceTMod, minL, maxL, pickB, zHB, InK, Path.imp, List.length_replicate, List.length_set, List.length_append, List.length_cons, List.length_nil] at *); omega)) | (refine app_le rfl ?_; omega))); done)); (conv => whnf))
 | ((with_reducible refine And.intro (Side.out ?_) ?_); rotate_left; (conv => whnf))
 | (refine retF1 ?_ <;> (conv => whnf) <;> repeat' (first
 | exact trivial
 | (with_reducible rfl)
 | ((with_reducible refine And.intro ?_ ?_) <;> conv => whnf)
 | omega
 | rfl
 | (refine congrArg (SV.arr _) ?_)
 | (refine congrArg (Value.int _) ?_)
 | (refine congrArg Value.bool ?_)))
 | (refine retF2 ?_ <;> (conv => whnf) <;> repeat' (first
 | exact trivial
 | (with_reducible rfl)
 | ((with_reducible refine And.intro ?_ ?_) <;> conv => whnf)
 | omega
 | rfl
 | (refine congrArg (SV.arr _) ?_)
 | (refine congrArg (Value.int _) ?_)
 | (refine congrArg Value.bool ?_)))); all_goals (try unfold Side)
          all_goals try (repeat' (first | (with_reducible rfl) | (with_reducible refine And.intro ?_ ?_) | omega | rfl | exact Or.inl rfl | exact Or.inr rfl | exact of_decide_eq_true rfl | exact Path.imp_of (of_decide_eq_true rfl) | (focus ((try simp only [Int.reduceToNat, Int.reduceTDiv, Int.reduceTMod, minL, maxL, pickB, zHB, InK, Path.imp, List.length_replicate, List.length_set, List.length_append, List.length_cons, List.length_nil] at *); omega)) | (refine app_le rfl ?_; omega)))
          refine ⟨q + 1, ⟨by omega, by omega⟩, ?_⟩
          refine subF.ok ?_ <;> (conv => whnf) <;> repeat' (first
 | exact trivial
 | (with_reducible rfl)
 | ((with_reducible refine And.intro ?_ ?_) <;> conv => whnf)
 | omega
 | rfl
 | (refine congrArg (SV.arr _) ?_)
 | (refine congrArg (Value.int _) ?_)
 | (refine congrArg Value.bool ?_))
          all_goals exact hadd.trans (mp_eq (by rw [htk, List.append_assoc]))
        · have hie : q = (F.getD j []).length := by omega
          subst hie
          have K7 : 0 < j → (F.getD ((j : Int) - 1).toNat []).getD 0 0 < (F.getD j []).getD 0 0 := fun h0 => by
            have h1 := H2 (j - 1) (by omega)
            rw [show j - 1 + 1 = j by omega] at h1
            rw [show ((j : Int) - 1).toNat = j - 1 by omega]
            exact h1
          have K8 : (F.take j).flatten ++ (F.getD j []).take (F.getD j []).length = (F.take (j + 1)).flatten := by rw [K6, List.take_length]
          have K9 : 0 < @List.length (Ty.int .i64).T (F.getD ((j : Int) - 1).toNat (Ty.sl (.int .i64)).dflt) := H3 _ (by omega)
          repeat' (first
 | refine W.seq ?_
 | refine W.block ?_
 | (refine W.drawPh (id := 21) tys_ok [] mixed [0, 0, 3, 4, 8, 16, 32, 64, 192, 320, 512, 512, 2560, 5632, 8704, 16896, 33280, 512, 512, 393728, 524800, 1049088, 2097664, 4260352, 8389184, 16777280] [([0, 1, 2, 3], 1, 31), ([5, 6, 7, 8, 9, 10, 11, 12, 13, 14, 15, 16, 17, 18, 19, 20, 21, 22, 23, 24, 25], 0, 67108863)] (by decide +kernel) ?_; conv => whnf)
 | (refine W.region tys_ok [] ?_; conv => whnf)
 | (refine W.drawAll tys_ok [] mixed rfl ?_; conv => whnf)
 | (refine W.ret ?_; conv => whnf)
 | (refine W.skip ?_; conv => whnf)
 | (refine W.exit ?_; conv => whnf)

    | (refine Both.mk ?_ ?_ <;> (conv => whnf))
    | (refine subF.leaf ?_ <;> (conv => whnf) <;> repeat' (first
 | exact trivial
 | (with_reducible rfl)
 | ((with_reducible refine And.intro ?_ ?_) <;> conv => whnf)
 | omega
 | rfl
 | (refine congrArg (SV.arr _) ?_)
 | (refine congrArg (Value.int _) ?_)
 | (refine congrArg Value.bool ?_)))
 | (refine subF.side ?_ <;> (conv => whnf) <;> repeat' (first
 | exact trivial
 | (with_reducible rfl)
 | ((with_reducible refine And.intro ?_ ?_) <;> conv => whnf)
 | omega
 | rfl
 | (refine congrArg (SV.arr _) ?_)
 | (refine congrArg (Value.int _) ?_)
 | (refine congrArg Value.bool ?_)))
 | (refine W.cond rfl (fun hb => ?_) (fun hb => ?_) <;> (try simp only [Int.reduceToNat, Int.reduceTDiv, Int.reduceTMod, minL, maxL, pickB, zHB] at hb) <;> (try (first | (cases hb; done) | exact absurd hb (by decide) | (exfalso; omega) | (rcases hb with h | h; omega; exact absurd h.2 (by have := K7 (by omega); omega)))))
 | ((with_reducible refine And.intro ?_ ?_); (focus ((repeat' (first | (with_reducible rfl) | (with_reducible refine And.intro ?_ ?_) | omega | rfl | exact Or.inl rfl | exact Or.inr rfl | exact of_decide_eq_true rfl | exact Path.imp_of (of_decide_eq_true rfl) | (focus ((try simp only [Int.reduceToNat, Int.reduceTDiv, Int.reduceTMod, minL, maxL, pickB, zHB, InK, Path.imp, List.length_replicate, List.length_set, List.length_append, List.length_cons, List.length_nil] at *); omega)) | (refine app_le rfl ?_; omega))); done)); (conv => whnf))
 | ((with_reducible refine And.intro (Side.out ?_) ?_); rotate_left; (conv => whnf))
 | (refine retF1 ?_ <;> (conv => whnf) <;> repeat' (first
 | exact trivial
 | (with_reducible rfl)
 | ((with_reducible refine And.intro ?_ ?_) <;> conv => whnf)
 | omega
 | rfl
 | (refine congrArg (SV.arr _) ?_)
 | (refine congrArg (Value.int _) ?_)
 | (refine congrArg Value.bool ?_)))
 | (refine retF2 ?_ <;> (conv => whnf) <;> repeat' (first
 | exact trivial
 | (with_reducible rfl)
 | ((with_reducible refine And.intro ?_ ?_) <;> conv => whnf)
 | omega
 | rfl
 | (refine congrArg (SV.arr _) ?_)
 | (refine congrArg (Value.int _) ?_)
 | (refine congrArg Value.bool ?_)))); all_goals (try unfold Side)
          all_goals try exact Path.imp_of ⟨by decide, K9⟩
          all_goals try (repeat' (first | (with_reducible rfl) | (with_reducible refine And.intro ?_ ?_) | omega | rfl | exact Or.inl rfl | exact Or.inr rfl | exact of_decide_eq_true rfl | exact Path.imp_of (of_decide_eq_true rfl) | (focus ((try simp only [Int.reduceToNat, Int.reduceTDiv, Int.reduceTMod, minL, maxL, pickB, zHB, InK, Path.imp, List.length_replicate, List.length_set, List.length_append, List.length_cons, List.length_nil] at *); omega)) | (refine app_le rfl ?_; omega)))
          refine ⟨j + 1, ⟨by omega, by omega⟩, ?_⟩
          refine subF.ok ?_ <;> (conv => whnf) <;> repeat' (first
 | exact trivial
 | (with_reducible rfl)
 | ((with_reducible refine And.intro ?_ ?_) <;> conv => whnf)
 | omega
 | rfl
 | (refine congrArg (SV.arr _) ?_)
 | (refine congrArg (Value.int _) ?_)
 | (refine congrArg Value.bool ?_))
          all_goals exact mp_eq K8
    · have hie : F.length = j := by omega
      subst hie
      have K10 : ((F.take F.length).flatten.length : Int) = 2 * @List.length (Ty.int .i64).T w := by rw [List.take_length, H4, hl]; omega
      repeat' (first
 | refine W.seq ?_
 | refine W.block ?_
 | (refine W.region tys_ok [] ?_; conv => whnf)
 | (refine W.drawAll tys_ok [] mixed rfl ?_; conv => whnf)
 | (refine W.ret ?_; conv => whnf)
 | (refine W.skip ?_; conv => whnf)
 | (refine W.exit ?_; conv => whnf)

    | (refine W.cond rfl (fun hb => ?_) (fun hb => ?_) <;> (try simp only [Int.reduceToNat, Int.reduceTDiv, Int.reduceTMod, minL, maxL, pickB, zHB] at hb) <;> (try (first | (cases hb; done) | exact absurd hb (by decide) | (exfalso; omega))))
    | ((with_reducible refine And.intro ?_ ?_); (focus ((repeat' (first | (with_reducible rfl) | (with_reducible refine And.intro ?_ ?_) | omega | rfl | exact Or.inl rfl | exact Or.inr rfl | exact of_decide_eq_true rfl | exact Path.imp_of (of_decide_eq_true rfl) | (focus ((try simp only [Int.reduceToNat, Int.reduceTDiv, Int.reduceTMod, minL, maxL, pickB, zHB, InK, Path.imp, List.length_replicate, List.length_set, List.length_append, List.length_cons, List.length_nil] at *); omega)) | (refine app_le rfl ?_; omega))); done)); (conv => whnf))
    | ((with_reducible refine And.intro (Side.out ?_) ?_); rotate_left; (conv => whnf))
    | (refine retF1 ?_ <;> (conv => whnf) <;> repeat' (first
 | exact trivial
 | (with_reducible rfl)
 | ((with_reducible refine And.intro ?_ ?_) <;> conv => whnf)
 | omega
 | rfl
 | (refine congrArg (SV.arr _) ?_)
 | (refine congrArg (Value.int _) ?_)
 | (refine congrArg Value.bool ?_)))
 | (refine retF2 ?_ <;> (conv => whnf) <;> repeat' (first
 | exact trivial
 | (with_reducible rfl)
 | ((with_reducible refine And.intro ?_ ?_) <;> conv => whnf)
 | omega
 | rfl
 | (refine congrArg (SV.arr _) ?_)
 | (refine congrArg (Value.int _) ?_)
 | (refine congrArg Value.bool ?_)))); all_goals (try unfold Side)
      all_goals try (repeat' (first | (with_reducible rfl) | (with_reducible refine And.intro ?_ ?_) | omega | rfl | exact Or.inl rfl | exact Or.inr rfl | exact of_decide_eq_true rfl | exact Path.imp_of (of_decide_eq_true rfl) | (focus ((try simp only [Int.reduceToNat, Int.reduceTDiv, Int.reduceTMod, minL, maxL, pickB, zHB, InK, Path.imp, List.length_replicate, List.length_set, List.length_append, List.length_cons, List.length_nil] at *); omega)) | (refine app_le rfl ?_; omega)))
      all_goals exact (decide_eq_true K10).symm
theorem small_wf {x : List (Int × Int × Unit)} (h : (Ty.sl U2).wf x) : small x := fun i => by
  have h2 : ∀ y ∈ x, U2.wf y := h.2
  by_cases hi : i < x.length
  · have hm : x.getD i (0, 0, ()) ∈ x := by
      have : x.getD i (0, 0, ()) = x[i] := by simp [List.getD, hi]
      rw [this]; exact List.getElem_mem hi
    have h3 := h2 _ hm
    have a := wf_u8 h3.1
    have b := wf_u8 h3.2.1
    exact ⟨a.1, a.2, b.1, b.2⟩
  · have : x.getD i (0, 0, ()) = (0, 0, ()) := by simp [List.getD, List.getElem?_eq_none (Nat.le_of_not_lt hi)]
    rw [this]; simp
end Go.Proofs.Ytdfajcfkdfjoeaa
/- A number repeated by the library. No condition. -/
namespace Go.Proofs.Ytdfajcfkdfjoeaa
open Go Go.Vc Go.Scr
set_option linter.unusedVariables false
set_option linter.unusedSimpArgs false

theorem and_mask {n : Nat} (h : n ≤ 20) : ((((n : Int)).toNat &&& Int.toNat 4294967295 : Nat) : Int) = n := by
  have : n &&& 4294967295 = n := by
    have h2 := Nat.and_two_pow_sub_one_eq_mod n 32
    rw [show 2 ^ 32 - 1 = 4294967295 from rfl] at h2
    rw [h2]; omega
  rw [show Int.toNat 4294967295 = 4294967295 from rfl, Int.toNat_natCast, this]
theorem mul64_at {n : Nat} (h : n ≤ 20) : FnAt Try.prog false 75 [.lit (.int .u64 1), .lit (.int .u64 n)] (.tup [.lit (.int .u64 0), .lit (.int .u64 n)]) [] := by
  have hm := and_mask h
  have h1 : (((1 : Int).toNat &&& Int.toNat 4294967295 : Nat) : Int) = 1 := by decide
  have hz : (0 * (n : Int) + 1 * n / 2 ^ Int.toNat 32) = 0 := by
    rw [show (2 : Int) ^ Int.toNat 32 = 4294967296 from rfl]; omega
  have hz2 : ((n : Int) / 2 ^ Int.toNat 32) = 0 := by
    rw [show (2 : Int) ^ Int.toNat 32 = 4294967296 from rfl]; omega
  have hy : (1 * (n : Int)) = n := by omega
  refine FnAt.of_body tys_ok Try.func75 (by rfl) rfl Try.ntmps75 (by rw [Try.results75]) (by simp) ?_
  
  repeat' (first
 | refine W.seq ?_
 | refine W.block ?_
 | (refine W.resub (x := Code.region 5 _ _) (Γ' := ⟨[(0, .lit (.int .u64 1)), (1, .lit (.int .u64 n)), (6, .lit (.int .u64 1)), (7, .lit (.int .u64 0)), (8, .lit (.int .u64 n)), (9, .lit (.int .u64 0))], []⟩) ?_ (W.region tys_ok [] ?_); rotate_left; (conv => whnf))
 | (refine W.resub (x := Code.region 7 _ _) (Γ' := ⟨[(0, .lit (.int .u64 1)), (1, .lit (.int .u64 n)), (6, .lit (.int .u64 1)), (7, .lit (.int .u64 0)), (8, .lit (.int .u64 n)), (9, .lit (.int .u64 0)), (11, .lit (.int .u64 0))], []⟩) ?_ (W.region tys_ok [] ?_); rotate_left; (conv => whnf))
 | (refine W.resub (x := Code.region 9 _ _) (Γ' := ⟨[(0, .lit (.int .u64 1)), (1, .lit (.int .u64 n)), (6, .lit (.int .u64 1)), (7, .lit (.int .u64 0)), (8, .lit (.int .u64 n)), (9, .lit (.int .u64 0)), (11, .lit (.int .u64 0)), (12, .lit (.int .u64 0)), (13, .lit (.int .u64 0))], []⟩) ?_ (W.region tys_ok [] ?_); rotate_left; (conv => whnf))
 | (refine W.resub (x := Code.region 11 _ _) (Γ' := ⟨[(0, .lit (.int .u64 1)), (1, .lit (.int .u64 n)), (4, .lit (.int .u64 0))], []⟩) ?_ (W.region tys_ok [] ?_); rotate_left; (conv => whnf))
 | (refine W.region tys_ok [] ?_; conv => whnf)
 | (refine W.drawAll tys_ok [] mixed rfl ?_; conv => whnf)
 | (refine W.ret ?_; conv => whnf)
 | (refine W.skip ?_; conv => whnf)
 | (refine W.exit ?_; conv => whnf)

    | (refine W.cond rfl (fun hb => ?_) (fun hb => ?_) <;> (try simp only [Int.reduceToNat, Int.reduceTDiv, Int.reduceTMod, minL, maxL, pickB, zHB] at hb) <;> (try (first | (cases hb; done) | exact absurd hb (by decide) | (exfalso; omega))))
    | ((with_reducible refine And.intro ?_ ?_); (focus ((repeat' (first | (with_reducible rfl) | (with_reducible refine And.intro ?_ ?_) | omega | rfl | exact Or.inl rfl | exact Or.inr rfl | exact of_decide_eq_true rfl | exact Path.imp_of (of_decide_eq_true rfl) | (focus ((try simp only [Int.reduceToNat, Int.reduceTDiv, Int.reduceTMod, minL, maxL, pickB, zHB, InK, Path.imp, List.length_replicate, List.length_set, List.length_append, List.length_cons, List.length_nil] at *); omega)) | (refine app_le rfl ?_; omega))); done)); (conv => whnf))
    | ((with_reducible refine And.intro (Side.out ?_) ?_); rotate_left; (conv => whnf))
    | (refine retF1 ?_ <;> (conv => whnf) <;> repeat' (first
 | exact trivial
 | (with_reducible rfl)
 | ((with_reducible refine And.intro ?_ ?_) <;> conv => whnf)
 | omega
 | rfl
 | (refine congrArg (SV.arr _) ?_)
 | (refine congrArg (Value.int _) ?_)
 | (refine congrArg Value.bool ?_)))
 | (refine retF2 ?_ <;> (conv => whnf) <;> repeat' (first
 | exact trivial
 | (with_reducible rfl)
 | ((with_reducible refine And.intro ?_ ?_) <;> conv => whnf)
 | omega
 | rfl
 | (refine congrArg (SV.arr _) ?_)
 | (refine congrArg (Value.int _) ?_)
 | (refine congrArg Value.bool ?_)))); all_goals (try unfold Side)
  all_goals try (repeat' (first | (with_reducible rfl) | (with_reducible refine And.intro ?_ ?_) | omega | rfl | exact Or.inl rfl | exact Or.inr rfl | exact of_decide_eq_true rfl | exact Path.imp_of (of_decide_eq_true rfl) | (focus ((try simp only [Int.reduceToNat, Int.reduceTDiv, Int.reduceTMod, minL, maxL, pickB, zHB, InK, Path.imp, List.length_replicate, List.length_set, List.length_append, List.length_cons, List.length_nil] at *); omega)) | (refine app_le rfl ?_; omega)))
  all_goals try refine subF.ok ?_ <;> (conv => whnf) <;> repeat' (first
 | exact trivial
 | (with_reducible rfl)
 | ((with_reducible refine And.intro ?_ ?_) <;> conv => whnf)
 | omega
 | rfl
 | (refine congrArg (SV.arr _) ?_)
 | (refine congrArg (Value.int _) ?_)
 | (refine congrArg Value.bool ?_))
  all_goals first | exact hz | exact hz2 | exact hm | exact hy | decide | rfl
theorem mul_at {n : Nat} (h : n ≤ 20) : FnAt Try.prog false 68 [.lit (.int .u64 1), .lit (.int .u64 n)] (.tup [.lit (.int .u64 0), .lit (.int .u64 n)]) [] := by
  refine FnAt.of_body tys_ok Try.func68 (by rfl) rfl Try.ntmps68 (by rw [Try.results68]) (by simp) ?_
  
  repeat' (first
 | refine W.seq ?_
 | refine W.block ?_
 | (refine W.region tys_ok [] ?_; conv => whnf)
 | (refine W.drawAll tys_ok [] mixed rfl ?_; conv => whnf)
 | (refine W.ret ?_; conv => whnf)
 | (refine W.skip ?_; conv => whnf)
 | (refine W.exit ?_; conv => whnf)
 | (refine call_at (al := false) (mul64_at h) rfl rfl rfl rfl ?_; conv => whnf)

    | (refine W.cond rfl (fun hb => ?_) (fun hb => ?_) <;> (try simp only [Int.reduceToNat, Int.reduceTDiv, Int.reduceTMod, minL, maxL, pickB, zHB] at hb) <;> (try (first | (cases hb; done) | exact absurd hb (by decide) | (exfalso; omega))))
    | ((with_reducible refine And.intro ?_ ?_); (focus ((repeat' (first | (with_reducible rfl) | (with_reducible refine And.intro ?_ ?_) | omega | rfl | exact Or.inl rfl | exact Or.inr rfl | exact of_decide_eq_true rfl | exact Path.imp_of (of_decide_eq_true rfl) | (focus ((try simp only [Int.reduceToNat, Int.reduceTDiv, Int.reduceTMod, minL, maxL, pickB, zHB, InK, Path.imp, List.length_replicate, List.length_set, List.length_append, List.length_cons, List.length_nil] at *); omega)) | (refine app_le rfl ?_; omega))); done)); (conv => whnf))
    | ((with_reducible refine And.intro (Side.out ?_) ?_); rotate_left; (conv => whnf))
    | (refine retF1 ?_ <;> (conv => whnf) <;> repeat' (first
 | exact trivial
 | (with_reducible rfl)
 | ((with_reducible refine And.intro ?_ ?_) <;> conv => whnf)
 | omega
 | rfl
 | (refine congrArg (SV.arr _) ?_)
 | (refine congrArg (Value.int _) ?_)
 | (refine congrArg Value.bool ?_)))
 | (refine retF2 ?_ <;> (conv => whnf) <;> repeat' (first
 | exact trivial
 | (with_reducible rfl)
 | ((with_reducible refine And.intro ?_ ?_) <;> conv => whnf)
 | omega
 | rfl
 | (refine congrArg (SV.arr _) ?_)
 | (refine congrArg (Value.int _) ?_)
 | (refine congrArg Value.bool ?_)))); all_goals (try unfold Side)
  all_goals try (repeat' (first | (with_reducible rfl) | (with_reducible refine And.intro ?_ ?_) | omega | rfl | exact Or.inl rfl | exact Or.inr rfl | exact of_decide_eq_true rfl | exact Path.imp_of (of_decide_eq_true rfl) | (focus ((try simp only [Int.reduceToNat, Int.reduceTDiv, Int.reduceTMod, minL, maxL, pickB, zHB, InK, Path.imp, List.length_replicate, List.length_set, List.length_append, List.length_cons, List.length_nil] at *); omega)) | (refine app_le rfl ?_; omega)))
theorem rep_step {n b : Nat} (h0 : 1 ≤ b) (hb : b < n) : ocopyL (List.replicate b (-1 : Int) ++ List.replicate (n - b) 0) b 0 (min (b - 0) (n - b)) = List.replicate (b + min (b - 0) (n - b)) (-1) ++ List.replicate (n - (b + min (b - 0) (n - b))) 0 := by
  obtain ⟨m, hm⟩ : ∃ m, m = min (b - 0) (n - b) := ⟨_, rfl⟩
  rw [← hm]
  have h1 : List.take b (List.replicate b (-1 : Int) ++ List.replicate (n - b) 0) = List.replicate b (-1) := by
    rw [List.take_append_of_le_length (by simp), List.take_of_length_le (by simp)]
  have h2 : List.take m (List.drop 0 (List.replicate b (-1 : Int) ++ List.replicate (n - b) 0)) = List.replicate m (-1) := by
    rw [List.drop_zero, List.take_append_of_le_length (by simp; omega), List.take_replicate, Nat.min_eq_left (by omega)]
  have h3 : List.drop (b + m) (List.replicate b (-1 : Int) ++ List.replicate (n - b) 0) = List.replicate (n - (b + m)) 0 := by
    rw [List.drop_append, List.drop_of_length_le (by simp), List.nil_append, List.drop_replicate, List.length_replicate]
    congr 1; omega
  rw [ocopyL, h1, h2, h3, List.replicate_append_replicate]
set_option maxHeartbeats 4000000 in
theorem repeat_at {n : Nat} (h0 : 1 ≤ n) (h : n ≤ 20) : FnAt Try.prog false 54 [.arr (.int .i64) ([-1] : List Int), .lit (.int .i64 n)] (.own 0) [(0, .row 3 (.int .i64) true (List.replicate n (-1 : Int) : List Int))] := by
  have hl : ∀ b, b ≤ n → @List.length (Ty.int .i64).T (List.replicate b (-1 : Int) ++ List.replicate (n - b) 0) = n := fun b hb => by
    show (List.replicate b (-1 : Int) ++ List.replicate (n - b) 0).length = n
    simp; omega
  obtain ⟨L, hL⟩ : ∃ L : Nat → List Int, L = fun b => List.replicate b (-1 : Int) ++ List.replicate (n - b) 0 := ⟨_, rfl⟩
  have hLl : ∀ b, b ≤ n → @List.length (Ty.int .i64).T (L b) = n := by rw [hL]; exact hl
  have hLn : L n = List.replicate n (-1) := by rw [hL]; simp
  have hLs : ∀ b, 1 ≤ b → b < n → ocopyL (L b) b 0 (min (b - 0) (n - b)) = L (b + min (b - 0) (n - b)) := fun b h1 h2 => by rw [hL]; exact rep_step h1 h2
  have hm1 : ((min ([-1] : List Int).length (List.replicate n (0 : Int)).length : Nat) : Int) = 1 := by simp; omega
  have hL1 : ([-1] : List Int).take (min ([-1] : List Int).length (List.replicate n (0 : Int)).length) ++ (List.replicate n (0 : Int)).drop (min ([-1] : List Int).length (List.replicate n (0 : Int)).length) = L 1 := by
    have : min ([-1] : List Int).length (List.replicate n (0 : Int)).length = 1 := by simp; omega
    rw [hL, this]; simp [List.drop_replicate]
  refine FnAt.of_body tys_ok Try.func54 (by rfl) rfl Try.ntmps54 (by rw [Try.results54]) (by simp) ?_
  
  repeat' (first
 | refine W.seq ?_
 | refine W.block ?_
 | (refine W.region tys_ok [] ?_; conv => whnf)
 | (refine W.drawAll tys_ok [] mixed rfl ?_; conv => whnf)
 | (refine W.ret ?_; conv => whnf)
 | (refine W.skip ?_; conv => whnf)
 | (refine W.exit ?_; conv => whnf)
 | (refine call_at (al := false) (mul_at h) rfl rfl rfl rfl ?_; conv => whnf)

    | (refine W.cond rfl (fun hb => ?_) (fun hb => ?_) <;> (try simp only [Int.reduceToNat, Int.reduceTDiv, Int.reduceTMod, minL, maxL, pickB, zHB] at hb) <;> (try (first | (cases hb; done) | exact absurd hb (by decide) | (exfalso; omega))))
    | ((with_reducible refine And.intro ?_ ?_); (focus ((repeat' (first | (with_reducible rfl) | (with_reducible refine And.intro ?_ ?_) | omega | rfl | exact Or.inl rfl | exact Or.inr rfl | exact of_decide_eq_true rfl | exact Path.imp_of (of_decide_eq_true rfl) | (focus ((try simp only [Int.reduceToNat, Int.reduceTDiv, Int.reduceTMod, minL, maxL, pickB, zHB, InK, Path.imp, List.length_replicate, List.length_set, List.length_append, List.length_cons, List.length_nil] at *); omega)) | (refine app_le rfl ?_; omega))); done)); (conv => whnf))
    | ((with_reducible refine And.intro (Side.out ?_) ?_); rotate_left; (conv => whnf))
    | (refine retF1 ?_ <;> (conv => whnf) <;> repeat' (first
 | exact trivial
 | (with_reducible rfl)
 | ((with_reducible refine And.intro ?_ ?_) <;> conv => whnf)
 | omega
 | rfl
 | (refine congrArg (SV.arr _) ?_)
 | (refine congrArg (Value.int _) ?_)
 | (refine congrArg Value.bool ?_)))
 | (refine retF2 ?_ <;> (conv => whnf) <;> repeat' (first
 | exact trivial
 | (with_reducible rfl)
 | ((with_reducible refine And.intro ?_ ?_) <;> conv => whnf)
 | omega
 | rfl
 | (refine congrArg (SV.arr _) ?_)
 | (refine congrArg (Value.int _) ?_)
 | (refine congrArg Value.bool ?_)))); all_goals (try unfold Side)
  all_goals try (repeat' (first | (with_reducible rfl) | (with_reducible refine And.intro ?_ ?_) | omega | rfl | exact Or.inl rfl | exact Or.inr rfl | exact of_decide_eq_true rfl | exact Path.imp_of (of_decide_eq_true rfl) | (focus ((try simp only [Int.reduceToNat, Int.reduceTDiv, Int.reduceTMod, minL, maxL, pickB, zHB, InK, Path.imp, List.length_replicate, List.length_set, List.length_append, List.length_cons, List.length_nil] at *); omega)) | (refine app_le rfl ?_; omega)))
  refine W.loop (fun b : Nat => ⟨[(7, .own 900007), (8, .lit (.int .i64 ((b : Int))))], [(900007, .row 3 (.int .i64) true ((L b) : List Int))]⟩) (fun b => 1 ≤ b ∧ b ≤ n) (fun b => n - b) (1) ?_ ?_
  · refine ⟨⟨Nat.le_refl _, h0⟩, ?_⟩
    refine subF.ok ?_ <;> (conv => whnf) <;> repeat' (first
 | exact trivial
 | (with_reducible rfl)
 | ((with_reducible refine And.intro ?_ ?_) <;> conv => whnf)
 | omega
 | rfl
 | (refine congrArg (SV.arr _) ?_)
 | (refine congrArg (Value.int _) ?_)
 | (refine congrArg Value.bool ?_))
    all_goals first | exact hm1 | exact hL1
  · rintro b ⟨hb1, hb2⟩
    have hl1 := hLl b hb2
    by_cases hbn : b < n
    · have hs := hLs b hb1 hbn
      obtain ⟨m, hm⟩ : ∃ m, m = min (b - 0) (n - b) := ⟨_, rfl⟩
      have hs2 : ocopyL (L b) b 0 (min (b - 0) (@List.length (Ty.int .i64).T (L b) - b)) = L (b + m) := by rw [hl1, hm]; exact hs
      have hm2 : (b : Int) + (min (b - 0) (@List.length (Ty.int .i64).T (L b) - b) : Nat) = (b + m : Nat) := by rw [hl1, ← hm]; omega
      have hik : InK .i64 ((b : Int) + (min (b - 0) (@List.length (Ty.int .i64).T (L b) - b) : Nat)) := by rw [hm2]; simp only [InK]; omega
      repeat' (first
 | refine W.seq ?_
 | refine W.block ?_
 | (refine W.drawPh (id := 9) tys_ok [] mixed [0, 0, 0, 6, 0, 0, 48, 72, 129, 511] [([0, 1, 2, 4, 5], 2, 127), ([], 1, 255), ([8, 9], 0, 1023)] (by decide +kernel) ?_; conv => whnf)
 | (refine W.region tys_ok [] ?_; conv => whnf)
 | (refine W.drawAll tys_ok [] mixed rfl ?_; conv => whnf)
 | (refine W.ret ?_; conv => whnf)
 | (refine W.skip ?_; conv => whnf)
 | (refine W.exit ?_; conv => whnf)

    | (refine Both.mk ?_ ?_ <;> (conv => whnf))
    | (refine subF.leaf ?_ <;> (conv => whnf) <;> repeat' (first
 | exact trivial
 | (with_reducible rfl)
 | ((with_reducible refine And.intro ?_ ?_) <;> conv => whnf)
 | omega
 | rfl
 | (refine congrArg (SV.arr _) ?_)
 | (refine congrArg (Value.int _) ?_)
 | (refine congrArg Value.bool ?_)))
 | (refine subF.side ?_ <;> (conv => whnf) <;> repeat' (first
 | exact trivial
 | (with_reducible rfl)
 | ((with_reducible refine And.intro ?_ ?_) <;> conv => whnf)
 | omega
 | rfl
 | (refine congrArg (SV.arr _) ?_)
 | (refine congrArg (Value.int _) ?_)
 | (refine congrArg Value.bool ?_)))
 | (refine W.cond rfl (fun hb => ?_) (fun hb => ?_) <;> (try simp only [Int.reduceToNat, Int.reduceTDiv, Int.reduceTMod, minL, maxL, pickB, zHB] at hb) <;> (try (first | (cases hb; done) | exact absurd hb (by decide) | (exfalso; omega))))
 | ((with_reducible refine And.intro ?_ ?_); (focus ((repeat' (first | (with_reducible rfl) | (with_reducible refine And.intro ?_ ?_) | omega | rfl | exact Or.inl rfl | exact Or.inr rfl | exact of_decide_eq_true rfl | exact Path.imp_of (of_decide_eq_true rfl) | (focus ((try simp only [Int.reduceToNat, Int.reduceTDiv, Int.reduceTMod, minL, maxL, pickB, zHB, InK, Path.imp, List.length_replicate, List.length_set, List.length_append, List.length_cons, List.length_nil] at *); omega)) | (refine app_le rfl ?_; omega))); done)); (conv => whnf))
 | ((with_reducible refine And.intro (Side.out ?_) ?_); rotate_left; (conv => whnf))
 | (refine retF1 ?_ <;> (conv => whnf) <;> repeat' (first
 | exact trivial
 | (with_reducible rfl)
 | ((with_reducible refine And.intro ?_ ?_) <;> conv => whnf)
 | omega
 | rfl
 | (refine congrArg (SV.arr _) ?_)
 | (refine congrArg (Value.int _) ?_)
 | (refine congrArg Value.bool ?_)))
 | (refine retF2 ?_ <;> (conv => whnf) <;> repeat' (first
 | exact trivial
 | (with_reducible rfl)
 | ((with_reducible refine And.intro ?_ ?_) <;> conv => whnf)
 | omega
 | rfl
 | (refine congrArg (SV.arr _) ?_)
 | (refine congrArg (Value.int _) ?_)
 | (refine congrArg Value.bool ?_)))); all_goals (try unfold Side)
      all_goals try (repeat' (first | (with_reducible rfl) | (with_reducible refine And.intro ?_ ?_) | omega | rfl | exact Or.inl rfl | exact Or.inr rfl | exact of_decide_eq_true rfl | exact Path.imp_of (of_decide_eq_true rfl) | (focus ((try simp only [Int.reduceToNat, Int.reduceTDiv, Int.reduceTMod, minL, maxL, pickB, zHB, InK, Path.imp, List.length_replicate, List.length_set, List.length_append, List.length_cons, List.length_nil] at *); omega)) | (refine app_le rfl ?_; omega)))
      all_goals try exact Path.imp_of hik
      all_goals (refine ⟨b + m, ⟨⟨by omega, by omega⟩, by omega⟩, ?_⟩)
      all_goals refine subF.ok ?_ <;> (conv => whnf) <;> repeat' (first
 | exact trivial
 | (with_reducible rfl)
 | ((with_reducible refine And.intro ?_ ?_) <;> conv => whnf)
 | omega
 | rfl
 | (refine congrArg (SV.arr _) ?_)
 | (refine congrArg (Value.int _) ?_)
 | (refine congrArg Value.bool ?_))
      all_goals first | exact hs2 | exact hm2
    · have hbe : n = b := by omega
      subst hbe
      repeat' (first
 | refine W.seq ?_
 | refine W.block ?_
 | (refine W.region tys_ok [] ?_; conv => whnf)
 | (refine W.drawAll tys_ok [] mixed rfl ?_; conv => whnf)
 | (refine W.ret ?_; conv => whnf)
 | (refine W.skip ?_; conv => whnf)
 | (refine W.exit ?_; conv => whnf)

    | (refine W.cond rfl (fun hb => ?_) (fun hb => ?_) <;> (try simp only [Int.reduceToNat, Int.reduceTDiv, Int.reduceTMod, minL, maxL, pickB, zHB] at hb) <;> (try (first | (cases hb; done) | exact absurd hb (by decide) | (exfalso; omega))))
    | ((with_reducible refine And.intro ?_ ?_); (focus ((repeat' (first | (with_reducible rfl) | (with_reducible refine And.intro ?_ ?_) | omega | rfl | exact Or.inl rfl | exact Or.inr rfl | exact of_decide_eq_true rfl | exact Path.imp_of (of_decide_eq_true rfl) | (focus ((try simp only [Int.reduceToNat, Int.reduceTDiv, Int.reduceTMod, minL, maxL, pickB, zHB, InK, Path.imp, List.length_replicate, List.length_set, List.length_append, List.length_cons, List.length_nil] at *); omega)) | (refine app_le rfl ?_; omega))); done)); (conv => whnf))
    | ((with_reducible refine And.intro (Side.out ?_) ?_); rotate_left; (conv => whnf))
    | (refine retF1 ?_ <;> (conv => whnf) <;> repeat' (first
 | exact trivial
 | (with_reducible rfl)
 | ((with_reducible refine And.intro ?_ ?_) <;> conv => whnf)
 | omega
 | rfl
 | (refine congrArg (SV.arr _) ?_)
 | (refine congrArg (Value.int _) ?_)
 | (refine congrArg Value.bool ?_)))
 | (refine retF2 ?_ <;> (conv => whnf) <;> repeat' (first
 | exact trivial
 | (with_reducible rfl)
 | ((with_reducible refine And.intro ?_ ?_) <;> conv => whnf)
 | omega
 | rfl
 | (refine congrArg (SV.arr _) ?_)
 | (refine congrArg (Value.int _) ?_)
 | (refine congrArg Value.bool ?_)))); all_goals (try unfold Side)
      all_goals try (repeat' (first | (with_reducible rfl) | (with_reducible refine And.intro ?_ ?_) | omega | rfl | exact Or.inl rfl | exact Or.inr rfl | exact of_decide_eq_true rfl | exact Path.imp_of (of_decide_eq_true rfl) | (focus ((try simp only [Int.reduceToNat, Int.reduceTDiv, Int.reduceTMod, minL, maxL, pickB, zHB, InK, Path.imp, List.length_replicate, List.length_set, List.length_append, List.length_cons, List.length_nil] at *); omega)) | (refine app_le rfl ?_; omega)))
      all_goals exact hLn
end Go.Proofs.Ytdfajcfkdfjoeaa
/- A search that gives nodes two colours. No condition. -/
namespace Go.Scr
set_option linter.unusedVariables false
set_option linter.unusedSimpArgs false

/-- The colour that a neighbour has. -/
def wt (e : Nat → Nat → Bool) (s : List Int) (x z : Nat) : Int := if e x z = true then 1 - s.getD x 0 else s.getD x 0
/-- Colours in order. -/
def Valid (n : Nat) (g e : Nat → Nat → Bool) (d : Nat → Bool) : Prop := ∀ x y, x < n → y < n → g x y = true → (d x ^^ d y) = e x y
/-- What has a colour, with all its neighbours, in order. -/
def Clo (n : Nat) (g e : Nat → Nat → Bool) (s : List Int) : Prop := ∀ x z, x < n → z < n → 0 ≤ s.getD x 0 → g x z = true → 0 ≤ s.getD z 0 ∧ s.getD z 0 = wt e s x z
structure Vals (n : Nat) (s : List Int) : Prop where
  len : s.length = n
  val : ∀ x, x < n → s.getD x 0 = -1 ∨ s.getD x 0 = 0 ∨ s.getD x 0 = 1
structure Rd (n : Nat) (g e : Nat → Nat → Bool) (s0 s : List Int) (H : List Int) (k y : Nat) : Prop where
  va : Vals n s
  old : ∀ x, x < n → 0 ≤ s0.getD x 0 → s.getD x 0 = s0.getD x 0
  new : ∀ x, x < n → 0 ≤ s.getD x 0 → 0 ≤ s0.getD x 0 ∨ (x : Int) ∈ H
  mem : ∀ x ∈ H, 0 ≤ x ∧ x < n ∧ s0.getD x.toNat 0 < 0 ∧ 0 ≤ s.getD x.toNat 0
  nd : H.Nodup
  kl : k ≤ H.length
  don : ∀ i x z, i < k → H.getD i 0 = ((x : Nat) : Int) → z < n → g x z = true → 0 ≤ s.getD z 0 ∧ s.getD z 0 = wt e s x z
  par : ∀ x z, k < H.length → H.getD k 0 = ((x : Nat) : Int) → z < y → z < n → g x z = true → 0 ≤ s.getD z 0 ∧ s.getD z 0 = wt e s x z
  con : ∀ d, Valid n g e d → ∃ c : Bool, ∀ x : Nat, (x : Int) ∈ H → d x = (decide (s.getD x 0 = 1) ^^ c)

theorem set_get {s : List Int} {i j : Nat} {v : Int} (h : i < s.length) : (s.set i v).getD j 0 = if j = i then v else s.getD j 0 := by
  simp only [List.getD_eq_getElem?_getD]
  by_cases e : j = i
  · subst e; rw [if_pos rfl, List.getElem?_set_self h]; rfl
  · rw [if_neg e, List.getElem?_set_ne (Ne.symm e)]
theorem Vals.set {n : Nat} {s : List Int} (h : Vals n s) {f : Nat} (hf : f < n) {v : Int} (hv : v = 0 ∨ v = 1) : Vals n (s.set f v) := by
  refine ⟨by rw [List.length_set]; exact h.len, fun x hx => ?_⟩
  rw [set_get (by rw [h.len]; exact hf)]
  split
  · rcases hv with h | h <;> simp [h]
  · exact h.val x hx
theorem Rd.init {n : Nat} {g e : Nat → Nat → Bool} {s0 : List Int} (h : Vals n s0) {f : Nat} (hf : f < n) (hs : s0.getD f 0 < 0) : Rd n g e s0 (s0.set f 0) [(f : Int)] 0 0 := by
  have hfl : f < s0.length := by rw [h.len]; exact hf
  refine ⟨h.set hf (.inl rfl), fun x hx h0 => ?_, fun x hx h0 => ?_, fun x hx => ?_, by simp, by simp, fun i x z hi => by omega, fun x z hk hx hz => by omega, fun d hd => ⟨d f, fun x hx => ?_⟩⟩
  · rw [set_get hfl, if_neg (by rintro rfl; omega)]
  · rw [set_get hfl] at h0
    split at h0
    · rename_i e; subst e; exact .inr (by simp)
    · exact .inl h0
  · simp at hx; subst hx
    refine ⟨by omega, by omega, by simpa using hs, ?_⟩
    rw [Int.toNat_natCast, set_get hfl, if_pos rfl]; omega
  · simp at hx
    have : x = f := by omega
    subst this
    rw [set_get hfl, if_pos rfl]; simp
theorem Rd.len {n : Nat} {g e : Nat → Nat → Bool} {s0 s H : List Int} {k y : Nat} (h : Rd n g e s0 s H k y) : H.length ≤ n := by
  have := nodup_lt (n := n) (l := H.map Int.toNat) ?_ fun x hx => ?_
  · simpa using this
  · rw [List.nodup_iff_pairwise_ne, List.pairwise_map]
    refine List.Pairwise.imp_of_mem (fun {a b} ha hb hab => ?_) (List.nodup_iff_pairwise_ne.1 h.nd)
    have := h.mem a ha; have := h.mem b hb; omega
  · obtain ⟨a, ha, rfl⟩ := List.mem_map.1 hx
    have := h.mem a ha; omega
theorem Rd.at {n : Nat} {g e : Nat → Nat → Bool} {s0 s H : List Int} {k y : Nat} (h : Rd n g e s0 s H k y) (hk : k < H.length) : ∃ x : Nat, H.getD k 0 = (x : Int) ∧ x < n ∧ (s.getD x 0 = 0 ∨ s.getD x 0 = 1) ∧ s0.getD x 0 < 0 ∧ (x : Int) ∈ H := by
  have hm := mem_getD hk
  have := h.mem _ hm
  refine ⟨(H.getD k 0).toNat, by omega, by omega, ?_, this.2.2.1, ?_⟩
  · have hv := h.va.val (H.getD k 0).toNat (by omega); omega
  · rw [Int.toNat_of_nonneg this.1]; exact hm
/-- Nothing is to be done with y. -/
theorem Rd.skip {n : Nat} {g e : Nat → Nat → Bool} {s0 s H : List Int} {k y x : Nat} (h : Rd n g e s0 s H k y) (hx : H.getD k 0 = (x : Int)) (hg : g x y = true → 0 ≤ s.getD y 0 ∧ s.getD y 0 = wt e s x y) : Rd n g e s0 s H k (y + 1) := by
  refine ⟨h.va, h.old, h.new, h.mem, h.nd, h.kl, h.don, fun x' z hk hx' hz hn hgz => ?_, h.con⟩
  have : x' = x := by omega
  subst this
  by_cases e : z = y
  · subst e; exact hg hgz
  · exact h.par x' z hk hx' (by omega) hn hgz
/-- y gets its colour. -/
theorem Rd.put {n : Nat} {g e : Nat → Nat → Bool} {s0 s H : List Int} {k y x : Nat} (h : Rd n g e s0 s H k y) (hk : k < H.length) (hx : H.getD k 0 = (x : Int)) (hy : y < n) (hg : g x y = true) (hs : s.getD y 0 < 0) :
    Rd n g e s0 (s.set y (wt e s x y)) (H ++ [(y : Int)]) k (y + 1) := by
  obtain ⟨x', hx', hxn, hxv, hx0, hxm⟩ := h.at hk
  have : x' = x := by omega
  subst this
  have hyl : y < s.length := by rw [h.va.len]; exact hy
  have hw : wt e s x' y = 0 ∨ wt e s x' y = 1 := by unfold wt; split <;> rcases hxv with h | h <;> omega
  have ho : s0.getD y 0 < 0 := by
    refine Int.not_le.1 fun h0 => ?_
    have := h.old y hy h0; omega
  have hyH : ¬ (y : Int) ∈ H := fun hm => by have := h.mem _ hm; rw [Int.toNat_natCast] at this; omega
  have hne : ∀ z : Nat, 0 ≤ s.getD z 0 → z ≠ y := fun z hz e => by subst e; omega
  have hst : ∀ z, 0 ≤ s.getD z 0 → (s.set y (wt e s x' y)).getD z 0 = s.getD z 0 := fun z hz => by rw [set_get hyl, if_neg (hne z hz)]
  have hwt : ∀ a z, 0 ≤ s.getD a 0 → wt e (s.set y (wt e s x' y)) a z = wt e s a z := fun a z ha => by
    have h1 := hst a ha
    unfold wt at h1 ⊢; rw [h1]
  have hgd : ∀ i, i < H.length → (H ++ [(y : Int)]).getD i 0 = H.getD i 0 := fun i hi => by rw [getD_app, if_pos hi]
  have hgx : ∀ i (a : Nat), i < H.length → H.getD i 0 = (a : Int) → 0 ≤ s.getD a 0 := fun i a hi ha => by
    have := h.mem _ (mem_getD hi); rw [ha, Int.toNat_natCast] at this; exact this.2.2.2
  refine ⟨h.va.set hy hw, fun a ha h0 => ?_, fun a ha h0 => ?_, fun a ha => ?_, ?_, by simp; have := h.kl; omega, fun i a z hi ha hz hgz => ?_, fun a z _ ha hz hzn hgz => ?_, fun d hd => ?_⟩
  · have h1 := h.old a ha h0
    rw [hst a (by omega), h1]
  · rw [set_get hyl] at h0
    split at h0
    · rename_i e1; subst e1; exact .inr (by simp)
    · rcases h.new a ha h0 with h | h
      · exact .inl h
      · exact .inr (by simp [h])
  · rcases List.mem_append.1 ha with ha | ha
    · have := h.mem a ha
      refine ⟨this.1, this.2.1, this.2.2.1, ?_⟩
      rw [hst _ this.2.2.2]; exact this.2.2.2
    · simp at ha; subst ha
      refine ⟨by omega, by omega, by simpa using ho, ?_⟩
      rw [Int.toNat_natCast, set_get hyl, if_pos rfl]; omega
  · rw [List.nodup_append]
    refine ⟨h.nd, by simp, fun a ha b hb => ?_⟩
    simp at hb; subst hb
    rintro rfl; exact hyH ha
  · have hil : i < H.length := by have := h.kl; omega
    rw [hgd i hil] at ha
    have hz1 := h.don i a z hi ha hz hgz
    rw [hst z hz1.1, hwt a z (hgx i a hil ha)]; exact hz1
  · rw [hgd k hk] at ha
    have : a = x' := by omega
    subst this
    rw [hwt a z (by omega)]
    by_cases e1 : z = y
    · subst e1; rw [set_get hyl, if_pos rfl]; exact ⟨by omega, rfl⟩
    · have hz1 := h.par a z hk ha (by omega) hzn hgz
      rw [hst z hz1.1]; exact hz1
  · obtain ⟨c, hc⟩ := h.con d hd
    refine ⟨c, fun a ha => ?_⟩
    rcases List.mem_append.1 ha with ha | ha
    · have := h.mem _ ha; rw [Int.toNat_natCast] at this
      rw [hst a this.2.2.2]; exact hc a ha
    · simp at ha
      have : a = y := by omega
      subst this
      rw [set_get hyl, if_pos rfl]
      have h1 := hc x' hxm
      have h2 := hd x' a hxn hy hg
      have h3 : decide (wt e s x' a = 1) = (decide (s.getD x' 0 = 1) ^^ e x' a) := by
        unfold wt
        cases e x' a <;> rcases hxv with h | h <;> rw [h] <;> decide
      rw [h3]
      revert h1 h2
      generalize d x' = p; generalize d a = q; generalize e x' a = r; generalize decide (s.getD x' 0 = 1) = t
      cases p <;> cases q <;> cases r <;> cases t <;> cases c <;> simp
/-- All neighbours of the k-th are done. -/
theorem Rd.next {n : Nat} {g e : Nat → Nat → Bool} {s0 s H : List Int} {k : Nat} (h : Rd n g e s0 s H k n) (hk : k < H.length) : Rd n g e s0 s H (k + 1) 0 := by
  refine ⟨h.va, h.old, h.new, h.mem, h.nd, hk, fun i x z hi hx hz hg => ?_, fun x z _ _ hz => by omega, h.con⟩
  by_cases e : i = k
  · subst e; exact h.par x z hk hx hz hz hg
  · exact h.don i x z (by omega) hx hz hg
/-- The search has ended. -/
theorem Rd.done {n : Nat} {g e : Nat → Nat → Bool} {s0 s H : List Int} {y : Nat} (h : Rd n g e s0 s H H.length y) (h0 : Clo n g e s0) : Clo n g e s := fun x z hx hz hs hg => by
  rcases h.new x hx hs with h1 | h1
  · have h2 := h0 x z hx hz h1 hg
    have h3 := h.old z hz h2.1
    have h4 := h.old x hx h1
    rw [h3, h2.2]
    unfold wt at *
    rw [h4]; exact ⟨h2.2 ▸ h2.1, rfl⟩
  · obtain ⟨i, hi, hgi⟩ := getD_mem h1
    exact h.don i x z hi hgi hz hg
/-- A neighbour has the other colour: there is no division. -/
theorem Rd.bad {n : Nat} {g e : Nat → Nat → Bool} (hsy : ∀ x y, x < n → y < n → g x y = true → g y x = true) {s0 s H : List Int} {k y x : Nat} (h : Rd n g e s0 s H k y) (h0 : Clo n g e s0) (hk : k < H.length) (hx : H.getD k 0 = (x : Int)) (hy : y < n) (hg : g x y = true) (hs : 0 ≤ s.getD y 0) (hw : ¬ s.getD y 0 = wt e s x y)
    (d : Nat → Bool) (hd : Valid n g e d) : False := by
  obtain ⟨x', hx', hxn, hxv, hx0, hxm⟩ := h.at hk
  have : x' = x := by omega
  subst this
  rcases h.new y hy hs with h1 | h1
  · have := h0 y x' hy hxn h1 (hsy x' y hxn hy hg); omega
  · obtain ⟨c, hc⟩ := h.con d hd
    have h1 := hc x' hxm
    have h2 := hc y ‹_›
    have h3 := hd x' y hxn hy hg
    have hyv := h.va.val y hy
    apply hw
    have hyv' : s.getD y 0 = 0 ∨ s.getD y 0 = 1 := by omega
    unfold wt
    rw [h1, h2] at h3
    rw [← h3]
    rcases hxv with h | h <;> rcases hyv' with h' | h' <;> rw [h, h'] <;> cases c <;> simp
/-- Colours for all: a division. -/
theorem Clo.valid {n : Nat} {g e : Nat → Nat → Bool} {s : List Int} (h : Clo n g e s) (hv : Vals n s) (ha : ∀ x, x < n → 0 ≤ s.getD x 0) : Valid n g e fun x => decide (s.getD x 0 = 1) := fun x y hx hy hg => by
  have h1 := (h x y hx hy (ha x hx) hg).2
  have h2 := hv.val x hx; have h3 := hv.val y hy
  have h4 := ha x hx; have h5 := ha y hy
  have hx' : s.getD x 0 = 0 ∨ s.getD x 0 = 1 := by omega
  have hy' : s.getD y 0 = 0 ∨ s.getD y 0 = 1 := by omega
  dsimp only
  unfold wt at h1
  generalize e x y = r at h1 ⊢
  cases r <;> rcases hx' with h | h <;> rcases hy' with h' | h' <;> rw [h, h'] at h1 ⊢ <;> simp at h1 ⊢
end Go.Scr
/- The colours of the faces of a plane word. No condition. -/
namespace Go.Scr
set_option linter.unusedVariables false
set_option linter.unusedSimpArgs false
set_option linter.unusedSectionVars false

/-! ### In which list an element lies -/
def ofI (x : Int) : List (List Int) → Nat
  | [] => 0
  | f :: r => if x ∈ f then 0 else ofI x r + 1
theorem ofI_lt {x : Int} : ∀ {L : List (List Int)}, x ∈ L.flatten → ofI x L < L.length ∧ x ∈ L.getD (ofI x L) []
  | [], h => by simp at h
  | f :: r, h => by
    rw [ofI]
    split
    · rename_i e; exact ⟨by simp, e⟩
    · rename_i e
      have hr : x ∈ r.flatten := by
        rw [List.flatten_cons, List.mem_append] at h; exact h.resolve_left e
      have := ofI_lt hr
      exact ⟨by simp; exact this.1, by simpa using this.2⟩
theorem ofI_in {x : Int} : ∀ {L M : List (List Int)}, x ∈ L.flatten → ofI x (L ++ M) = ofI x L
  | [], M, h => by simp at h
  | f :: r, M, h => by
    rw [List.cons_append, ofI, ofI]
    split
    · rfl
    · rename_i e
      have hr : x ∈ r.flatten := by
        rw [List.flatten_cons, List.mem_append] at h; exact h.resolve_left e
      rw [ofI_in hr]
theorem ofI_out {x : Int} : ∀ {L M : List (List Int)}, ¬ x ∈ L.flatten → ofI x (L ++ M) = L.length + ofI x M
  | [], M, h => by simp
  | f :: r, M, h => by
    rw [List.flatten_cons, List.mem_append, not_or] at h
    rw [List.cons_append, ofI, if_neg h.1, ofI_out h.2, List.length_cons]; omega
/-- The map from elements to lists. -/
def ofM (L : List (List Int)) : Int → Option Int := fun x => if x ∈ L.flatten then some (ofI x L : Int) else none
theorem ofM_in {L : List (List Int)} {x : Int} (h : x ∈ L.flatten) : ofM L x = some (ofI x L : Int) := by rw [ofM, if_pos h]
theorem ofM_out {L : List (List Int)} {x : Int} (h : ¬ x ∈ L.flatten) : ofM L x = none := by rw [ofM, if_neg h]
theorem ofM_nil : ofM [] = fun _ => none := by funext x; simp [ofM]
theorem ofM_put {A : List (List Int)} {f : List Int} {x : Int} (h : ¬ x ∈ (A ++ [f]).flatten) : (fun y => if y = x then some (A.length : Int) else ofM (A ++ [f]) y) = ofM (A ++ [f ++ [x]]) := by
  funext y
  have hA : ¬ x ∈ A.flatten := fun hx => h (by simp only [List.flatten_append, List.mem_append]; exact .inl hx)
  by_cases e : y = x
  · subst e
    rw [if_pos rfl, ofM_in (by simp), ofI_out hA]
    simp [ofI]
  · rw [if_neg e]
    have hm : y ∈ (A ++ [f ++ [x]]).flatten ↔ y ∈ (A ++ [f]).flatten := by simp [e]
    by_cases hy : y ∈ (A ++ [f]).flatten
    · rw [ofM_in hy, ofM_in (hm.2 hy)]
      by_cases hyA : y ∈ A.flatten
      · rw [ofI_in hyA, ofI_in hyA]
      · rw [ofI_out hyA, ofI_out hyA]
        have hyf : y ∈ f := by
          simp only [List.flatten_append, List.mem_append] at hy
          have := hy.resolve_left hyA
          simpa using this
        simp [ofI, hyf]
    · rw [ofM_out hy, ofM_out (fun h => hy (hm.1 h))]
theorem ofM_new {A : List (List Int)} : ofM (A ++ [[]]) = ofM A := by
  funext y
  have hm : y ∈ (A ++ [[]]).flatten ↔ y ∈ A.flatten := by simp
  by_cases hy : y ∈ A.flatten
  · rw [ofM_in hy, ofM_in (hm.2 hy), ofI_in hy]
  · rw [ofM_out hy, ofM_out (fun h => hy (hm.1 h))]

/-! ### Two colours -/
structure Col (F : List (List Int)) (M : Nat) (d : Nat → Bool) : Prop where
  pos : 0 < M
  mem : ∀ x, -(M : Int) ≤ x → x < M → x ∈ F.flatten
  un : ∀ i j x, i < F.length → j < F.length → x ∈ F.getD i [] → x ∈ F.getD j [] → i = j
  rg : ∀ i x, i < F.length → x ∈ F.getD i [] → -(M : Int) ≤ x ∧ x < M
  z : d (ofI 0 F) = false
  op : ∀ x, -(M : Int) ≤ x → x < M → d (ofI (-1 - x) F) = !d (ofI x F)
  cn : ∀ S : Nat → Bool, S (ofI 0 F) = true → (∀ x, -(M : Int) ≤ x → x < M → S (ofI x F) = true → S (ofI (-1 - x) F) = true) → ∀ i, i < F.length → S i = true
theorem Col.at {F : List (List Int)} {M : Nat} {d : Nat → Bool} (h : Col F M d) {x : Int} (h0 : -(M : Int) ≤ x) (h1 : x < M) : ofI x F < F.length ∧ x ∈ F.getD (ofI x F) [] := ofI_lt (h.mem x h0 h1)
theorem Col.of {F : List (List Int)} {M : Nat} {d : Nat → Bool} (h : Col F M d) {i : Nat} {x : Int} (hi : i < F.length) (hx : x ∈ F.getD i []) : ofI x F = i := by
  have hr := h.rg i x hi hx
  have := h.at hr.1 hr.2
  exact h.un _ _ x this.1 hi this.2 hx
theorem col_of {w s : List Int} {n : Nat} (h : Word w n) (hs : s.all (fun x => decide (x = 1) || decide (x = -1)) = true) (hl : s.length = n) (hg : (facesT (nextT w s) (2 * n)).length = n + 2) : ∃ d, Col (facesT (nextT w s) (2 * n)) (2 * n) d := by
  have hpos := h.pos
  have H := facesT_FK (next_pn h hs hl)
  obtain ⟨X, hX, hXe⟩ := two_colors h hs hl hg
  obtain ⟨F, hF⟩ : ∃ F, F = facesT (nextT w s) (2 * n) := ⟨_, rfl⟩
  rw [← hF] at H ⊢
  have hfac : ∀ i, i < F.length → Fac (nextT w s) (2 * n) (F.getD i []) := fun i hi => H.fac _ (getD_mem' hi)
  have hun : ∀ i j x, i < F.length → j < F.length → x ∈ F.getD i [] → x ∈ F.getD j [] → i = j := fun i j x hi hj h1 h2 => H.disj hi hj h1 h2
  have hrg : ∀ i x, i < F.length → x ∈ F.getD i [] → -((2 * n : Nat) : Int) ≤ x ∧ x < (2 * n : Nat) := fun i x hi hx => H.rg x (List.mem_flatten.2 ⟨_, getD_mem' hi, hx⟩)
  have hmem : ∀ x, -((2 * n : Nat) : Int) ≤ x → x < (2 * n : Nat) → x ∈ F.flatten := fun x h0 h1 => by
    have := nodup_full H.nd H.rg H.len x h0 h1
    exact this
  have hat : ∀ x, -((2 * n : Nat) : Int) ≤ x → x < (2 * n : Nat) → ofI x F < F.length ∧ x ∈ F.getD (ofI x F) [] := fun x h0 h1 => ofI_lt (hmem x h0 h1)
  -- closed sets do not part faces
  have same : ∀ C, Cl (nextT w s) (2 * n) C → ∀ i x y, i < F.length → x ∈ F.getD i [] → y ∈ F.getD i [] → C x = C y := fun C hC i x y hi hx hy => by
    have hh := hfac i hi
    have k1 : ∀ C, Cl (nextT w s) (2 * n) C → ∀ x ∈ F.getD i [], C x = C ((F.getD i []).getD 0 0) := fun C hC x hx => by
      cases e : C ((F.getD i []).getD 0 0) with
      | true => exact hh.ch C hC e x hx
      | false =>
        have hC2 : Cl (nextT w s) (2 * n) fun x => !C x := fun x h0 h1 => by show (!C x) = (!C _); rw [hC x h0 h1]
        have := hh.ch (fun x => !C x) hC2 (by show (!C _) = true; rw [e]; rfl) x hx
        simpa using this
    rw [k1 C hC x hx, k1 C hC y hy]
  have hXo : ∀ x, -((2 * n : Nat) : Int) ≤ x → x < (2 * n : Nat) → X (-1 - x) = !X x := fun x h0 h1 => by
    by_cases hx : 0 ≤ x
    · have := hXe x.toNat (by omega)
      rw [Int.toNat_of_nonneg hx] at this; exact this
    · have := hXe (-1 - x).toNat (by omega)
      rw [Int.toNat_of_nonneg (by omega), show -1 - (-1 - x) = x by omega] at this
      rw [this]; simp
  have hd : ∀ x, -((2 * n : Nat) : Int) ≤ x → x < (2 * n : Nat) → X ((F.getD (ofI x F) []).getD 0 0) = X x := fun x h0 h1 => by
    have := hat x h0 h1
    exact same X hX _ _ _ this.1 (hfac _ this.1).head this.2
  refine ⟨fun i => X ((F.getD i []).getD 0 0) ^^ X 0, by omega, hmem, hun, hrg, ?_, fun x h0 h1 => ?_, fun S hS hcl i hi => ?_⟩
  · show (X ((F.getD (ofI 0 F) []).getD 0 0) ^^ X 0) = false
    rw [hd 0 (by omega) (by omega)]; simp
  · show (X ((F.getD (ofI (-1 - x) F) []).getD 0 0) ^^ X 0) = !(X ((F.getD (ofI x F) []).getD 0 0) ^^ X 0)
    rw [hd _ (by omega) (by omega), hd x h0 h1, hXo x h0 h1]
    cases X x <;> cases X 0 <;> rfl
  · have hY : Cl (nextT w s) (2 * n) fun x => S (ofI x F) := fun x h0 h1 => by
      have h2 := hat x h0 h1
      have h3 := ((hfac _ h2.1).cl x h0 h1).1 h2.2
      have h4 := (next_pn h hs hl).rg x h0 h1
      have h5 := hat _ h4.1 h4.2
      show S (ofI x F) = S (ofI (nextT w s x) F)
      rw [hun _ _ _ h2.1 h5.1 h3 h5.2]
    have hc := conn h hs hl hY fun e he => by
      have k1 := hcl (e : Int) (by omega) (by omega)
      have k2 := hcl (-1 - (e : Int)) (by omega) (by omega)
      rw [show -1 - (-1 - (e : Int)) = e by omega] at k2
      cases e1 : S (ofI (e : Int) F) with
      | true => exact (k1 e1).symm
      | false =>
        cases e2 : S (ofI (-1 - (e : Int)) F) with
        | false => rfl
        | true => rw [k2 e2] at e1; cases e1
    have hx := (hfac i hi).head
    have hr := hrg i _ hi hx
    have := hc _ hr.1 hr.2
    have h2 := hat _ hr.1 hr.2
    rw [hun _ _ _ h2.1 hi h2.2 hx] at this
    rw [this]; exact hS

/-- How many of the first k are white. -/
def whK (d : Nat → Bool) : Nat → Nat
  | 0 => 0
  | k + 1 => whK d k + (d k).toNat
theorem whK_le {d : Nat → Bool} : ∀ {k : Nat}, whK d k ≤ k
  | 0 => Nat.le_refl _
  | k + 1 => by have := whK_le (d := d) (k := k); rw [whK]; cases d k <;> simp <;> omega
theorem whK_pos {d : Nat → Bool} : ∀ {k i : Nat}, i < k → d i = true → 0 < whK d k
  | k + 1, i, hi, hd => by
    rw [whK]
    by_cases e : i = k
    · subst e; rw [hd]; simp
    · have := whK_pos (d := d) (k := k) (i := i) (by omega) hd; omega
theorem whK_lt {d : Nat → Bool} : ∀ {k i : Nat}, i < k → d i = false → whK d k < k
  | k + 1, i, hi, hd => by
    rw [whK]
    by_cases e : i = k
    · subst e; have := whK_le (d := d) (k := i); rw [hd]; simp; omega
    · have := whK_lt (d := d) (k := k) (i := i) (by omega) hd; cases d k <;> simp <;> omega

/-! ### The program's search -/
structure Bf (F : List (List Int)) (d : Nat → Bool) (s H : List Int) (k q : Nat) : Prop where
  len : s.length = F.length
  val : ∀ i, i < F.length → s.getD i 0 = -1 ∨ s.getD i 0 = ((d i).toNat : Int)
  mem : ∀ x ∈ H, 0 ≤ x ∧ x < F.length ∧ 0 ≤ s.getD x.toNat 0
  new : ∀ i : Nat, i < F.length → 0 ≤ s.getD i 0 → (i : Int) ∈ H
  nd : H.Nodup
  kl : k ≤ H.length
  z : 0 ≤ s.getD (ofI 0 F) 0
  don : ∀ i x, i < k → H.getD i 0 = ((x : Nat) : Int) → ∀ p, p < (F.getD x []).length → 0 ≤ s.getD (ofI (-1 - (F.getD x []).getD p 0) F) 0
  par : ∀ x, k < H.length → H.getD k 0 = ((x : Nat) : Int) → ∀ p, p < q → p < (F.getD x []).length → 0 ≤ s.getD (ofI (-1 - (F.getD x []).getD p 0) F) 0
theorem Bf.init {F : List (List Int)} {M : Nat} {d : Nat → Bool} (h : Col F M d) : Bf F d ((List.replicate F.length (-1)).set (ofI 0 F) 0) [(ofI 0 F : Int)] 0 0 := by
  have hp := h.pos
  have h0 := h.at (x := 0) (by omega) (by omega)
  have hg : ∀ i, i < F.length → ((List.replicate F.length (-1 : Int)).set (ofI 0 F) 0).getD i 0 = if i = ofI 0 F then 0 else -1 := fun i hi => by
    rw [set_get (by simp; exact h0.1)]
    split
    · rfl
    · simp [List.getD, hi]
  refine ⟨by simp, fun i hi => ?_, fun x hx => ?_, fun i hi h1 => ?_, by simp, by simp, ?_, by omega, by omega⟩
  · rw [hg i hi]
    split
    · rename_i e; subst e; rw [h.z]; exact .inr rfl
    · exact .inl rfl
  · simp at hx; subst hx
    refine ⟨by omega, by omega, ?_⟩
    rw [Int.toNat_natCast, hg _ h0.1, if_pos rfl]; omega
  · rw [hg i hi] at h1
    split at h1
    · rename_i e; subst e; simp
    · omega
  · rw [hg _ h0.1, if_pos rfl]; omega
theorem Bf.lenH {F : List (List Int)} {d : Nat → Bool} {s H : List Int} {k q : Nat} (h : Bf F d s H k q) : H.length ≤ F.length := by
  have := nodup_lt (n := F.length) (l := H.map Int.toNat) ?_ fun x hx => ?_
  · simpa using this
  · rw [List.nodup_iff_pairwise_ne, List.pairwise_map]
    refine List.Pairwise.imp_of_mem (fun {a b} ha hb hab => ?_) (List.nodup_iff_pairwise_ne.1 h.nd)
    have := h.mem a ha; have := h.mem b hb; omega
  · obtain ⟨a, ha, rfl⟩ := List.mem_map.1 hx
    have := h.mem a ha; omega
theorem Bf.at {F : List (List Int)} {d : Nat → Bool} {s H : List Int} {k q : Nat} (h : Bf F d s H k q) (hk : k < H.length) : ∃ x : Nat, H.getD k 0 = (x : Int) ∧ x < F.length ∧ s.getD x 0 = ((d x).toNat : Int) := by
  have := h.mem _ (mem_getD hk)
  refine ⟨(H.getD k 0).toNat, by omega, by omega, ?_⟩
  have hv := h.val (H.getD k 0).toNat (by omega); omega
theorem Bf.skip {F : List (List Int)} {d : Nat → Bool} {s H : List Int} {k q x : Nat} (h : Bf F d s H k q) (hx : H.getD k 0 = (x : Int)) (hs : 0 ≤ s.getD (ofI (-1 - (F.getD x []).getD q 0) F) 0) : Bf F d s H k (q + 1) := by
  refine ⟨h.len, h.val, h.mem, h.new, h.nd, h.kl, h.z, h.don, fun x' hk hx' p hp hpl => ?_⟩
  have : x' = x := by omega
  subst this
  by_cases e : p = q
  · subst e; exact hs
  · exact h.par x' hk hx' p (by omega) hpl
theorem Bf.put {F : List (List Int)} {M : Nat} {d : Nat → Bool} (hc : Col F M d) {s H : List Int} {k q x y : Nat} (h : Bf F d s H k q) (hk : k < H.length) (hx : H.getD k 0 = (x : Int)) (hq : q < (F.getD x []).length) (hy : y = ofI (-1 - (F.getD x []).getD q 0) F) (hs : s.getD y 0 < 0) :
    Bf F d (s.set y (1 - s.getD x 0)) (H ++ [(y : Int)]) k (q + 1) := by
  obtain ⟨x', hx', hxl, hxv⟩ := h.at hk
  have : x' = x := by omega
  subst this
  have hm : (F.getD x' []).getD q 0 ∈ F.getD x' [] := mem_getD hq
  have hr := hc.rg x' _ hxl hm
  have hyl := (hc.at (x := -1 - (F.getD x' []).getD q 0) (by omega) (by omega)).1
  rw [← hy] at hyl
  have ho := hc.op _ hr.1 hr.2
  rw [hc.of hxl hm, ← hy] at ho
  have hysl : y < s.length := by rw [h.len]; exact hyl
  have hw : 1 - s.getD x' 0 = ((d y).toNat : Int) := by rw [hxv, ho]; cases d x' <;> rfl
  rw [hw]
  have hge : ∀ i, 0 ≤ s.getD i 0 → (s.set y ((d y).toNat : Int)).getD i 0 = s.getD i 0 := fun i hi => by rw [set_get hysl, if_neg (by rintro rfl; omega)]
  have hyy : (s.set y ((d y).toNat : Int)).getD y 0 = ((d y).toNat : Int) := by rw [set_get hysl, if_pos rfl]
  have hge2 : ∀ i, 0 ≤ s.getD i 0 → 0 ≤ (s.set y ((d y).toNat : Int)).getD i 0 := fun i hi => by rw [hge i hi]; exact hi
  have hyH : ¬ (y : Int) ∈ H := fun hm => by have := h.mem _ hm; rw [Int.toNat_natCast] at this; omega
  refine ⟨by rw [List.length_set]; exact h.len, fun i hi => ?_, fun a ha => ?_, fun i hi h0 => ?_, ?_, by simp; have := h.kl; omega, hge2 _ h.z, fun i a hi ha p hp => ?_, fun a _ ha p hp hpl => ?_⟩
  · rw [set_get hysl]
    split
    · rename_i e; subst e; exact .inr rfl
    · exact h.val i hi
  · rcases List.mem_append.1 ha with ha | ha
    · have := h.mem a ha; exact ⟨this.1, this.2.1, hge2 _ this.2.2⟩
    · simp at ha; subst ha; exact ⟨by omega, by omega, by rw [Int.toNat_natCast, hyy]; omega⟩
  · rw [set_get hysl] at h0
    split at h0
    · rename_i e; subst e; simp
    · exact List.mem_append.2 (.inl (h.new i hi h0))
  · rw [List.nodup_append]
    refine ⟨h.nd, by simp, fun a ha b hb => ?_⟩
    simp at hb; subst hb
    rintro rfl; exact hyH ha
  · have hil : i < H.length := by have := h.kl; omega
    rw [getD_app, if_pos hil] at ha
    exact hge2 _ (h.don i a hi ha p hp)
  · rw [getD_app, if_pos hk] at ha
    have : a = x' := by omega
    subst this
    by_cases e : p = q
    · subst e; rw [← hy, hyy]; omega
    · exact hge2 _ (h.par a hk hx' p (by omega) hpl)
theorem Bf.next {F : List (List Int)} {d : Nat → Bool} {s H : List Int} {k x : Nat} (h : Bf F d s H k (F.getD x []).length) (hk : k < H.length) (hx : H.getD k 0 = (x : Int)) : Bf F d s H (k + 1) 0 := by
  refine ⟨h.len, h.val, h.mem, h.new, h.nd, hk, h.z, fun i a hi ha p hp => ?_, fun _ _ _ p hp => by omega⟩
  by_cases e : i = k
  · subst e
    have : a = x := by omega
    subst this
    exact h.par a hk ha p hp hp
  · exact h.don i a (by omega) ha p hp
theorem Bf.done {F : List (List Int)} {M : Nat} {d : Nat → Bool} (hc : Col F M d) {s H : List Int} {q : Nat} (h : Bf F d s H H.length q) : ∀ i, i < F.length → s.getD i 0 = ((d i).toNat : Int) := by
  have hall := hc.cn (fun i => decide (0 ≤ s.getD i 0)) (decide_eq_true h.z) fun x h0 h1 hx => by
    have h2 := hc.at h0 h1
    have h3 := h.new _ h2.1 (of_decide_eq_true hx)
    obtain ⟨i, hi, hgi⟩ := getD_mem h3
    obtain ⟨p, hp, hgp⟩ := getD_mem h2.2
    have := h.don i _ hi hgi p hp
    rw [hgp] at this
    exact decide_eq_true this
  intro i hi
  have := of_decide_eq_true (hall i hi)
  have hv := h.val i hi; omega
end Go.Scr
/- The colours of the faces: the program's. No condition. -/
namespace Go.Proofs.Ytdfajcfkdfjoeaa
open Go Go.Vc Go.Scr
set_option linter.unusedVariables false
set_option linter.unusedSimpArgs false

theorem mi_eq' {m m' : Int → Option Int} {c c' : Nat} (h : m = m') (hc : c = c') : Ob.mp .i64 (.int .i64) m c = Ob.mp .i64 (.int .i64) m' c' := by rw [h, hc]
theorem Colors_no {w s : List Int} (h : ¬ whyT w s = 0) (hl : w.length ≤ 1000) (hs : s.length ≤ 1000) : FnAt Try.prog false 32 [.arr (.int .i64) w, .arr (.int .i64) s] (.tup [.lit (.int .i64 0), .lit (.int .i64 0), .lit (.int .i64 (whyT w s))]) [] := by
  refine FnAt.of_body tys_ok Try.func32 (by rfl) rfl Try.ntmps32 (by rw [Try.results32]) (by simp) ?_
  
  repeat' (first
 | refine W.seq ?_
 | refine W.block ?_
 | (refine W.region tys_ok [] ?_; conv => whnf)
 | (refine W.drawAll tys_ok [] mixed rfl ?_; conv => whnf)
 | (refine W.ret ?_; conv => whnf)
 | (refine W.skip ?_; conv => whnf)
 | (refine W.exit ?_; conv => whnf)
 | (refine call_at (al := true) (signed_no h hl hs) rfl rfl rfl rfl ?_; conv => whnf)

    | (refine W.cond rfl (fun hb => ?_) (fun hb => ?_) <;> (try simp only [Int.reduceToNat, Int.reduceTDiv, Int.reduceTMod, minL, maxL, pickB, zHB] at hb) <;> (try (first | (cases hb; done) | exact absurd hb (by decide) | (exfalso; omega))))
    | ((with_reducible refine And.intro ?_ ?_); (focus ((repeat' (first | (with_reducible rfl) | (with_reducible refine And.intro ?_ ?_) | omega | rfl | exact Or.inl rfl | exact Or.inr rfl | exact of_decide_eq_true rfl | exact Path.imp_of (of_decide_eq_true rfl) | (focus ((try simp only [Int.reduceToNat, Int.reduceTDiv, Int.reduceTMod, minL, maxL, pickB, zHB, InK, Path.imp, List.length_replicate, List.length_set, List.length_append, List.length_cons, List.length_nil] at *); omega)) | (refine app_le rfl ?_; omega))); done)); (conv => whnf))
    | ((with_reducible refine And.intro (Side.out ?_) ?_); rotate_left; (conv => whnf))
    | (refine retF1 ?_ <;> (conv => whnf) <;> repeat' (first
 | exact trivial
 | (with_reducible rfl)
 | ((with_reducible refine And.intro ?_ ?_) <;> conv => whnf)
 | omega
 | rfl
 | (refine congrArg (SV.arr _) ?_)
 | (refine congrArg (Value.int _) ?_)
 | (refine congrArg Value.bool ?_)))
 | (refine retF2 ?_ <;> (conv => whnf) <;> repeat' (first
 | exact trivial
 | (with_reducible rfl)
 | ((with_reducible refine And.intro ?_ ?_) <;> conv => whnf)
 | omega
 | rfl
 | (refine congrArg (SV.arr _) ?_)
 | (refine congrArg (Value.int _) ?_)
 | (refine congrArg Value.bool ?_)))); all_goals (try unfold Side)
  all_goals try (repeat' (first | (with_reducible rfl) | (with_reducible refine And.intro ?_ ?_) | omega | rfl | exact Or.inl rfl | exact Or.inr rfl | exact of_decide_eq_true rfl | exact Path.imp_of (of_decide_eq_true rfl) | (focus ((try simp only [Int.reduceToNat, Int.reduceTDiv, Int.reduceTMod, minL, maxL, pickB, zHB, InK, Path.imp, List.length_replicate, List.length_set, List.length_append, List.length_cons, List.length_nil] at *); omega)) | (refine app_le rfl ?_; omega)))
theorem Colors_none {w s : List Int} {n : Nat} (h : Word w n) (hn : n ≤ 10) (hs : signsB s n = true) (hg : ¬ genusT n w s = 0) : FnAt Try.prog false 32 [.arr (.int .i64) w, .arr (.int .i64) s] (.tup [.lit (.int .i64 0), .lit (.int .i64 0), .lit (.int .i64 5)]) [] := by
  refine FnAt.of_body tys_ok Try.func32 (by rfl) rfl Try.ntmps32 (by rw [Try.results32]) (by simp) ?_
  
  repeat' (first
 | refine W.seq ?_
 | refine W.block ?_
 | (refine W.region tys_ok [] ?_; conv => whnf)
 | (refine W.drawAll tys_ok [] mixed rfl ?_; conv => whnf)
 | (refine W.ret ?_; conv => whnf)
 | (refine W.skip ?_; conv => whnf)
 | (refine W.exit ?_; conv => whnf)
 | (refine call_at (al := true) (signed_ok h hn hs) rfl rfl rfl rfl ?_; conv => whnf)
 | (refine call_at (al := false) (genus_at h hn hs) rfl rfl rfl rfl ?_; conv => whnf)

    | (refine W.cond rfl (fun hb => ?_) (fun hb => ?_) <;> (try simp only [Int.reduceToNat, Int.reduceTDiv, Int.reduceTMod, minL, maxL, pickB, zHB] at hb) <;> (try (first | (cases hb; done) | exact absurd hb (by decide) | (exfalso; omega))))
    | ((with_reducible refine And.intro ?_ ?_); (focus ((repeat' (first | (with_reducible rfl) | (with_reducible refine And.intro ?_ ?_) | omega | rfl | exact Or.inl rfl | exact Or.inr rfl | exact of_decide_eq_true rfl | exact Path.imp_of (of_decide_eq_true rfl) | (focus ((try simp only [Int.reduceToNat, Int.reduceTDiv, Int.reduceTMod, minL, maxL, pickB, zHB, InK, Path.imp, List.length_replicate, List.length_set, List.length_append, List.length_cons, List.length_nil] at *); omega)) | (refine app_le rfl ?_; omega))); done)); (conv => whnf))
    | ((with_reducible refine And.intro (Side.out ?_) ?_); rotate_left; (conv => whnf))
    | (refine retF1 ?_ <;> (conv => whnf) <;> repeat' (first
 | exact trivial
 | (with_reducible rfl)
 | ((with_reducible refine And.intro ?_ ?_) <;> conv => whnf)
 | omega
 | rfl
 | (refine congrArg (SV.arr _) ?_)
 | (refine congrArg (Value.int _) ?_)
 | (refine congrArg Value.bool ?_)))
 | (refine retF2 ?_ <;> (conv => whnf) <;> repeat' (first
 | exact trivial
 | (with_reducible rfl)
 | ((with_reducible refine And.intro ?_ ?_) <;> conv => whnf)
 | omega
 | rfl
 | (refine congrArg (SV.arr _) ?_)
 | (refine congrArg (Value.int _) ?_)
 | (refine congrArg Value.bool ?_)))); all_goals (try unfold Side)
  all_goals try (repeat' (first | (with_reducible rfl) | (with_reducible refine And.intro ?_ ?_) | omega | rfl | exact Or.inl rfl | exact Or.inr rfl | exact of_decide_eq_true rfl | exact Path.imp_of (of_decide_eq_true rfl) | (focus ((try simp only [Int.reduceToNat, Int.reduceTDiv, Int.reduceTMod, minL, maxL, pickB, zHB, InK, Path.imp, List.length_replicate, List.length_set, List.length_append, List.length_cons, List.length_nil] at *); omega)) | (refine app_le rfl ?_; omega)))
theorem ofM_get {F : List (List Int)} {x : Int} (h : x ∈ F.flatten) : (ofM F x).getD 0 = (ofI x F : Int) := by rw [ofM_in h]; rfl
theorem take_get {xs : List Int} {j : Nat} (h : j < xs.length) : xs.take (j + 1) = xs.take j ++ [xs.getD j 0] := by
  rw [List.take_add_one]; simp [List.getD, h]
set_option maxHeartbeats 16000000 in
theorem Colors_ok {w s : List Int} {n : Nat} (h : Word w n) (hn : n ≤ 10) (hs : signsB s n = true) (hg : genusT n w s = 0) {d : Nat → Bool} (hd : Col (facesT (nextT w s) (2 * n)) (2 * n) d) :
    FnAt Try.prog false 32 [.arr (.int .i64) w, .arr (.int .i64) s] (.tup [.lit (.int .i64 ((n + 2 : Nat) - (whK d (n + 2) : Int))), .lit (.int .i64 (whK d (n + 2))), .lit (.int .i64 0)]) [] := by
  have hp := h.pos
  have hs' := hs
  simp only [signsB, Bool.and_eq_true, decide_eq_true_eq] at hs'
  have hgk := (genus_ok h hs'.1 hs'.2).2
  have hgen := genus_at h hn hs
  have hfac := faces_at h hn hs
  have H := facesT_FK (next_pn h hs'.1 hs'.2)
  rw [hg] at hgk hgen
  obtain ⟨F, hF⟩ : ∃ F, F = facesT (nextT w s) (2 * n) := ⟨_, rfl⟩
  rw [← hF] at hd hgk hfac H
  clear hF
  have hFl : F.length = n + 2 := by omega
  have hFl2 : @List.length (Ty.sl (.int .i64)).T F = n + 2 := hFl
  rw [← hFl]
  have H1 := fun j q hj hq => H.at (j := j) (q := q) hj hq
  have H4 := H.len
  have H5 := fun j => flat_len (F := F) (j := j)
  have H6 := fun j hj => flat_take (F := F) (j := j) hj
  have H7 := fun j hj => take_face (F := F) (j := j) hj
  have hz := hd.mem 0 (by omega) (by omega)
  have hz0 := ofM_get hz
  have hzl := (hd.at (x := 0) (by omega) (by omega)).1
  have hrep := repeat_at (n := F.length) (by omega) (by omega)
  have hini := Bf.init hd
  have hfl40 : ∀ j, j < F.length → (F.getD j []).length ≤ 40 := fun j hj => by
    have h6 := H6 j hj
    have h5 := H5 (j + 1)
    rw [h6, List.length_append] at h5; omega
  refine FnAt.of_body tys_ok Try.func32 (by rfl) rfl Try.ntmps32 (by rw [Try.results32]) (by simp) ?_
  
  repeat' (first
 | refine W.seq ?_
 | refine W.block ?_
 | (refine W.region tys_ok [40] ?_; conv => whnf)
 | (refine W.drawAll tys_ok [40] mixed rfl ?_; conv => whnf)
 | (refine W.ret ?_; conv => whnf)
 | (refine W.skip ?_; conv => whnf)
 | (refine W.exit ?_; conv => whnf)
 | (refine call_at (al := true) (signed_ok h hn hs) rfl rfl rfl rfl ?_; conv => whnf)
 | (refine call_at (al := false) (hgen) rfl rfl rfl rfl ?_; conv => whnf)
 | (refine call_at (al := false) (hfac) rfl rfl rfl rfl ?_; conv => whnf)

    | (refine W.cond rfl (fun hb => ?_) (fun hb => ?_) <;> (try simp only [Int.reduceToNat, Int.reduceTDiv, Int.reduceTMod, minL, maxL, pickB, zHB] at hb) <;> (try (first | (cases hb; done) | exact absurd hb (by decide) | (exfalso; omega))))
    | ((with_reducible refine And.intro ?_ ?_); (focus ((repeat' (first | (with_reducible rfl) | (with_reducible refine And.intro ?_ ?_) | omega | rfl | exact Or.inl rfl | exact Or.inr rfl | exact of_decide_eq_true rfl | exact Path.imp_of (of_decide_eq_true rfl) | (focus ((try simp only [Int.reduceToNat, Int.reduceTDiv, Int.reduceTMod, minL, maxL, pickB, zHB, InK, Path.imp, List.length_replicate, List.length_set, List.length_append, List.length_cons, List.length_nil] at *); omega)) | (refine app_le rfl ?_; omega))); done)); (conv => whnf))
    | ((with_reducible refine And.intro (Side.out ?_) ?_); rotate_left; (conv => whnf))
    | (refine retF1 ?_ <;> (conv => whnf) <;> repeat' (first
 | exact trivial
 | (with_reducible rfl)
 | ((with_reducible refine And.intro ?_ ?_) <;> conv => whnf)
 | omega
 | rfl
 | (refine congrArg (SV.arr _) ?_)
 | (refine congrArg (Value.int _) ?_)
 | (refine congrArg Value.bool ?_)))
 | (refine retF2 ?_ <;> (conv => whnf) <;> repeat' (first
 | exact trivial
 | (with_reducible rfl)
 | ((with_reducible refine And.intro ?_ ?_) <;> conv => whnf)
 | omega
 | rfl
 | (refine congrArg (SV.arr _) ?_)
 | (refine congrArg (Value.int _) ?_)
 | (refine congrArg Value.bool ?_)))); all_goals (try unfold Side)
  all_goals try (repeat' (first | (with_reducible rfl) | (with_reducible refine And.intro ?_ ?_) | omega | rfl | exact Or.inl rfl | exact Or.inr rfl | exact of_decide_eq_true rfl | exact Path.imp_of (of_decide_eq_true rfl) | (focus ((try simp only [Int.reduceToNat, Int.reduceTDiv, Int.reduceTMod, minL, maxL, pickB, zHB, InK, Path.imp, List.length_replicate, List.length_set, List.length_append, List.length_cons, List.length_nil] at *); omega)) | (refine app_le rfl ?_; omega)))
  refine W.loop (fun i : Nat => ⟨[(9, .st true (.arr (.sl (.int .i64)) (F : List (List Int)))), (10, .own 900010), (42, .st true (.arr (.sl (.int .i64)) (F : List (List Int)))), (43, .lit (.int .i64 ((F.length : Nat)))), (44, .lit (.int .i64 (i)))], [(900010, .mp .i64 (.int .i64) (ofM (F.take i)) (F.take i).flatten.length)]⟩) (fun i => i ≤ F.length) (fun i => F.length - i) (0) ?_ ?_
  · refine ⟨Nat.zero_le _, ?_⟩
    refine subF.ok ?_ <;> (conv => whnf) <;> repeat' (first
 | exact trivial
 | (with_reducible rfl)
 | ((with_reducible refine And.intro ?_ ?_) <;> conv => whnf)
 | omega
 | rfl
 | (refine congrArg (SV.arr _) ?_)
 | (refine congrArg (Value.int _) ?_)
 | (refine congrArg Value.bool ?_))
    all_goals exact mi_eq' ofM_nil.symm rfl
  · intro i hi
    by_cases hil : i < F.length
    · have h40 := hfl40 i hil
      have hfe : @List.length (Ty.int .i64).T (F.getD i []) = (F.getD i []).length := rfl
      repeat' (first
 | refine W.seq ?_
 | refine W.block ?_
 | (refine W.region tys_ok [] ?_; conv => whnf)
 | (refine W.drawAll tys_ok [] mixed rfl ?_; conv => whnf)
 | (refine W.ret ?_; conv => whnf)
 | (refine W.skip ?_; conv => whnf)
 | (refine W.exit ?_; conv => whnf)

    | (refine W.cond rfl (fun hb => ?_) (fun hb => ?_) <;> (try simp only [Int.reduceToNat, Int.reduceTDiv, Int.reduceTMod, minL, maxL, pickB, zHB] at hb) <;> (try (first | (cases hb; done) | exact absurd hb (by decide) | (exfalso; omega))))
    | ((with_reducible refine And.intro ?_ ?_); (focus ((repeat' (first | (with_reducible rfl) | (with_reducible refine And.intro ?_ ?_) | omega | rfl | exact Or.inl rfl | exact Or.inr rfl | exact of_decide_eq_true rfl | exact Path.imp_of (of_decide_eq_true rfl) | (focus ((try simp only [Int.reduceToNat, Int.reduceTDiv, Int.reduceTMod, minL, maxL, pickB, zHB, InK, Path.imp, List.length_replicate, List.length_set, List.length_append, List.length_cons, List.length_nil] at *); omega)) | (refine app_le rfl ?_; omega))); done)); (conv => whnf))
    | ((with_reducible refine And.intro (Side.out ?_) ?_); rotate_left; (conv => whnf))
    | (refine retF1 ?_ <;> (conv => whnf) <;> repeat' (first
 | exact trivial
 | (with_reducible rfl)
 | ((with_reducible refine And.intro ?_ ?_) <;> conv => whnf)
 | omega
 | rfl
 | (refine congrArg (SV.arr _) ?_)
 | (refine congrArg (Value.int _) ?_)
 | (refine congrArg Value.bool ?_)))
 | (refine retF2 ?_ <;> (conv => whnf) <;> repeat' (first
 | exact trivial
 | (with_reducible rfl)
 | ((with_reducible refine And.intro ?_ ?_) <;> conv => whnf)
 | omega
 | rfl
 | (refine congrArg (SV.arr _) ?_)
 | (refine congrArg (Value.int _) ?_)
 | (refine congrArg Value.bool ?_)))); all_goals (try unfold Side)
      all_goals try (repeat' (first | (with_reducible rfl) | (with_reducible refine And.intro ?_ ?_) | omega | rfl | exact Or.inl rfl | exact Or.inr rfl | exact of_decide_eq_true rfl | exact Path.imp_of (of_decide_eq_true rfl) | (focus ((try simp only [Int.reduceToNat, Int.reduceTDiv, Int.reduceTMod, minL, maxL, pickB, zHB, InK, Path.imp, List.length_replicate, List.length_set, List.length_append, List.length_cons, List.length_nil] at *); omega)) | (refine app_le rfl ?_; omega)))
      refine W.loop (fun q : Nat => ⟨[(9, .st true (.arr (.sl (.int .i64)) (F : List (List Int)))), (10, .own 900010), (42, .st true (.arr (.sl (.int .i64)) (F : List (List Int)))), (43, .lit (.int .i64 ((F.length : Nat)))), (44, .lit (.int .i64 (i))), (11, .lit (.int .i64 (i))), (49, .st true (.arr (.int .i64) ((F.getD i []) : List Int))), (50, .lit (.int .i64 ((F.getD i []).length))), (51, .lit (.int .i64 (q)))], [(900010, .mp .i64 (.int .i64) (ofM (F.take i ++ [(F.getD i []).take q])) (F.take i ++ [(F.getD i []).take q]).flatten.length)]⟩) (fun q => q ≤ (F.getD i []).length) (fun q => (F.getD i []).length - q) (0) ?_ ?_
      · refine ⟨Nat.zero_le _, ?_⟩
        refine subF.ok ?_ <;> (conv => whnf) <;> repeat' (first
 | exact trivial
 | (with_reducible rfl)
 | ((with_reducible refine And.intro ?_ ?_) <;> conv => whnf)
 | omega
 | rfl
 | (refine congrArg (SV.arr _) ?_)
 | (refine congrArg (Value.int _) ?_)
 | (refine congrArg Value.bool ?_))
        all_goals exact mi_eq' (by rw [List.take_zero, ofM_new]) (by simp)
      · intro q hq
        by_cases hql : q < (F.getD i []).length
        · obtain ⟨k1, k2, k3, k4⟩ := H1 i q hil hql
          have hni : ¬ (F.getD i []).getD q 0 ∈ (F.take i ++ [(F.getD i []).take q]).flatten := by simpa using k3
          have hput := ofM_put hni
          have htl : (F.take i).length = i := by rw [List.length_take]; omega
          rw [htl, ← take_get hql] at hput
          have hno : (ofM (F.take i ++ [(F.getD i []).take q]) ((F.getD i []).getD q 0)).isSome = false := by rw [ofM_out hni]; rfl
          have hm : Ob.mp .i64 (.int .i64) (mput (ofM (F.take i ++ [(F.getD i []).take q])) ((F.getD i []).getD q 0) (i : Int)) (if (ofM (F.take i ++ [(F.getD i []).take q]) ((F.getD i []).getD q 0)).isSome = true then (F.take i ++ [(F.getD i []).take q]).flatten.length else (F.take i ++ [(F.getD i []).take q]).flatten.length + 1) = Ob.mp .i64 (.int .i64) (ofM (F.take i ++ [(F.getD i []).take (q + 1)])) (F.take i ++ [(F.getD i []).take (q + 1)]).flatten.length :=
            mi_eq' hput (by rw [hno, take_get hql]; simp; omega)
          repeat' (first
 | refine W.seq ?_
 | refine W.block ?_
 | (refine W.region tys_ok [] ?_; conv => whnf)
 | (refine W.drawAll tys_ok [] mixed rfl ?_; conv => whnf)
 | (refine W.ret ?_; conv => whnf)
 | (refine W.skip ?_; conv => whnf)
 | (refine W.exit ?_; conv => whnf)

    | (refine W.cond rfl (fun hb => ?_) (fun hb => ?_) <;> (try simp only [Int.reduceToNat, Int.reduceTDiv, Int.reduceTMod, minL, maxL, pickB, zHB] at hb) <;> (try (first | (cases hb; done) | exact absurd hb (by decide) | (exfalso; omega))))
    | ((with_reducible refine And.intro ?_ ?_); (focus ((repeat' (first | (with_reducible rfl) | (with_reducible refine And.intro ?_ ?_) | omega | rfl | exact Or.inl rfl | exact Or.inr rfl | exact of_decide_eq_true rfl | exact Path.imp_of (of_decide_eq_true rfl) | (focus ((try simp only [Int.reduceToNat, Int.reduceTDiv, Int.reduceTMod, minL, maxL, pickB, zHB, InK, Path.imp, List.length_replicate, List.length_set, List.length_append, List.length_cons, List.length_nil] at *); omega)) | (refine app_le rfl ?_; omega))); done)); (conv => whnf))
    | ((with_reducible refine And.intro (Side.out ?_) ?_); rotate_left; (conv => whnf))
    | (refine retF1 ?_ <;> (conv => whnf) <;> repeat' (first
 | exact trivial
 | (with_reducible rfl)
 | ((with_reducible refine And.intro ?_ ?_) <;> conv => whnf)
 | omega
 | rfl
 | (refine congrArg (SV.arr _) ?_)
 | (refine congrArg (Value.int _) ?_)
 | (refine congrArg Value.bool ?_)))
 | (refine retF2 ?_ <;> (conv => whnf) <;> repeat' (first
 | exact trivial
 | (with_reducible rfl)
 | ((with_reducible refine And.intro ?_ ?_) <;> conv => whnf)
 | omega
 | rfl
 | (refine congrArg (SV.arr _) ?_)
 | (refine congrArg (Value.int _) ?_)
 | (refine congrArg Value.bool ?_)))); all_goals (try unfold Side)
          all_goals try (repeat' (first | (with_reducible rfl) | (with_reducible refine And.intro ?_ ?_) | omega | rfl | exact Or.inl rfl | exact Or.inr rfl | exact of_decide_eq_true rfl | exact Path.imp_of (of_decide_eq_true rfl) | (focus ((try simp only [Int.reduceToNat, Int.reduceTDiv, Int.reduceTMod, minL, maxL, pickB, zHB, InK, Path.imp, List.length_replicate, List.length_set, List.length_append, List.length_cons, List.length_nil] at *); omega)) | (refine app_le rfl ?_; omega)))
          refine ⟨q + 1, ⟨by omega, by omega⟩, ?_⟩
          refine subF.ok ?_ <;> (conv => whnf) <;> repeat' (first
 | exact trivial
 | (with_reducible rfl)
 | ((with_reducible refine And.intro ?_ ?_) <;> conv => whnf)
 | omega
 | rfl
 | (refine congrArg (SV.arr _) ?_)
 | (refine congrArg (Value.int _) ?_)
 | (refine congrArg Value.bool ?_))
          all_goals exact hm
        · have hqe : (F.getD i []).length = q := by omega
          subst hqe
          repeat' (first
 | refine W.seq ?_
 | refine W.block ?_
 | (refine W.region tys_ok [] ?_; conv => whnf)
 | (refine W.drawAll tys_ok [] mixed rfl ?_; conv => whnf)
 | (refine W.ret ?_; conv => whnf)
 | (refine W.skip ?_; conv => whnf)
 | (refine W.exit ?_; conv => whnf)

    | (refine W.cond rfl (fun hb => ?_) (fun hb => ?_) <;> (try simp only [Int.reduceToNat, Int.reduceTDiv, Int.reduceTMod, minL, maxL, pickB, zHB] at hb) <;> (try (first | (cases hb; done) | exact absurd hb (by decide) | (exfalso; omega))))
    | ((with_reducible refine And.intro ?_ ?_); (focus ((repeat' (first | (with_reducible rfl) | (with_reducible refine And.intro ?_ ?_) | omega | rfl | exact Or.inl rfl | exact Or.inr rfl | exact of_decide_eq_true rfl | exact Path.imp_of (of_decide_eq_true rfl) | (focus ((try simp only [Int.reduceToNat, Int.reduceTDiv, Int.reduceTMod, minL, maxL, pickB, zHB, InK, Path.imp, List.length_replicate, List.length_set, List.length_append, List.length_cons, List.length_nil] at *); omega)) | (refine app_le rfl ?_; omega))); done)); (conv => whnf))
    | ((with_reducible refine And.intro (Side.out ?_) ?_); rotate_left; (conv => whnf))
    | (refine retF1 ?_ <;> (conv => whnf) <;> repeat' (first
 | exact trivial
 | (with_reducible rfl)
 | ((with_reducible refine And.intro ?_ ?_) <;> conv => whnf)
 | omega
 | rfl
 | (refine congrArg (SV.arr _) ?_)
 | (refine congrArg (Value.int _) ?_)
 | (refine congrArg Value.bool ?_)))
 | (refine retF2 ?_ <;> (conv => whnf) <;> repeat' (first
 | exact trivial
 | (with_reducible rfl)
 | ((with_reducible refine And.intro ?_ ?_) <;> conv => whnf)
 | omega
 | rfl
 | (refine congrArg (SV.arr _) ?_)
 | (refine congrArg (Value.int _) ?_)
 | (refine congrArg Value.bool ?_)))); all_goals (try unfold Side)
          all_goals try (repeat' (first | (with_reducible rfl) | (with_reducible refine And.intro ?_ ?_) | omega | rfl | exact Or.inl rfl | exact Or.inr rfl | exact of_decide_eq_true rfl | exact Path.imp_of (of_decide_eq_true rfl) | (focus ((try simp only [Int.reduceToNat, Int.reduceTDiv, Int.reduceTMod, minL, maxL, pickB, zHB, InK, Path.imp, List.length_replicate, List.length_set, List.length_append, List.length_cons, List.length_nil] at *); omega)) | (refine app_le rfl ?_; omega)))
          refine ⟨i + 1, ⟨by omega, by omega⟩, ?_⟩
          refine subF.ok ?_ <;> (conv => whnf) <;> repeat' (first
 | exact trivial
 | (with_reducible rfl)
 | ((with_reducible refine And.intro ?_ ?_) <;> conv => whnf)
 | omega
 | rfl
 | (refine congrArg (SV.arr _) ?_)
 | (refine congrArg (Value.int _) ?_)
 | (refine congrArg Value.bool ?_))
          all_goals exact mi_eq' (by rw [List.take_length, H7 i hil]) (by rw [List.take_length, H7 i hil])
    · have hie : F.length = i := by omega
      subst hie
      have htk : ofM (F.take F.length) = ofM F := by rw [List.take_length]
      have htl : (F.take F.length).flatten.length = F.flatten.length := by rw [List.take_length]
      rw [htk, htl]
      have hq1 : 0 ≤ (ofM F 0).getD 0 ∧ Int.toNat ((ofM F 0).getD 0) < @List.length (Ty.int .i64).T (List.replicate F.length (-1 : Int)) := by
        rw [hz0]
        show _ ∧ _ < (List.replicate F.length (-1 : Int)).length
        rw [List.length_replicate]; omega
      have hq2 : (List.replicate F.length (-1 : Int)).set (Int.toNat ((ofM F 0).getD 0)) 0 = (List.replicate F.length (-1)).set (ofI 0 F) 0 := by rw [hz0]; rfl
      have hq3 : [(ofM F 0).getD 0] = List.drop 0 [(ofI 0 F : Int)] := by rw [hz0]; rfl
      repeat' (first
 | refine W.seq ?_
 | refine W.block ?_
 | (refine W.region tys_ok [] ?_; conv => whnf)
 | (refine W.drawAll tys_ok [] mixed rfl ?_; conv => whnf)
 | (refine W.ret ?_; conv => whnf)
 | (refine W.skip ?_; conv => whnf)
 | (refine W.exit ?_; conv => whnf)
 | (refine call_at (al := false) (hrep) rfl rfl rfl rfl ?_; conv => whnf)

    | (refine W.cond rfl (fun hb => ?_) (fun hb => ?_) <;> (try simp only [Int.reduceToNat, Int.reduceTDiv, Int.reduceTMod, minL, maxL, pickB, zHB] at hb) <;> (try (first | (cases hb; done) | exact absurd hb (by decide) | (exfalso; omega))))
    | ((with_reducible refine And.intro ?_ ?_); (focus ((repeat' (first | (with_reducible rfl) | (with_reducible refine And.intro ?_ ?_) | omega | rfl | exact Or.inl rfl | exact Or.inr rfl | exact of_decide_eq_true rfl | exact Path.imp_of (of_decide_eq_true rfl) | (focus ((try simp only [Int.reduceToNat, Int.reduceTDiv, Int.reduceTMod, minL, maxL, pickB, zHB, InK, Path.imp, List.length_replicate, List.length_set, List.length_append, List.length_cons, List.length_nil] at *); omega)) | (refine app_le rfl ?_; omega))); done)); (conv => whnf))
    | ((with_reducible refine And.intro (Side.out ?_) ?_); rotate_left; (conv => whnf))
    | (refine retF1 ?_ <;> (conv => whnf) <;> repeat' (first
 | exact trivial
 | (with_reducible rfl)
 | ((with_reducible refine And.intro ?_ ?_) <;> conv => whnf)
 | omega
 | rfl
 | (refine congrArg (SV.arr _) ?_)
 | (refine congrArg (Value.int _) ?_)
 | (refine congrArg Value.bool ?_)))
 | (refine retF2 ?_ <;> (conv => whnf) <;> repeat' (first
 | exact trivial
 | (with_reducible rfl)
 | ((with_reducible refine And.intro ?_ ?_) <;> conv => whnf)
 | omega
 | rfl
 | (refine congrArg (SV.arr _) ?_)
 | (refine congrArg (Value.int _) ?_)
 | (refine congrArg Value.bool ?_)))); all_goals (try unfold Side)
      all_goals try exact Path.imp_of hq1
      all_goals try exact hq1.2
      all_goals try (repeat' (first | (with_reducible rfl) | (with_reducible refine And.intro ?_ ?_) | omega | rfl | exact Or.inl rfl | exact Or.inr rfl | exact of_decide_eq_true rfl | exact Path.imp_of (of_decide_eq_true rfl) | (focus ((try simp only [Int.reduceToNat, Int.reduceTDiv, Int.reduceTMod, minL, maxL, pickB, zHB, InK, Path.imp, List.length_replicate, List.length_set, List.length_append, List.length_cons, List.length_nil] at *); omega)) | (refine app_le rfl ?_; omega)))
      refine W.loop (fun z : List Int × List Int × Nat => ⟨[(9, .st true (.arr (.sl (.int .i64)) (F : List (List Int)))), (10, .own 900010), (15, .own 900015), (16, .own 900016)], [(900010, .mp .i64 (.int .i64) (ofM F) F.flatten.length), (900015, .row 3 (.int .i64) true (z.1 : List Int)), (900016, .que 3 .i64 (z.2.1.drop z.2.2))]⟩) (fun z => Bf F d z.1 z.2.1 z.2.2 0) (fun z => F.length - z.2.2) (((List.replicate F.length (-1)).set (ofI 0 F) 0, [(ofI 0 F : Int)], 0)) ?_ ?_
      · refine ⟨hini, ?_⟩
        refine subF.ok ?_ <;> (conv => whnf) <;> repeat' (first
 | exact trivial
 | (with_reducible rfl)
 | ((with_reducible refine And.intro ?_ ?_) <;> conv => whnf)
 | omega
 | rfl
 | (refine congrArg (SV.arr _) ?_)
 | (refine congrArg (Value.int _) ?_)
 | (refine congrArg Value.bool ?_))
        all_goals first | exact hq2 | exact hq3 | exact fun e => by cases e
      · rintro ⟨s1, H, k⟩ hbf
        dsimp only at hbf ⊢
        have hkl := hbf.kl
        have hHl := hbf.lenH
        have hdl : @List.length Int (H.drop k) = H.length - k := List.length_drop
        have hs1l : @List.length (Ty.int .i64).T s1 = F.length := hbf.len
        by_cases hk : k < H.length
        · obtain ⟨x, hx, hxl, hxv⟩ := hbf.at hk
          have hgx : (H.drop k).getD 0 0 = (x : Int) := by rw [← hx]; simp [List.getD]
          have hgx2 : 0 ≤ (H.drop k).getD 0 0 ∧ ((H.drop k).getD 0 0).toNat < @List.length (Ty.sl (.int .i64)).T F := by rw [hgx]; omega
          have hfx : F.getD ((H.drop k).getD 0 0).toNat [] = F.getD x [] := by rw [hgx]; rfl
          have hfxl : ((F.getD ((H.drop k).getD 0 0).toNat []).length : Int) = (F.getD x []).length := by rw [hfx]
          repeat' (first
 | refine W.seq ?_
 | refine W.block ?_
 | (refine W.region tys_ok [0, 75] ?_; conv => whnf)
 | (refine W.drawAll tys_ok [0, 75] mixed rfl ?_; conv => whnf)
 | (refine W.ret ?_; conv => whnf)
 | (refine W.skip ?_; conv => whnf)
 | (refine W.exit ?_; conv => whnf)

    | (refine W.cond rfl (fun hb => ?_) (fun hb => ?_) <;> (try simp only [Int.reduceToNat, Int.reduceTDiv, Int.reduceTMod, minL, maxL, pickB, zHB] at hb) <;> (try (first | (cases hb; done) | exact absurd hb (by decide) | (exfalso; omega))))
    | ((with_reducible refine And.intro ?_ ?_); (focus ((repeat' (first | (with_reducible rfl) | (with_reducible refine And.intro ?_ ?_) | omega | rfl | exact Or.inl rfl | exact Or.inr rfl | exact of_decide_eq_true rfl | exact Path.imp_of (of_decide_eq_true rfl) | (focus ((try simp only [Int.reduceToNat, Int.reduceTDiv, Int.reduceTMod, minL, maxL, pickB, zHB, InK, Path.imp, List.length_replicate, List.length_set, List.length_append, List.length_cons, List.length_nil] at *); omega)) | (refine app_le rfl ?_; omega))); done)); (conv => whnf))
    | ((with_reducible refine And.intro (Side.out ?_) ?_); rotate_left; (conv => whnf))
    | (refine retF1 ?_ <;> (conv => whnf) <;> repeat' (first
 | exact trivial
 | (with_reducible rfl)
 | ((with_reducible refine And.intro ?_ ?_) <;> conv => whnf)
 | omega
 | rfl
 | (refine congrArg (SV.arr _) ?_)
 | (refine congrArg (Value.int _) ?_)
 | (refine congrArg Value.bool ?_)))
 | (refine retF2 ?_ <;> (conv => whnf) <;> repeat' (first
 | exact trivial
 | (with_reducible rfl)
 | ((with_reducible refine And.intro ?_ ?_) <;> conv => whnf)
 | omega
 | rfl
 | (refine congrArg (SV.arr _) ?_)
 | (refine congrArg (Value.int _) ?_)
 | (refine congrArg Value.bool ?_)))); all_goals (try unfold Side)
          all_goals try exact Path.imp_of hgx2
          all_goals try (repeat' (first | (with_reducible rfl) | (with_reducible refine And.intro ?_ ?_) | omega | rfl | exact Or.inl rfl | exact Or.inr rfl | exact of_decide_eq_true rfl | exact Path.imp_of (of_decide_eq_true rfl) | (focus ((try simp only [Int.reduceToNat, Int.reduceTDiv, Int.reduceTMod, minL, maxL, pickB, zHB, InK, Path.imp, List.length_replicate, List.length_set, List.length_append, List.length_cons, List.length_nil] at *); omega)) | (refine app_le rfl ?_; omega)))
          refine W.loop (fun v : List Int × List Int × Nat => ⟨[(9, .st true (.arr (.sl (.int .i64)) (F : List (List Int)))), (10, .own 900010), (15, .own 900015), (16, .own 900016), (81, .st true (.arr (.int .i64) ((F.getD x []) : List Int))), (82, .lit (.int .i64 ((F.getD x []).length))), (83, .lit (.int .i64 (v.2.2)))], [(900010, .mp .i64 (.int .i64) (ofM F) F.flatten.length), (900015, .row 3 (.int .i64) true (v.1 : List Int)), (900016, .que 3 .i64 (v.2.1.drop k))]⟩) (fun v => v.2.2 ≤ (F.getD x []).length ∧ Bf F d v.1 v.2.1 k v.2.2 ∧ k < v.2.1.length ∧ v.2.1.getD k 0 = (x : Int)) (fun v => (F.getD x []).length - v.2.2) ((s1, H, 0)) ?_ ?_
          · refine ⟨⟨Nat.zero_le _, hbf, hk, hx⟩, ?_⟩
            refine subF.ok ?_ <;> (conv => whnf) <;> repeat' (first
 | exact trivial
 | (with_reducible rfl)
 | ((with_reducible refine And.intro ?_ ?_) <;> conv => whnf)
 | omega
 | rfl
 | (refine congrArg (SV.arr _) ?_)
 | (refine congrArg (Value.int _) ?_)
 | (refine congrArg Value.bool ?_))
            all_goals first | exact hfx | exact hfxl
          · rintro ⟨s2, H2, q⟩ ⟨hq, hb2, hk2, hx2⟩
            dsimp only at hq hb2 hk2 hx2 ⊢
            have h40 := hfl40 x hxl
            have hfe : @List.length (Ty.int .i64).T (F.getD x []) = (F.getD x []).length := rfl
            have hs2l : @List.length (Ty.int .i64).T s2 = F.length := hb2.len
            have hdl2 : @List.length Int (H2.drop k) = H2.length - k := List.length_drop
            have hH2l := hb2.lenH
            have hgx3 : (H2.drop k).getD 0 0 = (x : Int) := by rw [← hx2]; simp [List.getD]
            obtain ⟨x', hx', _, hxv2⟩ := hb2.at hk2
            have hxx : x' = x := by omega
            subst hxx
            by_cases hql : q < (F.getD x' []).length
            · have hm : (F.getD x' []).getD q 0 ∈ F.getD x' [] := mem_getD hql
              have hrg := hd.rg x' _ hxl hm
              have hof := hd.mem (-1 - (F.getD x' []).getD q 0) (by omega) (by omega)
              have hofl := (hd.at (x := -1 - (F.getD x' []).getD q 0) (by omega) (by omega)).1
              have hog := ofM_get hof
              obtain ⟨y, hy⟩ : ∃ y, y = ofI (-1 - (F.getD x' []).getD q 0) F := ⟨_, rfl⟩
              rw [← hy] at hog hofl
              have hyb : 0 ≤ (ofM F (-1 - (F.getD x' []).getD q 0)).getD 0 ∧ ((ofM F (-1 - (F.getD x' []).getD q 0)).getD 0).toNat < @List.length (Ty.int .i64).T s2 := by rw [hog]; omega
              have hyv : s2.getD ((ofM F (-1 - (F.getD x' []).getD q 0)).getD 0).toNat 0 = s2.getD y 0 := by rw [hog]; rfl
              by_cases hneg : s2.getD y 0 < 0
              · have hput := hb2.put hd hk2 hx2 hql hy hneg
                have happ : H2.drop k ++ [(ofM F (-1 - (F.getD x' []).getD q 0)).getD 0] = (H2 ++ [(y : Int)]).drop k := by rw [hog, List.drop_append_of_le_length (by omega)]
                have hset : s2.set ((ofM F (-1 - (F.getD x' []).getD q 0)).getD 0).toNat (1 - s2.getD ((H2.drop k).getD 0 0).toNat 0) = s2.set y (1 - s2.getD x' 0) := by rw [hog, hgx3]; rfl
                have hkh : k < (H2 ++ [(y : Int)]).length := by rw [List.length_append]; omega
                have hxh : (H2 ++ [(y : Int)]).getD k 0 = (x' : Int) := by rw [getD_app, if_pos hk2]; exact hx2
                have hxb : 0 ≤ (H2.drop k).getD 0 0 ∧ ((H2.drop k).getD 0 0).toNat < @List.length (Ty.int .i64).T s2 := by rw [hgx3]; omega
                have hik : InK .i64 (1 - s2.getD ((H2.drop k).getD 0 0).toNat 0) := by
                  rw [hgx3, Int.toNat_natCast, hxv2]
                  cases d x' <;> simp [InK]
                rw [← hyv] at hneg
                repeat' (first
 | refine W.seq ?_
 | refine W.block ?_
 | (refine W.region tys_ok [] ?_; conv => whnf)
 | (refine W.drawAll tys_ok [] mixed rfl ?_; conv => whnf)
 | (refine W.ret ?_; conv => whnf)
 | (refine W.skip ?_; conv => whnf)
 | (refine W.exit ?_; conv => whnf)

    | (refine W.cond rfl (fun hb => ?_) (fun hb => ?_) <;> (try simp only [Int.reduceToNat, Int.reduceTDiv, Int.reduceTMod, minL, maxL, pickB, zHB] at hb) <;> (try (first | (cases hb; done) | exact absurd hb (by decide) | (exfalso; omega) | (exact absurd hneg hb))))
    | ((with_reducible refine And.intro ?_ ?_); (focus ((repeat' (first | (with_reducible rfl) | (with_reducible refine And.intro ?_ ?_) | omega | rfl | exact Or.inl rfl | exact Or.inr rfl | exact of_decide_eq_true rfl | exact Path.imp_of (of_decide_eq_true rfl) | (focus ((try simp only [Int.reduceToNat, Int.reduceTDiv, Int.reduceTMod, minL, maxL, pickB, zHB, InK, Path.imp, List.length_replicate, List.length_set, List.length_append, List.length_cons, List.length_nil] at *); omega)) | (refine app_le rfl ?_; omega))); done)); (conv => whnf))
    | ((with_reducible refine And.intro (Side.out ?_) ?_); rotate_left; (conv => whnf))
    | (refine retF1 ?_ <;> (conv => whnf) <;> repeat' (first
 | exact trivial
 | (with_reducible rfl)
 | ((with_reducible refine And.intro ?_ ?_) <;> conv => whnf)
 | omega
 | rfl
 | (refine congrArg (SV.arr _) ?_)
 | (refine congrArg (Value.int _) ?_)
 | (refine congrArg Value.bool ?_)))
 | (refine retF2 ?_ <;> (conv => whnf) <;> repeat' (first
 | exact trivial
 | (with_reducible rfl)
 | ((with_reducible refine And.intro ?_ ?_) <;> conv => whnf)
 | omega
 | rfl
 | (refine congrArg (SV.arr _) ?_)
 | (refine congrArg (Value.int _) ?_)
 | (refine congrArg Value.bool ?_)))); all_goals (try unfold Side)
                all_goals try (first | exact Path.imp_of hyb | exact Path.imp_of hxb | exact Path.imp_of hik | exact hyb.2)
                all_goals try (repeat' (first | (with_reducible rfl) | (with_reducible refine And.intro ?_ ?_) | omega | rfl | exact Or.inl rfl | exact Or.inr rfl | exact of_decide_eq_true rfl | exact Path.imp_of (of_decide_eq_true rfl) | (focus ((try simp only [Int.reduceToNat, Int.reduceTDiv, Int.reduceTMod, minL, maxL, pickB, zHB, InK, Path.imp, List.length_replicate, List.length_set, List.length_append, List.length_cons, List.length_nil] at *); omega)) | (refine app_le rfl ?_; omega)))
                all_goals (refine ⟨(s2.set y (1 - s2.getD x' 0), H2 ++ [(y : Int)], q + 1), ⟨⟨hql, hput, hkh, hxh⟩, by dsimp only; omega⟩, ?_⟩)
                all_goals refine subF.ok ?_ <;> (conv => whnf) <;> repeat' (first
 | exact trivial
 | (with_reducible rfl)
 | ((with_reducible refine And.intro ?_ ?_) <;> conv => whnf)
 | omega
 | rfl
 | (refine congrArg (SV.arr _) ?_)
 | (refine congrArg (Value.int _) ?_)
 | (refine congrArg Value.bool ?_))
                all_goals first | exact happ | exact hset
              · have hskip := hb2.skip hx2 (by rw [← hy]; omega)
                rw [← hyv] at hneg
                repeat' (first
 | refine W.seq ?_
 | refine W.block ?_
 | (refine W.region tys_ok [] ?_; conv => whnf)
 | (refine W.drawAll tys_ok [] mixed rfl ?_; conv => whnf)
 | (refine W.ret ?_; conv => whnf)
 | (refine W.skip ?_; conv => whnf)
 | (refine W.exit ?_; conv => whnf)

    | (refine W.cond rfl (fun hb => ?_) (fun hb => ?_) <;> (try simp only [Int.reduceToNat, Int.reduceTDiv, Int.reduceTMod, minL, maxL, pickB, zHB] at hb) <;> (try (first | (cases hb; done) | exact absurd hb (by decide) | (exfalso; omega) | (exact absurd hb hneg))))
    | ((with_reducible refine And.intro ?_ ?_); (focus ((repeat' (first | (with_reducible rfl) | (with_reducible refine And.intro ?_ ?_) | omega | rfl | exact Or.inl rfl | exact Or.inr rfl | exact of_decide_eq_true rfl | exact Path.imp_of (of_decide_eq_true rfl) | (focus ((try simp only [Int.reduceToNat, Int.reduceTDiv, Int.reduceTMod, minL, maxL, pickB, zHB, InK, Path.imp, List.length_replicate, List.length_set, List.length_append, List.length_cons, List.length_nil] at *); omega)) | (refine app_le rfl ?_; omega))); done)); (conv => whnf))
    | ((with_reducible refine And.intro (Side.out ?_) ?_); rotate_left; (conv => whnf))
    | (refine retF1 ?_ <;> (conv => whnf) <;> repeat' (first
 | exact trivial
 | (with_reducible rfl)
 | ((with_reducible refine And.intro ?_ ?_) <;> conv => whnf)
 | omega
 | rfl
 | (refine congrArg (SV.arr _) ?_)
 | (refine congrArg (Value.int _) ?_)
 | (refine congrArg Value.bool ?_)))
 | (refine retF2 ?_ <;> (conv => whnf) <;> repeat' (first
 | exact trivial
 | (with_reducible rfl)
 | ((with_reducible refine And.intro ?_ ?_) <;> conv => whnf)
 | omega
 | rfl
 | (refine congrArg (SV.arr _) ?_)
 | (refine congrArg (Value.int _) ?_)
 | (refine congrArg Value.bool ?_)))); all_goals (try unfold Side)
                all_goals try (first | exact Path.imp_of hyb | exact hyb.2)
                all_goals try (repeat' (first | (with_reducible rfl) | (with_reducible refine And.intro ?_ ?_) | omega | rfl | exact Or.inl rfl | exact Or.inr rfl | exact of_decide_eq_true rfl | exact Path.imp_of (of_decide_eq_true rfl) | (focus ((try simp only [Int.reduceToNat, Int.reduceTDiv, Int.reduceTMod, minL, maxL, pickB, zHB, InK, Path.imp, List.length_replicate, List.length_set, List.length_append, List.length_cons, List.length_nil] at *); omega)) | (refine app_le rfl ?_; omega)))
                all_goals (refine ⟨(s2, H2, q + 1), ⟨⟨hql, hskip, hk2, hx2⟩, by dsimp only; omega⟩, ?_⟩)
                all_goals refine subF.ok ?_ <;> (conv => whnf) <;> repeat' (first
 | exact trivial
 | (with_reducible rfl)
 | ((with_reducible refine And.intro ?_ ?_) <;> conv => whnf)
 | omega
 | rfl
 | (refine congrArg (SV.arr _) ?_)
 | (refine congrArg (Value.int _) ?_)
 | (refine congrArg Value.bool ?_))
            · have hqe : (F.getD x' []).length = q := by omega
              subst hqe
              have hnx := hb2.next hk2 hx2
              have hdd : (H2.drop k).drop 1 = H2.drop (k + 1) := by rw [List.drop_drop]
              repeat' (first
 | refine W.seq ?_
 | refine W.block ?_
 | (refine W.region tys_ok [0, 75] ?_; conv => whnf)
 | (refine W.drawAll tys_ok [0, 75] mixed rfl ?_; conv => whnf)
 | (refine W.ret ?_; conv => whnf)
 | (refine W.skip ?_; conv => whnf)
 | (refine W.exit ?_; conv => whnf)

    | (refine W.cond rfl (fun hb => ?_) (fun hb => ?_) <;> (try simp only [Int.reduceToNat, Int.reduceTDiv, Int.reduceTMod, minL, maxL, pickB, zHB] at hb) <;> (try (first | (cases hb; done) | exact absurd hb (by decide) | (exfalso; omega))))
    | ((with_reducible refine And.intro ?_ ?_); (focus ((repeat' (first | (with_reducible rfl) | (with_reducible refine And.intro ?_ ?_) | omega | rfl | exact Or.inl rfl | exact Or.inr rfl | exact of_decide_eq_true rfl | exact Path.imp_of (of_decide_eq_true rfl) | (focus ((try simp only [Int.reduceToNat, Int.reduceTDiv, Int.reduceTMod, minL, maxL, pickB, zHB, InK, Path.imp, List.length_replicate, List.length_set, List.length_append, List.length_cons, List.length_nil] at *); omega)) | (refine app_le rfl ?_; omega))); done)); (conv => whnf))
    | ((with_reducible refine And.intro (Side.out ?_) ?_); rotate_left; (conv => whnf))
    | (refine retF1 ?_ <;> (conv => whnf) <;> repeat' (first
 | exact trivial
 | (with_reducible rfl)
 | ((with_reducible refine And.intro ?_ ?_) <;> conv => whnf)
 | omega
 | rfl
 | (refine congrArg (SV.arr _) ?_)
 | (refine congrArg (Value.int _) ?_)
 | (refine congrArg Value.bool ?_)))
 | (refine retF2 ?_ <;> (conv => whnf) <;> repeat' (first
 | exact trivial
 | (with_reducible rfl)
 | ((with_reducible refine And.intro ?_ ?_) <;> conv => whnf)
 | omega
 | rfl
 | (refine congrArg (SV.arr _) ?_)
 | (refine congrArg (Value.int _) ?_)
 | (refine congrArg Value.bool ?_)))); all_goals (try unfold Side)
              all_goals try (repeat' (first | (with_reducible rfl) | (with_reducible refine And.intro ?_ ?_) | omega | rfl | exact Or.inl rfl | exact Or.inr rfl | exact of_decide_eq_true rfl | exact Path.imp_of (of_decide_eq_true rfl) | (focus ((try simp only [Int.reduceToNat, Int.reduceTDiv, Int.reduceTMod, minL, maxL, pickB, zHB, InK, Path.imp, List.length_replicate, List.length_set, List.length_append, List.length_cons, List.length_nil] at *); omega)) | (refine app_le rfl ?_; omega)))
              refine ⟨(s2, H2, k + 1), ⟨hnx, by dsimp only; omega⟩, ?_⟩
              refine subF.ok ?_ <;> (conv => whnf) <;> repeat' (first
 | exact trivial
 | (with_reducible rfl)
 | ((with_reducible refine And.intro ?_ ?_) <;> conv => whnf)
 | omega
 | rfl
 | (refine congrArg (SV.arr _) ?_)
 | (refine congrArg (Value.int _) ?_)
 | (refine congrArg Value.bool ?_))
              all_goals exact hdd
        · have hke : k = H.length := by omega
          subst hke
          have hfin := hbf.done hd
          have hdn : @List.length Int (H.drop H.length) = 0 := by simp
          repeat' (first
 | refine W.seq ?_
 | refine W.block ?_
 | (refine W.region tys_ok [] ?_; conv => whnf)
 | (refine W.drawAll tys_ok [] mixed rfl ?_; conv => whnf)
 | (refine W.ret ?_; conv => whnf)
 | (refine W.skip ?_; conv => whnf)
 | (refine W.exit ?_; conv => whnf)

    | (refine W.cond rfl (fun hb => ?_) (fun hb => ?_) <;> (try simp only [Int.reduceToNat, Int.reduceTDiv, Int.reduceTMod, minL, maxL, pickB, zHB] at hb) <;> (try (first | (cases hb; done) | exact absurd hb (by decide) | (exfalso; omega))))
    | ((with_reducible refine And.intro ?_ ?_); (focus ((repeat' (first | (with_reducible rfl) | (with_reducible refine And.intro ?_ ?_) | omega | rfl | exact Or.inl rfl | exact Or.inr rfl | exact of_decide_eq_true rfl | exact Path.imp_of (of_decide_eq_true rfl) | (focus ((try simp only [Int.reduceToNat, Int.reduceTDiv, Int.reduceTMod, minL, maxL, pickB, zHB, InK, Path.imp, List.length_replicate, List.length_set, List.length_append, List.length_cons, List.length_nil] at *); omega)) | (refine app_le rfl ?_; omega))); done)); (conv => whnf))
    | ((with_reducible refine And.intro (Side.out ?_) ?_); rotate_left; (conv => whnf))
    | (refine retF1 ?_ <;> (conv => whnf) <;> repeat' (first
 | exact trivial
 | (with_reducible rfl)
 | ((with_reducible refine And.intro ?_ ?_) <;> conv => whnf)
 | omega
 | rfl
 | (refine congrArg (SV.arr _) ?_)
 | (refine congrArg (Value.int _) ?_)
 | (refine congrArg Value.bool ?_)))
 | (refine retF2 ?_ <;> (conv => whnf) <;> repeat' (first
 | exact trivial
 | (with_reducible rfl)
 | ((with_reducible refine And.intro ?_ ?_) <;> conv => whnf)
 | omega
 | rfl
 | (refine congrArg (SV.arr _) ?_)
 | (refine congrArg (Value.int _) ?_)
 | (refine congrArg Value.bool ?_)))); all_goals (try unfold Side)
          all_goals try (repeat' (first | (with_reducible rfl) | (with_reducible refine And.intro ?_ ?_) | omega | rfl | exact Or.inl rfl | exact Or.inr rfl | exact of_decide_eq_true rfl | exact Path.imp_of (of_decide_eq_true rfl) | (focus ((try simp only [Int.reduceToNat, Int.reduceTDiv, Int.reduceTMod, minL, maxL, pickB, zHB, InK, Path.imp, List.length_replicate, List.length_set, List.length_append, List.length_cons, List.length_nil] at *); omega)) | (refine app_le rfl ?_; omega)))
          refine W.loop (fun j : Nat => ⟨[(9, .st true (.arr (.sl (.int .i64)) (F : List (List Int)))), (20, .lit (.int .i64 ((whK d j : Nat)))), (111, .own 900015), (112, .lit (.int .i64 ((F.length : Nat)))), (113, .lit (.int .i64 (j)))], [(900015, .row 3 (.int .i64) true (s1 : List Int))]⟩) (fun j => j ≤ F.length) (fun j => F.length - j) (0) ?_ ?_
          · refine ⟨Nat.zero_le _, ?_⟩
            refine subF.ok ?_ <;> (conv => whnf) <;> repeat' (first
 | exact trivial
 | (with_reducible rfl)
 | ((with_reducible refine And.intro ?_ ?_) <;> conv => whnf)
 | omega
 | rfl
 | (refine congrArg (SV.arr _) ?_)
 | (refine congrArg (Value.int _) ?_)
 | (refine congrArg Value.bool ?_))
          · intro j hj
            have hwl := whK_le (d := d) (k := j)
            by_cases hjl : j < F.length
            · have hv := hfin j hjl
              have hws : ((whK d j : Nat) : Int) + s1.getD j 0 = (whK d (j + 1) : Nat) := by rw [hv, whK]; omega
              have hik : InK .i64 (((whK d j : Nat) : Int) + s1.getD j 0) := by
                rw [hws]
                have := whK_le (d := d) (k := j + 1)
                simp only [InK]; omega
              repeat' (first
 | refine W.seq ?_
 | refine W.block ?_
 | (refine W.region tys_ok [] ?_; conv => whnf)
 | (refine W.drawAll tys_ok [] mixed rfl ?_; conv => whnf)
 | (refine W.ret ?_; conv => whnf)
 | (refine W.skip ?_; conv => whnf)
 | (refine W.exit ?_; conv => whnf)

    | (refine W.cond rfl (fun hb => ?_) (fun hb => ?_) <;> (try simp only [Int.reduceToNat, Int.reduceTDiv, Int.reduceTMod, minL, maxL, pickB, zHB] at hb) <;> (try (first | (cases hb; done) | exact absurd hb (by decide) | (exfalso; omega))))
    | ((with_reducible refine And.intro ?_ ?_); (focus ((repeat' (first | (with_reducible rfl) | (with_reducible refine And.intro ?_ ?_) | omega | rfl | exact Or.inl rfl | exact Or.inr rfl | exact of_decide_eq_true rfl | exact Path.imp_of (of_decide_eq_true rfl) | (focus ((try simp only [Int.reduceToNat, Int.reduceTDiv, Int.reduceTMod, minL, maxL, pickB, zHB, InK, Path.imp, List.length_replicate, List.length_set, List.length_append, List.length_cons, List.length_nil] at *); omega)) | (refine app_le rfl ?_; omega))); done)); (conv => whnf))
    | ((with_reducible refine And.intro (Side.out ?_) ?_); rotate_left; (conv => whnf))
    | (refine retF1 ?_ <;> (conv => whnf) <;> repeat' (first
 | exact trivial
 | (with_reducible rfl)
 | ((with_reducible refine And.intro ?_ ?_) <;> conv => whnf)
 | omega
 | rfl
 | (refine congrArg (SV.arr _) ?_)
 | (refine congrArg (Value.int _) ?_)
 | (refine congrArg Value.bool ?_)))
 | (refine retF2 ?_ <;> (conv => whnf) <;> repeat' (first
 | exact trivial
 | (with_reducible rfl)
 | ((with_reducible refine And.intro ?_ ?_) <;> conv => whnf)
 | omega
 | rfl
 | (refine congrArg (SV.arr _) ?_)
 | (refine congrArg (Value.int _) ?_)
 | (refine congrArg Value.bool ?_)))); all_goals (try unfold Side)
              all_goals try exact Path.imp_of hik
              all_goals try (repeat' (first | (with_reducible rfl) | (with_reducible refine And.intro ?_ ?_) | omega | rfl | exact Or.inl rfl | exact Or.inr rfl | exact of_decide_eq_true rfl | exact Path.imp_of (of_decide_eq_true rfl) | (focus ((try simp only [Int.reduceToNat, Int.reduceTDiv, Int.reduceTMod, minL, maxL, pickB, zHB, InK, Path.imp, List.length_replicate, List.length_set, List.length_append, List.length_cons, List.length_nil] at *); omega)) | (refine app_le rfl ?_; omega)))
              refine ⟨j + 1, ⟨by omega, by omega⟩, ?_⟩
              refine subF.ok ?_ <;> (conv => whnf) <;> repeat' (first
 | exact trivial
 | (with_reducible rfl)
 | ((with_reducible refine And.intro ?_ ?_) <;> conv => whnf)
 | omega
 | rfl
 | (refine congrArg (SV.arr _) ?_)
 | (refine congrArg (Value.int _) ?_)
 | (refine congrArg Value.bool ?_))
              all_goals exact hws
            · have hje : F.length = j := by omega
              subst hje
              repeat' (first
 | refine W.seq ?_
 | refine W.block ?_
 | (refine W.region tys_ok [] ?_; conv => whnf)
 | (refine W.drawAll tys_ok [] mixed rfl ?_; conv => whnf)
 | (refine W.ret ?_; conv => whnf)
 | (refine W.skip ?_; conv => whnf)
 | (refine W.exit ?_; conv => whnf)

    | (refine W.cond rfl (fun hb => ?_) (fun hb => ?_) <;> (try simp only [Int.reduceToNat, Int.reduceTDiv, Int.reduceTMod, minL, maxL, pickB, zHB] at hb) <;> (try (first | (cases hb; done) | exact absurd hb (by decide) | (exfalso; omega))))
    | ((with_reducible refine And.intro ?_ ?_); (focus ((repeat' (first | (with_reducible rfl) | (with_reducible refine And.intro ?_ ?_) | omega | rfl | exact Or.inl rfl | exact Or.inr rfl | exact of_decide_eq_true rfl | exact Path.imp_of (of_decide_eq_true rfl) | (focus ((try simp only [Int.reduceToNat, Int.reduceTDiv, Int.reduceTMod, minL, maxL, pickB, zHB, InK, Path.imp, List.length_replicate, List.length_set, List.length_append, List.length_cons, List.length_nil] at *); omega)) | (refine app_le rfl ?_; omega))); done)); (conv => whnf))
    | ((with_reducible refine And.intro (Side.out ?_) ?_); rotate_left; (conv => whnf))
    | (refine retF1 ?_ <;> (conv => whnf) <;> repeat' (first
 | exact trivial
 | (with_reducible rfl)
 | ((with_reducible refine And.intro ?_ ?_) <;> conv => whnf)
 | omega
 | rfl
 | (refine congrArg (SV.arr _) ?_)
 | (refine congrArg (Value.int _) ?_)
 | (refine congrArg Value.bool ?_)))
 | (refine retF2 ?_ <;> (conv => whnf) <;> repeat' (first
 | exact trivial
 | (with_reducible rfl)
 | ((with_reducible refine And.intro ?_ ?_) <;> conv => whnf)
 | omega
 | rfl
 | (refine congrArg (SV.arr _) ?_)
 | (refine congrArg (Value.int _) ?_)
 | (refine congrArg Value.bool ?_)))); all_goals (try unfold Side)
              all_goals try (repeat' (first | (with_reducible rfl) | (with_reducible refine And.intro ?_ ?_) | omega | rfl | exact Or.inl rfl | exact Or.inr rfl | exact of_decide_eq_true rfl | exact Path.imp_of (of_decide_eq_true rfl) | (focus ((try simp only [Int.reduceToNat, Int.reduceTDiv, Int.reduceTMod, minL, maxL, pickB, zHB, InK, Path.imp, List.length_replicate, List.length_set, List.length_append, List.length_cons, List.length_nil] at *); omega)) | (refine app_le rfl ?_; omega)))
end Go.Proofs.Ytdfajcfkdfjoeaa
/- The black faces, found from one of them by steps over two edges; how long they are. No condition. -/
namespace Go.Scr
set_option linter.unusedVariables false
set_option linter.unusedSimpArgs false
set_option linter.unusedSectionVars false

def bes (A B : List Int) : Bool := A.any fun a => B.any fun b => decide (a = -1 - b)
theorem bes_iff {A B : List Int} : bes A B = true ↔ ∃ a ∈ A, -1 - a ∈ B := by
  simp only [bes, List.any_eq_true, decide_eq_true_eq]
  constructor
  · rintro ⟨a, ha, b, hb, e⟩; exact ⟨a, ha, by rw [show -1 - a = b by omega]; exact hb⟩
  · rintro ⟨a, ha, hb⟩; exact ⟨a, ha, -1 - a, hb, by omega⟩
def twi (F : List (List Int)) (i k : Nat) : Bool := (List.range F.length).any fun m => decide (m ≠ i) && decide (m ≠ k) && bes (F.getD m []) (F.getD i []) && bes (F.getD m []) (F.getD k [])
theorem twi_iff {F : List (List Int)} {i k : Nat} : twi F i k = true ↔ ∃ m, m < F.length ∧ m ≠ i ∧ m ≠ k ∧ bes (F.getD m []) (F.getD i []) = true ∧ bes (F.getD m []) (F.getD k []) = true := by
  simp only [twi, List.any_eq_true, List.mem_range, Bool.and_eq_true, decide_eq_true_eq]
  constructor
  · rintro ⟨m, h1, ⟨⟨h2, h3⟩, h4⟩, h5⟩; exact ⟨m, h1, h2, h3, h4, h5⟩
  · rintro ⟨m, h1, h2, h3, h4, h5⟩; exact ⟨m, h1, ⟨⟨h2, h3⟩, h4⟩, h5⟩
def adjT (F : List (List Int)) (i k : Nat) : Bool := !bes (F.getD i []) (F.getD k []) && twi F i k
section
variable {F : List (List Int)} {M : Nat} {d : Nat → Bool} (hc : Col F M d)
include hc
theorem bes_col {i k : Nat} (hi : i < F.length) (hk : k < F.length) (h : bes (F.getD i []) (F.getD k []) = true) : d k = !d i := by
  obtain ⟨a, ha, hb⟩ := bes_iff.1 h
  have hr := hc.rg i a hi ha
  have := hc.op a hr.1 hr.2
  rw [hc.of hi ha, hc.of hk hb] at this; exact this
theorem adj_col {i k : Nat} (hi : i < F.length) (hk : k < F.length) (h : adjT F i k = true) : d i = d k := by
  simp only [adjT, Bool.and_eq_true] at h
  obtain ⟨m, h1, h2, h3, h4, h5⟩ := twi_iff.1 h.2
  have e1 := bes_col hc h1 hi h4
  have e2 := bes_col hc h1 hk h5
  rw [e1, e2]
theorem adj_of {i k m : Nat} (hi : i < F.length) (hk : k < F.length) (hm : m < F.length) (h1 : bes (F.getD m []) (F.getD i []) = true) (h2 : bes (F.getD m []) (F.getD k []) = true) : adjT F i k = true := by
  have e1 := bes_col hc hm hi h1
  have e2 := bes_col hc hm hk h2
  simp only [adjT, Bool.and_eq_true, Bool.not_eq_true']
  refine ⟨?_, twi_iff.2 ⟨m, hm, ?_, ?_, h1, h2⟩⟩
  · cases hb : bes (F.getD i []) (F.getD k []) with
    | false => rfl
    | true =>
      have := bes_col hc hi hk hb
      rw [e1, e2] at this
      revert this
      cases d m <;> simp
  · rintro rfl; cases h : d m <;> simp [h] at e1
  · rintro rfl; cases h : d m <;> simp [h] at e2
end
/-- The faces that are not white. -/
def blL (d : Nat → Bool) (k : Nat) : List Nat := (List.range k).filter fun i => !d i
theorem blL_len {d : Nat → Bool} : ∀ {k : Nat}, (blL d k).length = k - whK d k
  | 0 => rfl
  | k + 1 => by
    have := blL_len (d := d) (k := k)
    have := whK_le (d := d) (k := k)
    unfold blL at *
    rw [List.range_succ, List.filter_append, List.length_append, whK]
    cases h : d k <;> simp [h] <;> omega
theorem blL_mem {d : Nat → Bool} {k i : Nat} : i ∈ blL d k ↔ i < k ∧ d i = false := by simp [blL]
structure Tw (F : List (List Int)) (d : Nat → Bool) (B : List Int) : Prop where
  nd : B.Nodup
  mem : ∀ x ∈ B, 0 ≤ x ∧ x < F.length ∧ d x.toNat = false
  z : (ofI 0 F : Int) ∈ B
theorem Tw.map {F : List (List Int)} {d : Nat → Bool} {B : List Int} (h : Tw F d B) : (B.map Int.toNat).Nodup ∧ ∀ i ∈ B.map Int.toNat, i ∈ blL d F.length := by
  refine ⟨?_, fun i hi => ?_⟩
  · rw [List.nodup_iff_pairwise_ne, List.pairwise_map]
    refine List.Pairwise.imp_of_mem (fun {a b} ha hb hab => ?_) (List.nodup_iff_pairwise_ne.1 h.nd)
    have := h.mem a ha; have := h.mem b hb; omega
  · obtain ⟨a, ha, rfl⟩ := List.mem_map.1 hi
    have := h.mem a ha
    exact blL_mem.2 ⟨by omega, this.2.2⟩
theorem Tw.le {F : List (List Int)} {d : Nat → Bool} {B : List Int} (h : Tw F d B) : B.length ≤ F.length - whK d F.length := by
  have := nodup_sub h.map.1 h.map.2
  rw [List.length_map, blL_len] at this; exact this
theorem Tw.full {F : List (List Int)} {d : Nat → Bool} {B : List Int} (h : Tw F d B) (hl : F.length - whK d F.length ≤ B.length) {i : Nat} (hi : i < F.length) (hd : d i = false) : (i : Int) ∈ B := by
  refine Classical.byContradiction fun hn => ?_
  have h1 : (i :: B.map Int.toNat).Nodup := List.nodup_cons.2 ⟨fun hm => by
    obtain ⟨a, ha, e⟩ := List.mem_map.1 hm
    have := h.mem a ha
    exact hn (by rw [← e, Int.toNat_of_nonneg this.1]; exact ha), h.map.1⟩
  have := nodup_sub h1 (l' := blL d F.length) fun x hx => by
    rcases List.mem_cons.1 hx with rfl | hx
    · exact blL_mem.2 ⟨hi, hd⟩
    · exact h.map.2 x hx
  rw [List.length_cons, List.length_map, blL_len] at this
  omega
structure Tr (F : List (List Int)) (d : Nat → Bool) (B0 B : List Int) (i k : Nat) : Prop where
  tw : Tw F d B
  sub : ∀ x ∈ B0, x ∈ B
  dn : ∀ i' k', i' < i → k' < F.length → (k' : Int) ∈ B0 → adjT F i' k' = true → (i' : Int) ∈ B
  pa : ∀ k', k' < k → k' < F.length → (k' : Int) ∈ B0 → adjT F i k' = true → (i : Int) ∈ B
theorem Tr.init {F : List (List Int)} {d : Nat → Bool} {B : List Int} (h : Tw F d B) : Tr F d B B 0 0 := ⟨h, fun _ h => h, fun _ _ h => by omega, fun _ h => by omega⟩
theorem Tr.skip {F : List (List Int)} {d : Nat → Bool} {B0 B : List Int} {i k : Nat} (h : Tr F d B0 B i k) (hs : (i : Int) ∈ B ∨ ¬ (k : Int) ∈ B ∨ adjT F i k = false) : Tr F d B0 B i (k + 1) :=
  ⟨h.tw, h.sub, h.dn, fun k' hk hl hb ha => by
    by_cases e : k' = k
    · subst e
      rcases hs with hs | hs | hs
      · exact hs
      · exact absurd (h.sub _ hb) hs
      · rw [hs] at ha; cases ha
    · exact h.pa k' (by omega) hl hb ha⟩
theorem Tr.put {F : List (List Int)} {M : Nat} {d : Nat → Bool} (hc : Col F M d) {B0 B : List Int} {i k : Nat} (h : Tr F d B0 B i k) (hi : i < F.length) (hk : k < F.length) (h1 : ¬ (i : Int) ∈ B) (h2 : (k : Int) ∈ B) (h3 : adjT F i k = true) : Tr F d B0 (B ++ [(i : Int)]) i (k + 1) := by
  have hdk := h.tw.mem _ h2
  have hdi := adj_col hc hi hk h3
  rw [Int.toNat_natCast] at hdk
  refine ⟨⟨?_, fun x hx => ?_, by simp [h.tw.z]⟩, fun x hx => List.mem_append.2 (.inl (h.sub x hx)), fun i' k' a b c e => List.mem_append.2 (.inl (h.dn i' k' a b c e)), fun _ _ _ _ _ => by simp⟩
  · rw [List.nodup_append]
    refine ⟨h.tw.nd, by simp, fun a ha b hb => ?_⟩
    simp at hb; subst hb
    rintro rfl; exact h1 ha
  · rcases List.mem_append.1 hx with hx | hx
    · exact h.tw.mem x hx
    · simp at hx; subst hx
      exact ⟨by omega, by omega, by rw [Int.toNat_natCast, hdi]; exact hdk.2.2⟩
theorem Tr.next {F : List (List Int)} {d : Nat → Bool} {B0 B : List Int} {i : Nat} (h : Tr F d B0 B i F.length) : Tr F d B0 B (i + 1) 0 :=
  ⟨h.tw, h.sub, fun i' k' hi hk hb ha => by
    by_cases e : i' = i
    · subst e; exact h.pa k' hk hk hb ha
    · exact h.dn i' k' (by omega) hk hb ha, fun _ h => by omega⟩
theorem Tr.round {F : List (List Int)} {M : Nat} {d : Nat → Bool} (hc : Col F M d) {B0 B : List Int} (h0 : Tw F d B0) (h : Tr F d B0 B F.length 0) {r : Nat} (hr : min (r + 1) (F.length - whK d F.length) ≤ B0.length) : min (r + 1 + 1) (F.length - whK d F.length) ≤ B.length := by
  have hle := h0.le
  have hm := nodup_sub h0.nd h.sub
  by_cases hall : F.length - whK d F.length ≤ B0.length
  · omega
  · -- some face that is not white is not in B0, and lies by two edges from one that is
    have key : ∃ i k, i < F.length ∧ k < F.length ∧ ¬ (i : Int) ∈ B0 ∧ (k : Int) ∈ B0 ∧ adjT F i k = true := Classical.byContradiction fun hno => by
      have hS : ∀ i, i < F.length → (decide ((i : Int) ∈ B0) || (List.range F.length).any fun k => decide ((k : Int) ∈ B0) && bes (F.getD i []) (F.getD k [])) = true := by
        refine hc.cn _ (by simp [h0.z]) fun x hx0 hx1 hx => ?_
        have h1 := hc.at hx0 hx1
        have h2 := hc.at (x := -1 - x) (by omega) (by omega)
        have hb1 : bes (F.getD (ofI (-1 - x) F) []) (F.getD (ofI x F) []) = true := bes_iff.2 ⟨-1 - x, h2.2, by rw [show -1 - (-1 - x) = x by omega]; exact h1.2⟩
        have hb2 : bes (F.getD (ofI x F) []) (F.getD (ofI (-1 - x) F) []) = true := bes_iff.2 ⟨x, h1.2, h2.2⟩
        simp only [Bool.or_eq_true, decide_eq_true_eq, List.any_eq_true, List.mem_range, Bool.and_eq_true] at hx ⊢
        rcases hx with hx | ⟨k, hk, hkB, hkb⟩
        · exact .inr ⟨_, h1.1, hx, hb1⟩
        · by_cases hin : ((ofI (-1 - x) F : Nat) : Int) ∈ B0
          · exact .inl hin
          · exact absurd ⟨ofI (-1 - x) F, k, h2.1, hk, hin, hkB, adj_of hc h2.1 hk h1.1 hb2 hkb⟩ hno
      apply hall
      have hsub : ∀ i ∈ blL d F.length, i ∈ B0.map Int.toNat := fun i hi => by
        obtain ⟨hil, hdi⟩ := blL_mem.1 hi
        have := hS i hil
        simp only [Bool.or_eq_true, decide_eq_true_eq, List.any_eq_true, List.mem_range, Bool.and_eq_true] at this
        rcases this with h1 | ⟨k, hk, hkB, hkb⟩
        · exact List.mem_map.2 ⟨_, h1, Int.toNat_natCast i⟩
        · have h1 := bes_col hc hil hk hkb
          have h2 := (h0.mem _ hkB).2.2
          rw [Int.toNat_natCast, h1, hdi] at h2; cases h2
      have := nodup_sub (l := blL d F.length) (List.nodup_range.filter _) hsub
      rw [blL_len, List.length_map] at this; exact this
    obtain ⟨i, k, hi, hk, hiB, hkB, ha⟩ := key
    have hin := h.dn i k hi hk hkB ha
    have h1 : ((i : Int) :: B0).Nodup := List.nodup_cons.2 ⟨hiB, h0.nd⟩
    have := nodup_sub h1 (l' := B) fun x hx => by
      rcases List.mem_cons.1 hx with rfl | hx
      · exact hin
      · exact h.sub x hx
    rw [List.length_cons] at this
    omega
/-- The black faces' steps. -/
def lenF (F : List (List Int)) (d : Nat → Bool) : Nat → Nat
  | 0 => 0
  | k + 1 => lenF F d k + if d k = false then (F.getD k []).length else 0
def stepsL (M : Nat) : List Int := (List.range (2 * M)).map fun k : Nat => (k : Int) - M
theorem stepsL_mem {M : Nat} {x : Int} : x ∈ stepsL M ↔ -(M : Int) ≤ x ∧ x < M := by
  simp only [stepsL, List.mem_map, List.mem_range]
  constructor
  · rintro ⟨k, hk, rfl⟩; omega
  · intro h; exact ⟨(x + M).toNat, by omega, by omega⟩
theorem stepsL_nd {M : Nat} : (stepsL M).Nodup := by
  unfold stepsL
  rw [List.nodup_iff_pairwise_ne, List.pairwise_map]
  refine List.Pairwise.imp (fun hab => ?_) (List.nodup_iff_pairwise_ne.1 (List.nodup_range (n := 2 * M)))
  omega
theorem filter_two {p : Int → Bool} : ∀ {l : List Int}, (l.filter p).length + (l.filter fun x => !p x).length = l.length
  | [] => rfl
  | x :: l => by
    have := filter_two (p := p) (l := l)
    cases h : p x <;> simp [h] <;> omega
theorem lenF_filter {F : List (List Int)} {M : Nat} {d : Nat → Bool} (hc : Col F M d) : ∀ {k : Nat}, k ≤ F.length → lenF F d k = ((F.take k).flatten.filter fun x => !d (ofI x F)).length
  | 0, _ => rfl
  | k + 1, h => by
    rw [lenF, lenF_filter hc (by omega), flat_take (by omega), List.filter_append, List.length_append]
    congr 1
    have hin : ∀ x ∈ F.getD k [], (!d (ofI x F)) = !d k := fun x hx => by rw [hc.of (by omega) hx]
    cases hd : d k with
    | false =>
      rw [if_pos rfl, List.filter_eq_self.2 fun x hx => by rw [hin x hx, hd]; rfl]
    | true =>
      rw [if_neg (by simp), List.filter_eq_nil_iff.2 fun x hx => by rw [hin x hx, hd]; simp]; rfl
theorem lenF_all {F : List (List Int)} {M : Nat} {d : Nat → Bool} (hc : Col F M d) (hnd : F.flatten.Nodup) : lenF F d F.length = M := by
  rw [lenF_filter hc (Nat.le_refl _), List.take_length]
  obtain ⟨p, hp⟩ : ∃ p : Int → Bool, p = fun x => !d (ofI x F) := ⟨_, rfl⟩
  rw [← hp]
  have hrg : ∀ x ∈ F.flatten, -(M : Int) ≤ x ∧ x < M := fun x hx => by
    have := ofI_lt hx
    exact hc.rg _ x this.1 this.2
  have e1 : (F.flatten.filter p).length = ((stepsL M).filter p).length := by
    refine Nat.le_antisymm (nodup_sub (hnd.filter _) fun x hx => ?_) (nodup_sub (stepsL_nd.filter _) fun x hx => ?_)
    · rw [List.mem_filter] at hx ⊢; exact ⟨stepsL_mem.2 (hrg x hx.1), hx.2⟩
    · rw [List.mem_filter] at hx ⊢
      have := stepsL_mem.1 hx.1
      exact ⟨hc.mem x this.1 this.2, hx.2⟩
  have hop : ∀ x, -(M : Int) ≤ x → x < M → p (-1 - x) = !p x := fun x h0 h1 => by rw [hp]; show (!d _) = !(!d _); rw [hc.op x h0 h1]
  have inj : ∀ l : List Int, l.Nodup → (l.map fun x : Int => -1 - x).Nodup := fun l hl => by
    rw [List.nodup_iff_pairwise_ne, List.pairwise_map]
    exact List.Pairwise.imp (fun {a b} (hab : a ≠ b) => by show -1 - a ≠ -1 - b; omega) (List.nodup_iff_pairwise_ne.1 hl)
  have half : ∀ q : Int → Bool, (∀ x, -(M : Int) ≤ x → x < M → q (-1 - x) = !q x) → ((stepsL M).filter q).length ≤ ((stepsL M).filter fun x => !q x).length := fun q hq => by
    have := nodup_sub (inj _ (stepsL_nd.filter q)) (l' := (stepsL M).filter fun x => !q x) fun y hy => by
      obtain ⟨x, hx, rfl⟩ := List.mem_map.1 hy
      rw [List.mem_filter] at hx ⊢
      have hr := (stepsL_mem (M := M)).1 hx.1
      refine ⟨(stepsL_mem (M := M)).2 ⟨by omega, by omega⟩, ?_⟩
      rw [hq x hr.1 hr.2, hx.2]; rfl
    rw [List.length_map] at this; exact this
  have h1 := half p hop
  have h2 := half (fun x => !p x) fun x h0 h1 => by show (!p _) = !(!p _); rw [hop x h0 h1]
  have h3 : ((stepsL M).filter fun x => !(!p x)) = (stepsL M).filter p := by simp
  rw [h3] at h2
  have h4 := filter_two (p := p) (l := stepsL M)
  have h5 : (stepsL M).length = 2 * M := by simp [stepsL]
  omega
end Go.Scr
/- Faces with a common edge; faces beside a third one. No condition. -/
namespace Go.Proofs.Ytdfajcfkdfjoeaa
open Go Go.Vc Go.Scr
set_option linter.unusedVariables false
set_option linter.unusedSimpArgs false

theorem bes_yes {A B : List Int} {i j : Nat} (hi : i < A.length) (hj : j < B.length) (e : A.getD i 0 = -1 - B.getD j 0) : bes A B = true :=
  bes_iff.2 ⟨_, mem_getD hi, by rw [e, show -1 - (-1 - B.getD j 0) = B.getD j 0 by omega]; exact mem_getD hj⟩
theorem bes_no {A B : List Int} (h : ∀ i, i < A.length → ∀ j, j < B.length → ¬ A.getD i 0 = -1 - B.getD j 0) : bes A B = false := by
  cases hb : bes A B with
  | false => rfl
  | true =>
    obtain ⟨a, ha, hb⟩ := bes_iff.1 hb
    obtain ⟨i, hi, ei⟩ := getD_mem ha
    obtain ⟨j, hj, ej⟩ := getD_mem hb
    exact absurd (by rw [ei, ej]; omega) (h i hi j hj)
def smallL (B : List Int) : Prop := B.length ≤ 1000 ∧ ∀ j, -1000 ≤ B.getD j 0 ∧ B.getD j 0 ≤ 1000
set_option maxHeartbeats 4000000 in
theorem beside_at {A B : List Int} (hA : smallL A) (hB : smallL B) : FnAt Try.prog false 34 [.arr (.int .i64) A, .arr (.int .i64) B] (.lit (.bool (bes A B))) [] := by
  have hAl : @List.length (Ty.int .i64).T A ≤ 1000 := hA.1
  have hBl : @List.length (Ty.int .i64).T B ≤ 1000 := hB.1
  have hAe : @List.length (Ty.int .i64).T A = A.length := rfl
  have hBe : @List.length (Ty.int .i64).T B = B.length := rfl
  have hBr := hB.2
  have yes := fun i j (hi : i < A.length) (hj : j < B.length) e => bes_yes hi hj e
  have no := fun h => bes_no (A := A) (B := B) h
  obtain ⟨R, hR⟩ : ∃ R, R = bes A B := ⟨_, rfl⟩
  rw [← hR] at yes no ⊢
  clear hR
  refine FnAt.of_body tys_ok Try.func34 (by rfl) rfl Try.ntmps34 (by rw [Try.results34]) (by simp) ?_
  
  repeat' (first
 | refine W.seq ?_
 | refine W.block ?_
 | (refine W.region tys_ok [] ?_; conv => whnf)
 | (refine W.drawAll tys_ok [] mixed rfl ?_; conv => whnf)
 | (refine W.ret ?_; conv => whnf)
 | (refine W.skip ?_; conv => whnf)
 | (refine W.exit ?_; conv => whnf)

    | (refine W.cond rfl (fun hb => ?_) (fun hb => ?_) <;> (try simp only [Int.reduceToNat, Int.reduceTDiv, Int.reduceTMod, minL, maxL, pickB, zHB] at hb) <;> (try (first | (cases hb; done) | exact absurd hb (by decide) | (exfalso; omega))))
    | ((with_reducible refine And.intro ?_ ?_); (focus ((repeat' (first | (with_reducible rfl) | (with_reducible refine And.intro ?_ ?_) | omega | rfl | exact Or.inl rfl | exact Or.inr rfl | exact of_decide_eq_true rfl | exact Path.imp_of (of_decide_eq_true rfl) | (focus ((try simp only [Int.reduceToNat, Int.reduceTDiv, Int.reduceTMod, minL, maxL, pickB, zHB, InK, Path.imp, List.length_replicate, List.length_set, List.length_append, List.length_cons, List.length_nil] at *); omega)) | (refine app_le rfl ?_; omega))); done)); (conv => whnf))
    | ((with_reducible refine And.intro (Side.out ?_) ?_); rotate_left; (conv => whnf))
    | (refine retF1 ?_ <;> (conv => whnf) <;> repeat' (first
 | exact trivial
 | (with_reducible rfl)
 | ((with_reducible refine And.intro ?_ ?_) <;> conv => whnf)
 | omega
 | rfl
 | (refine congrArg (SV.arr _) ?_)
 | (refine congrArg (Value.int _) ?_)
 | (refine congrArg Value.bool ?_)))
 | (refine retF2 ?_ <;> (conv => whnf) <;> repeat' (first
 | exact trivial
 | (with_reducible rfl)
 | ((with_reducible refine And.intro ?_ ?_) <;> conv => whnf)
 | omega
 | rfl
 | (refine congrArg (SV.arr _) ?_)
 | (refine congrArg (Value.int _) ?_)
 | (refine congrArg Value.bool ?_)))); all_goals (try unfold Side)
  all_goals try (repeat' (first | (with_reducible rfl) | (with_reducible refine And.intro ?_ ?_) | omega | rfl | exact Or.inl rfl | exact Or.inr rfl | exact of_decide_eq_true rfl | exact Path.imp_of (of_decide_eq_true rfl) | (focus ((try simp only [Int.reduceToNat, Int.reduceTDiv, Int.reduceTMod, minL, maxL, pickB, zHB, InK, Path.imp, List.length_replicate, List.length_set, List.length_append, List.length_cons, List.length_nil] at *); omega)) | (refine app_le rfl ?_; omega)))
  refine W.loop (fun i : Nat => ⟨[(0, .st false (.arr (.int .i64) (A : List Int))), (1, .st false (.arr (.int .i64) (B : List Int))), (5, .lit (.int .i64 (i)))], []⟩) (fun i => i ≤ A.length ∧ ∀ i', i' < i → ∀ j, j < B.length → ¬ A.getD i' 0 = -1 - B.getD j 0) (fun i => A.length - i) (0) ?_ ?_
  · refine ⟨⟨Nat.zero_le _, by omega⟩, ?_⟩
    refine subF.ok ?_ <;> (conv => whnf) <;> repeat' (first
 | exact trivial
 | (with_reducible rfl)
 | ((with_reducible refine And.intro ?_ ?_) <;> conv => whnf)
 | omega
 | rfl
 | (refine congrArg (SV.arr _) ?_)
 | (refine congrArg (Value.int _) ?_)
 | (refine congrArg Value.bool ?_))
  · rintro i ⟨hi, hno⟩
    by_cases hil : i < A.length
    · repeat' (first
 | refine W.seq ?_
 | refine W.block ?_
 | (refine W.region tys_ok [] ?_; conv => whnf)
 | (refine W.drawAll tys_ok [] mixed rfl ?_; conv => whnf)
 | (refine W.ret ?_; conv => whnf)
 | (refine W.skip ?_; conv => whnf)
 | (refine W.exit ?_; conv => whnf)

    | (refine W.cond rfl (fun hb => ?_) (fun hb => ?_) <;> (try simp only [Int.reduceToNat, Int.reduceTDiv, Int.reduceTMod, minL, maxL, pickB, zHB] at hb) <;> (try (first | (cases hb; done) | exact absurd hb (by decide) | (exfalso; omega))))
    | ((with_reducible refine And.intro ?_ ?_); (focus ((repeat' (first | (with_reducible rfl) | (with_reducible refine And.intro ?_ ?_) | omega | rfl | exact Or.inl rfl | exact Or.inr rfl | exact of_decide_eq_true rfl | exact Path.imp_of (of_decide_eq_true rfl) | (focus ((try simp only [Int.reduceToNat, Int.reduceTDiv, Int.reduceTMod, minL, maxL, pickB, zHB, InK, Path.imp, List.length_replicate, List.length_set, List.length_append, List.length_cons, List.length_nil] at *); omega)) | (refine app_le rfl ?_; omega))); done)); (conv => whnf))
    | ((with_reducible refine And.intro (Side.out ?_) ?_); rotate_left; (conv => whnf))
    | (refine retF1 ?_ <;> (conv => whnf) <;> repeat' (first
 | exact trivial
 | (with_reducible rfl)
 | ((with_reducible refine And.intro ?_ ?_) <;> conv => whnf)
 | omega
 | rfl
 | (refine congrArg (SV.arr _) ?_)
 | (refine congrArg (Value.int _) ?_)
 | (refine congrArg Value.bool ?_)))
 | (refine retF2 ?_ <;> (conv => whnf) <;> repeat' (first
 | exact trivial
 | (with_reducible rfl)
 | ((with_reducible refine And.intro ?_ ?_) <;> conv => whnf)
 | omega
 | rfl
 | (refine congrArg (SV.arr _) ?_)
 | (refine congrArg (Value.int _) ?_)
 | (refine congrArg Value.bool ?_)))); all_goals (try unfold Side)
      all_goals try (repeat' (first | (with_reducible rfl) | (with_reducible refine And.intro ?_ ?_) | omega | rfl | exact Or.inl rfl | exact Or.inr rfl | exact of_decide_eq_true rfl | exact Path.imp_of (of_decide_eq_true rfl) | (focus ((try simp only [Int.reduceToNat, Int.reduceTDiv, Int.reduceTMod, minL, maxL, pickB, zHB, InK, Path.imp, List.length_replicate, List.length_set, List.length_append, List.length_cons, List.length_nil] at *); omega)) | (refine app_le rfl ?_; omega)))
      refine W.loop (fun j : Nat => ⟨[(0, .st false (.arr (.int .i64) (A : List Int))), (1, .st false (.arr (.int .i64) (B : List Int))), (5, .lit (.int .i64 (i))), (6, .lit (.int .i64 (j)))], []⟩) (fun j => j ≤ B.length ∧ ∀ j', j' < j → ¬ A.getD i 0 = -1 - B.getD j' 0) (fun j => B.length - j) (0) ?_ ?_
      · refine ⟨⟨Nat.zero_le _, by omega⟩, ?_⟩
        refine subF.ok ?_ <;> (conv => whnf) <;> repeat' (first
 | exact trivial
 | (with_reducible rfl)
 | ((with_reducible refine And.intro ?_ ?_) <;> conv => whnf)
 | omega
 | rfl
 | (refine congrArg (SV.arr _) ?_)
 | (refine congrArg (Value.int _) ?_)
 | (refine congrArg Value.bool ?_))
      · rintro j ⟨hj, hnj⟩
        by_cases hjl : j < B.length
        · have hr := hBr j
          have hik : InK .i64 (-1 - B.getD j 0) := by simp only [InK]; omega
          by_cases he : A.getD i 0 = -1 - B.getD j 0
          · have hy := yes i j hil hjl he
            repeat' (first
 | refine W.seq ?_
 | refine W.block ?_
 | (refine W.drawPh (id := 7) tys_ok [] mixed [0, 0, 3, 4, 0, 0, 48, 64, 128, 264] [([0, 1, 2, 3, 4, 5, 6, 7, 8, 9], 0, 1023)] (by decide +kernel) ?_; conv => whnf)
 | (refine W.region tys_ok [] ?_; conv => whnf)
 | (refine W.drawAll tys_ok [] mixed rfl ?_; conv => whnf)
 | (refine W.ret ?_; conv => whnf)
 | (refine W.skip ?_; conv => whnf)
 | (refine W.exit ?_; conv => whnf)

    | (refine Both.mk ?_ ?_ <;> (conv => whnf))
    | (refine subF.leaf ?_ <;> (conv => whnf) <;> repeat' (first
 | exact trivial
 | (with_reducible rfl)
 | ((with_reducible refine And.intro ?_ ?_) <;> conv => whnf)
 | omega
 | rfl
 | (refine congrArg (SV.arr _) ?_)
 | (refine congrArg (Value.int _) ?_)
 | (refine congrArg Value.bool ?_)))
 | (refine subF.side ?_ <;> (conv => whnf) <;> repeat' (first
 | exact trivial
 | (with_reducible rfl)
 | ((with_reducible refine And.intro ?_ ?_) <;> conv => whnf)
 | omega
 | rfl
 | (refine congrArg (SV.arr _) ?_)
 | (refine congrArg (Value.int _) ?_)
 | (refine congrArg Value.bool ?_)))
 | (refine W.cond rfl (fun hb => ?_) (fun hb => ?_) <;> (try simp only [Int.reduceToNat, Int.reduceTDiv, Int.reduceTMod, minL, maxL, pickB, zHB] at hb) <;> (try (first | (cases hb; done) | exact absurd hb (by decide) | (exfalso; omega) | (exact absurd he hb))))
 | ((with_reducible refine And.intro ?_ ?_); (focus ((repeat' (first | (with_reducible rfl) | (with_reducible refine And.intro ?_ ?_) | omega | rfl | exact Or.inl rfl | exact Or.inr rfl | exact of_decide_eq_true rfl | exact Path.imp_of (of_decide_eq_true rfl) | (focus ((try simp only [Int.reduceToNat, Int.reduceTDiv, Int.reduceTMod, minL, maxL, pickB, zHB, InK, Path.imp, List.length_replicate, List.length_set, List.length_append, List.length_cons, List.length_nil] at *); omega)) | (refine app_le rfl ?_; omega))); done)); (conv => whnf))
 | ((with_reducible refine And.intro (Side.out ?_) ?_); rotate_left; (conv => whnf))
 | (refine retF1 ?_ <;> (conv => whnf) <;> repeat' (first
 | exact trivial
 | (with_reducible rfl)
 | ((with_reducible refine And.intro ?_ ?_) <;> conv => whnf)
 | omega
 | rfl
 | (refine congrArg (SV.arr _) ?_)
 | (refine congrArg (Value.int _) ?_)
 | (refine congrArg Value.bool ?_)))
 | (refine retF2 ?_ <;> (conv => whnf) <;> repeat' (first
 | exact trivial
 | (with_reducible rfl)
 | ((with_reducible refine And.intro ?_ ?_) <;> conv => whnf)
 | omega
 | rfl
 | (refine congrArg (SV.arr _) ?_)
 | (refine congrArg (Value.int _) ?_)
 | (refine congrArg Value.bool ?_)))); all_goals (try unfold Side)
            all_goals try exact Path.imp_of hik
            all_goals try (repeat' (first | (with_reducible rfl) | (with_reducible refine And.intro ?_ ?_) | omega | rfl | exact Or.inl rfl | exact Or.inr rfl | exact of_decide_eq_true rfl | exact Path.imp_of (of_decide_eq_true rfl) | (focus ((try simp only [Int.reduceToNat, Int.reduceTDiv, Int.reduceTMod, minL, maxL, pickB, zHB, InK, Path.imp, List.length_replicate, List.length_set, List.length_append, List.length_cons, List.length_nil] at *); omega)) | (refine app_le rfl ?_; omega)))
            all_goals exact hy.symm
          · repeat' (first
 | refine W.seq ?_
 | refine W.block ?_
 | (refine W.drawPh (id := 7) tys_ok [] mixed [0, 0, 3, 4, 0, 0, 48, 64, 128, 264] [([0, 1, 2, 3, 4, 5, 6, 7, 8, 9], 0, 1023)] (by decide +kernel) ?_; conv => whnf)
 | (refine W.region tys_ok [] ?_; conv => whnf)
 | (refine W.drawAll tys_ok [] mixed rfl ?_; conv => whnf)
 | (refine W.ret ?_; conv => whnf)
 | (refine W.skip ?_; conv => whnf)
 | (refine W.exit ?_; conv => whnf)

    | (refine Both.mk ?_ ?_ <;> (conv => whnf))
    | (refine subF.leaf ?_ <;> (conv => whnf) <;> repeat' (first
 | exact trivial
 | (with_reducible rfl)
 | ((with_reducible refine And.intro ?_ ?_) <;> conv => whnf)
 | omega
 | rfl
 | (refine congrArg (SV.arr _) ?_)
 | (refine congrArg (Value.int _) ?_)
 | (refine congrArg Value.bool ?_)))
 | (refine subF.side ?_ <;> (conv => whnf) <;> repeat' (first
 | exact trivial
 | (with_reducible rfl)
 | ((with_reducible refine And.intro ?_ ?_) <;> conv => whnf)
 | omega
 | rfl
 | (refine congrArg (SV.arr _) ?_)
 | (refine congrArg (Value.int _) ?_)
 | (refine congrArg Value.bool ?_)))
 | (refine W.cond rfl (fun hb => ?_) (fun hb => ?_) <;> (try simp only [Int.reduceToNat, Int.reduceTDiv, Int.reduceTMod, minL, maxL, pickB, zHB] at hb) <;> (try (first | (cases hb; done) | exact absurd hb (by decide) | (exfalso; omega) | (exact absurd hb he))))
 | ((with_reducible refine And.intro ?_ ?_); (focus ((repeat' (first | (with_reducible rfl) | (with_reducible refine And.intro ?_ ?_) | omega | rfl | exact Or.inl rfl | exact Or.inr rfl | exact of_decide_eq_true rfl | exact Path.imp_of (of_decide_eq_true rfl) | (focus ((try simp only [Int.reduceToNat, Int.reduceTDiv, Int.reduceTMod, minL, maxL, pickB, zHB, InK, Path.imp, List.length_replicate, List.length_set, List.length_append, List.length_cons, List.length_nil] at *); omega)) | (refine app_le rfl ?_; omega))); done)); (conv => whnf))
 | ((with_reducible refine And.intro (Side.out ?_) ?_); rotate_left; (conv => whnf))
 | (refine retF1 ?_ <;> (conv => whnf) <;> repeat' (first
 | exact trivial
 | (with_reducible rfl)
 | ((with_reducible refine And.intro ?_ ?_) <;> conv => whnf)
 | omega
 | rfl
 | (refine congrArg (SV.arr _) ?_)
 | (refine congrArg (Value.int _) ?_)
 | (refine congrArg Value.bool ?_)))
 | (refine retF2 ?_ <;> (conv => whnf) <;> repeat' (first
 | exact trivial
 | (with_reducible rfl)
 | ((with_reducible refine And.intro ?_ ?_) <;> conv => whnf)
 | omega
 | rfl
 | (refine congrArg (SV.arr _) ?_)
 | (refine congrArg (Value.int _) ?_)
 | (refine congrArg Value.bool ?_)))); all_goals (try unfold Side)
            all_goals try exact Path.imp_of hik
            all_goals try (repeat' (first | (with_reducible rfl) | (with_reducible refine And.intro ?_ ?_) | omega | rfl | exact Or.inl rfl | exact Or.inr rfl | exact of_decide_eq_true rfl | exact Path.imp_of (of_decide_eq_true rfl) | (focus ((try simp only [Int.reduceToNat, Int.reduceTDiv, Int.reduceTMod, minL, maxL, pickB, zHB, InK, Path.imp, List.length_replicate, List.length_set, List.length_append, List.length_cons, List.length_nil] at *); omega)) | (refine app_le rfl ?_; omega)))
            refine ⟨j + 1, ⟨⟨by omega, fun j' hj' => ?_⟩, by omega⟩, ?_⟩
            · by_cases e : j' = j
              · subst e; exact he
              · exact hnj j' (by omega)
            · refine subF.ok ?_ <;> (conv => whnf) <;> repeat' (first
 | exact trivial
 | (with_reducible rfl)
 | ((with_reducible refine And.intro ?_ ?_) <;> conv => whnf)
 | omega
 | rfl
 | (refine congrArg (SV.arr _) ?_)
 | (refine congrArg (Value.int _) ?_)
 | (refine congrArg Value.bool ?_))
        · have hje : B.length = j := by omega
          subst hje
          repeat' (first
 | refine W.seq ?_
 | refine W.block ?_
 | (refine W.region tys_ok [] ?_; conv => whnf)
 | (refine W.drawAll tys_ok [] mixed rfl ?_; conv => whnf)
 | (refine W.ret ?_; conv => whnf)
 | (refine W.skip ?_; conv => whnf)
 | (refine W.exit ?_; conv => whnf)

    | (refine W.cond rfl (fun hb => ?_) (fun hb => ?_) <;> (try simp only [Int.reduceToNat, Int.reduceTDiv, Int.reduceTMod, minL, maxL, pickB, zHB] at hb) <;> (try (first | (cases hb; done) | exact absurd hb (by decide) | (exfalso; omega))))
    | ((with_reducible refine And.intro ?_ ?_); (focus ((repeat' (first | (with_reducible rfl) | (with_reducible refine And.intro ?_ ?_) | omega | rfl | exact Or.inl rfl | exact Or.inr rfl | exact of_decide_eq_true rfl | exact Path.imp_of (of_decide_eq_true rfl) | (focus ((try simp only [Int.reduceToNat, Int.reduceTDiv, Int.reduceTMod, minL, maxL, pickB, zHB, InK, Path.imp, List.length_replicate, List.length_set, List.length_append, List.length_cons, List.length_nil] at *); omega)) | (refine app_le rfl ?_; omega))); done)); (conv => whnf))
    | ((with_reducible refine And.intro (Side.out ?_) ?_); rotate_left; (conv => whnf))
    | (refine retF1 ?_ <;> (conv => whnf) <;> repeat' (first
 | exact trivial
 | (with_reducible rfl)
 | ((with_reducible refine And.intro ?_ ?_) <;> conv => whnf)
 | omega
 | rfl
 | (refine congrArg (SV.arr _) ?_)
 | (refine congrArg (Value.int _) ?_)
 | (refine congrArg Value.bool ?_)))
 | (refine retF2 ?_ <;> (conv => whnf) <;> repeat' (first
 | exact trivial
 | (with_reducible rfl)
 | ((with_reducible refine And.intro ?_ ?_) <;> conv => whnf)
 | omega
 | rfl
 | (refine congrArg (SV.arr _) ?_)
 | (refine congrArg (Value.int _) ?_)
 | (refine congrArg Value.bool ?_)))); all_goals (try unfold Side)
          all_goals try (repeat' (first | (with_reducible rfl) | (with_reducible refine And.intro ?_ ?_) | omega | rfl | exact Or.inl rfl | exact Or.inr rfl | exact of_decide_eq_true rfl | exact Path.imp_of (of_decide_eq_true rfl) | (focus ((try simp only [Int.reduceToNat, Int.reduceTDiv, Int.reduceTMod, minL, maxL, pickB, zHB, InK, Path.imp, List.length_replicate, List.length_set, List.length_append, List.length_cons, List.length_nil] at *); omega)) | (refine app_le rfl ?_; omega)))
          refine ⟨i + 1, ⟨⟨by omega, fun i' hi' => ?_⟩, by omega⟩, ?_⟩
          · by_cases e : i' = i
            · subst e; exact hnj
            · exact hno i' (by omega)
          · refine subF.ok ?_ <;> (conv => whnf) <;> repeat' (first
 | exact trivial
 | (with_reducible rfl)
 | ((with_reducible refine And.intro ?_ ?_) <;> conv => whnf)
 | omega
 | rfl
 | (refine congrArg (SV.arr _) ?_)
 | (refine congrArg (Value.int _) ?_)
 | (refine congrArg Value.bool ?_))
    · have hie : A.length = i := by omega
      subst hie
      have hn := no hno
      repeat' (first
 | refine W.seq ?_
 | refine W.block ?_
 | (refine W.region tys_ok [] ?_; conv => whnf)
 | (refine W.drawAll tys_ok [] mixed rfl ?_; conv => whnf)
 | (refine W.ret ?_; conv => whnf)
 | (refine W.skip ?_; conv => whnf)
 | (refine W.exit ?_; conv => whnf)

    | (refine W.cond rfl (fun hb => ?_) (fun hb => ?_) <;> (try simp only [Int.reduceToNat, Int.reduceTDiv, Int.reduceTMod, minL, maxL, pickB, zHB] at hb) <;> (try (first | (cases hb; done) | exact absurd hb (by decide) | (exfalso; omega))))
    | ((with_reducible refine And.intro ?_ ?_); (focus ((repeat' (first | (with_reducible rfl) | (with_reducible refine And.intro ?_ ?_) | omega | rfl | exact Or.inl rfl | exact Or.inr rfl | exact of_decide_eq_true rfl | exact Path.imp_of (of_decide_eq_true rfl) | (focus ((try simp only [Int.reduceToNat, Int.reduceTDiv, Int.reduceTMod, minL, maxL, pickB, zHB, InK, Path.imp, List.length_replicate, List.length_set, List.length_append, List.length_cons, List.length_nil] at *); omega)) | (refine app_le rfl ?_; omega))); done)); (conv => whnf))
    | ((with_reducible refine And.intro (Side.out ?_) ?_); rotate_left; (conv => whnf))
    | (refine retF1 ?_ <;> (conv => whnf) <;> repeat' (first
 | exact trivial
 | (with_reducible rfl)
 | ((with_reducible refine And.intro ?_ ?_) <;> conv => whnf)
 | omega
 | rfl
 | (refine congrArg (SV.arr _) ?_)
 | (refine congrArg (Value.int _) ?_)
 | (refine congrArg Value.bool ?_)))
 | (refine retF2 ?_ <;> (conv => whnf) <;> repeat' (first
 | exact trivial
 | (with_reducible rfl)
 | ((with_reducible refine And.intro ?_ ?_) <;> conv => whnf)
 | omega
 | rfl
 | (refine congrArg (SV.arr _) ?_)
 | (refine congrArg (Value.int _) ?_)
 | (refine congrArg Value.bool ?_)))); all_goals (try unfold Side)
      all_goals try (repeat' (first | (with_reducible rfl) | (with_reducible refine And.intro ?_ ?_) | omega | rfl | exact Or.inl rfl | exact Or.inr rfl | exact of_decide_eq_true rfl | exact Path.imp_of (of_decide_eq_true rfl) | (focus ((try simp only [Int.reduceToNat, Int.reduceTDiv, Int.reduceTMod, minL, maxL, pickB, zHB, InK, Path.imp, List.length_replicate, List.length_set, List.length_append, List.length_cons, List.length_nil] at *); omega)) | (refine app_le rfl ?_; omega)))
      all_goals exact hn.symm
theorem twi_no {F : List (List Int)} {i k : Nat} (h : ∀ m, m < F.length → (decide (m ≠ i) && decide (m ≠ k) && bes (F.getD m []) (F.getD i []) && bes (F.getD m []) (F.getD k [])) = false) : twi F i k = false := by
  cases hb : twi F i k with
  | false => rfl
  | true =>
    obtain ⟨m, h1, h2, h3, h4, h5⟩ := twi_iff.1 hb
    have := h m h1
    rw [decide_eq_true h2, decide_eq_true h3, h4, h5] at this; cases this
set_option maxHeartbeats 8000000 in
theorem twice_at {F : List (List Int)} (hFl : F.length ≤ 100) (hF : ∀ j, j < F.length → smallL (F.getD j [])) {i k : Nat} (hi : i < F.length) (hk : k < F.length) : FnAt Try.prog false 35 [.arr (.sl (.int .i64)) F, .lit (.int .i64 i), .lit (.int .i64 k)] (.lit (.bool (twi F i k))) [] := by
  have hFe : @List.length (Ty.sl (.int .i64)).T F = F.length := rfl
  have yes := fun m (hm : m < F.length) (h1 : m ≠ i) (h2 : m ≠ k) h3 h4 => twi_iff.2 ⟨m, hm, h1, h2, h3, h4⟩
  have no := fun h => twi_no (F := F) (i := i) (k := k) h
  have hb := fun a b ha hb' => beside_at (hF a ha) (hF b hb')
  obtain ⟨R, hR⟩ : ∃ R, R = twi F i k := ⟨_, rfl⟩
  rw [← hR] at yes no ⊢
  clear hR
  refine FnAt.of_body tys_ok Try.func35 (by rfl) rfl Try.ntmps35 (by rw [Try.results35]) (by simp) ?_
  
  repeat' (first
 | refine W.seq ?_
 | refine W.block ?_
 | (refine W.region tys_ok [] ?_; conv => whnf)
 | (refine W.drawAll tys_ok [] mixed rfl ?_; conv => whnf)
 | (refine W.ret ?_; conv => whnf)
 | (refine W.skip ?_; conv => whnf)
 | (refine W.exit ?_; conv => whnf)

    | (refine W.cond rfl (fun hb => ?_) (fun hb => ?_) <;> (try simp only [Int.reduceToNat, Int.reduceTDiv, Int.reduceTMod, minL, maxL, pickB, zHB] at hb) <;> (try (first | (cases hb; done) | exact absurd hb (by decide) | (exfalso; omega))))
    | ((with_reducible refine And.intro ?_ ?_); (focus ((repeat' (first | (with_reducible rfl) | (with_reducible refine And.intro ?_ ?_) | omega | rfl | exact Or.inl rfl | exact Or.inr rfl | exact of_decide_eq_true rfl | exact Path.imp_of (of_decide_eq_true rfl) | (focus ((try simp only [Int.reduceToNat, Int.reduceTDiv, Int.reduceTMod, minL, maxL, pickB, zHB, InK, Path.imp, List.length_replicate, List.length_set, List.length_append, List.length_cons, List.length_nil] at *); omega)) | (refine app_le rfl ?_; omega))); done)); (conv => whnf))
    | ((with_reducible refine And.intro (Side.out ?_) ?_); rotate_left; (conv => whnf))
    | (refine retF1 ?_ <;> (conv => whnf) <;> repeat' (first
 | exact trivial
 | (with_reducible rfl)
 | ((with_reducible refine And.intro ?_ ?_) <;> conv => whnf)
 | omega
 | rfl
 | (refine congrArg (SV.arr _) ?_)
 | (refine congrArg (Value.int _) ?_)
 | (refine congrArg Value.bool ?_)))
 | (refine retF2 ?_ <;> (conv => whnf) <;> repeat' (first
 | exact trivial
 | (with_reducible rfl)
 | ((with_reducible refine And.intro ?_ ?_) <;> conv => whnf)
 | omega
 | rfl
 | (refine congrArg (SV.arr _) ?_)
 | (refine congrArg (Value.int _) ?_)
 | (refine congrArg Value.bool ?_)))); all_goals (try unfold Side)
  all_goals try (repeat' (first | (with_reducible rfl) | (with_reducible refine And.intro ?_ ?_) | omega | rfl | exact Or.inl rfl | exact Or.inr rfl | exact of_decide_eq_true rfl | exact Path.imp_of (of_decide_eq_true rfl) | (focus ((try simp only [Int.reduceToNat, Int.reduceTDiv, Int.reduceTMod, minL, maxL, pickB, zHB, InK, Path.imp, List.length_replicate, List.length_set, List.length_append, List.length_cons, List.length_nil] at *); omega)) | (refine app_le rfl ?_; omega)))
  refine W.loop (fun m : Nat => ⟨[(0, .st false (.arr (.sl (.int .i64)) F)), (1, .lit (.int .i64 (i))), (2, .lit (.int .i64 (k))), (7, .lit (.int .i64 (m)))], []⟩) (fun m => m ≤ F.length ∧ ∀ m', m' < m → (decide (m' ≠ i) && decide (m' ≠ k) && bes (F.getD m' []) (F.getD i []) && bes (F.getD m' []) (F.getD k [])) = false) (fun m => F.length - m) (0) ?_ ?_
  · refine ⟨⟨Nat.zero_le _, by omega⟩, ?_⟩
    refine subF.ok ?_ <;> (conv => whnf) <;> repeat' (first
 | exact trivial
 | (with_reducible rfl)
 | ((with_reducible refine And.intro ?_ ?_) <;> conv => whnf)
 | omega
 | rfl
 | (refine congrArg (SV.arr _) ?_)
 | (refine congrArg (Value.int _) ?_)
 | (refine congrArg Value.bool ?_))
  · rintro m ⟨hm, hno⟩
    by_cases hml : m < F.length
    · have b1 := hb m i hml hi
      have b2 := hb m k hml hk
      have nx : (decide (m ≠ i) && decide (m ≠ k) && bes (F.getD m []) (F.getD i []) && bes (F.getD m []) (F.getD k [])) = false → ∀ m', m' < m + 1 → (decide (m' ≠ i) && decide (m' ≠ k) && bes (F.getD m' []) (F.getD i []) && bes (F.getD m' []) (F.getD k [])) = false := fun h m' hm' => by
        by_cases e : m' = m
        · subst e; exact h
        · exact hno m' (by omega)
      by_cases e1 : m = i
      · have nx' := nx (by rw [e1]; simp)
        repeat' (first
 | refine W.seq ?_
 | refine W.block ?_
 | (refine W.drawPh (id := 4) tys_ok [] mixed [0, 0, 3, 4, 8, 8, 56, 72, 136, 256, 256, 1792, 2304, 256, 256, 24832, 33024, 69888, 131328, 393216, 524288, 524288, 3670016, 4718592, 524288, 524288, 50855936, 67633152, 143130624, 268959744] [([0, 1, 2, 3, 4, 5, 6, 7, 8, 9, 10, 11, 12, 13, 14, 15, 16], 1, 262143), ([18, 19, 20, 21, 22, 23, 24, 25, 26, 27], 1, 536870911), ([29], 0, 1073741823)] (by decide +kernel) ?_; conv => whnf)
 | (refine W.region tys_ok [] ?_; conv => whnf)
 | (refine W.drawAll tys_ok [] mixed rfl ?_; conv => whnf)
 | (refine W.ret ?_; conv => whnf)
 | (refine W.skip ?_; conv => whnf)
 | (refine W.exit ?_; conv => whnf)
 | (refine call_at (al := false) (b1) rfl rfl rfl rfl ?_; conv => whnf)
 | (refine call_at (al := false) (b2) rfl rfl rfl rfl ?_; conv => whnf)

    | (refine Both.mk ?_ ?_ <;> (conv => whnf))
    | (refine subF.leaf ?_ <;> (conv => whnf) <;> repeat' (first
 | exact trivial
 | (with_reducible rfl)
 | ((with_reducible refine And.intro ?_ ?_) <;> conv => whnf)
 | omega
 | rfl
 | (refine congrArg (SV.arr _) ?_)
 | (refine congrArg (Value.int _) ?_)
 | (refine congrArg Value.bool ?_)))
 | (refine subF.side ?_ <;> (conv => whnf) <;> repeat' (first
 | exact trivial
 | (with_reducible rfl)
 | ((with_reducible refine And.intro ?_ ?_) <;> conv => whnf)
 | omega
 | rfl
 | (refine congrArg (SV.arr _) ?_)
 | (refine congrArg (Value.int _) ?_)
 | (refine congrArg Value.bool ?_)))
 | (refine W.cond rfl (fun hb => ?_) (fun hb => ?_) <;> (try simp only [Int.reduceToNat, Int.reduceTDiv, Int.reduceTMod, minL, maxL, pickB, zHB] at hb) <;> (try (first | (cases hb; done) | exact absurd hb (by decide) | (exfalso; omega))))
 | ((with_reducible refine And.intro ?_ ?_); (focus ((repeat' (first | (with_reducible rfl) | (with_reducible refine And.intro ?_ ?_) | omega | rfl | exact Or.inl rfl | exact Or.inr rfl | exact of_decide_eq_true rfl | exact Path.imp_of (of_decide_eq_true rfl) | (focus ((try simp only [Int.reduceToNat, Int.reduceTDiv, Int.reduceTMod, minL, maxL, pickB, zHB, InK, Path.imp, List.length_replicate, List.length_set, List.length_append, List.length_cons, List.length_nil] at *); omega)) | (refine app_le rfl ?_; omega))); done)); (conv => whnf))
 | ((with_reducible refine And.intro (Side.out ?_) ?_); rotate_left; (conv => whnf))
 | (refine retF1 ?_ <;> (conv => whnf) <;> repeat' (first
 | exact trivial
 | (with_reducible rfl)
 | ((with_reducible refine And.intro ?_ ?_) <;> conv => whnf)
 | omega
 | rfl
 | (refine congrArg (SV.arr _) ?_)
 | (refine congrArg (Value.int _) ?_)
 | (refine congrArg Value.bool ?_)))
 | (refine retF2 ?_ <;> (conv => whnf) <;> repeat' (first
 | exact trivial
 | (with_reducible rfl)
 | ((with_reducible refine And.intro ?_ ?_) <;> conv => whnf)
 | omega
 | rfl
 | (refine congrArg (SV.arr _) ?_)
 | (refine congrArg (Value.int _) ?_)
 | (refine congrArg Value.bool ?_)))); all_goals (try unfold Side)
        all_goals try (repeat' (first | (with_reducible rfl) | (with_reducible refine And.intro ?_ ?_) | omega | rfl | exact Or.inl rfl | exact Or.inr rfl | exact of_decide_eq_true rfl | exact Path.imp_of (of_decide_eq_true rfl) | (focus ((try simp only [Int.reduceToNat, Int.reduceTDiv, Int.reduceTMod, minL, maxL, pickB, zHB, InK, Path.imp, List.length_replicate, List.length_set, List.length_append, List.length_cons, List.length_nil] at *); omega)) | (refine app_le rfl ?_; omega)))
        refine ⟨m + 1, ⟨⟨by omega, nx'⟩, by omega⟩, ?_⟩
        refine subF.ok ?_ <;> (conv => whnf) <;> repeat' (first
 | exact trivial
 | (with_reducible rfl)
 | ((with_reducible refine And.intro ?_ ?_) <;> conv => whnf)
 | omega
 | rfl
 | (refine congrArg (SV.arr _) ?_)
 | (refine congrArg (Value.int _) ?_)
 | (refine congrArg Value.bool ?_))
      · by_cases e2 : m = k
        · have nx' := nx (by rw [e2]; simp)
          repeat' (first
 | refine W.seq ?_
 | refine W.block ?_
 | (refine W.drawPh (id := 4) tys_ok [] mixed [0, 0, 3, 4, 8, 8, 56, 72, 136, 256, 256, 1792, 2304, 256, 256, 24832, 33024, 69888, 131328, 393216, 524288, 524288, 3670016, 4718592, 524288, 524288, 50855936, 67633152, 143130624, 268959744] [([0, 1, 2, 3, 4, 5, 6, 7, 8, 9, 10, 11, 12, 13, 14, 15, 16], 1, 262143), ([18, 19, 20, 21, 22, 23, 24, 25, 26, 27], 1, 536870911), ([29], 0, 1073741823)] (by decide +kernel) ?_; conv => whnf)
 | (refine W.region tys_ok [] ?_; conv => whnf)
 | (refine W.drawAll tys_ok [] mixed rfl ?_; conv => whnf)
 | (refine W.ret ?_; conv => whnf)
 | (refine W.skip ?_; conv => whnf)
 | (refine W.exit ?_; conv => whnf)
 | (refine call_at (al := false) (b1) rfl rfl rfl rfl ?_; conv => whnf)
 | (refine call_at (al := false) (b2) rfl rfl rfl rfl ?_; conv => whnf)

    | (refine Both.mk ?_ ?_ <;> (conv => whnf))
    | (refine subF.leaf ?_ <;> (conv => whnf) <;> repeat' (first
 | exact trivial
 | (with_reducible rfl)
 | ((with_reducible refine And.intro ?_ ?_) <;> conv => whnf)
 | omega
 | rfl
 | (refine congrArg (SV.arr _) ?_)
 | (refine congrArg (Value.int _) ?_)
 | (refine congrArg Value.bool ?_)))
 | (refine subF.side ?_ <;> (conv => whnf) <;> repeat' (first
 | exact trivial
 | (with_reducible rfl)
 | ((with_reducible refine And.intro ?_ ?_) <;> conv => whnf)
 | omega
 | rfl
 | (refine congrArg (SV.arr _) ?_)
 | (refine congrArg (Value.int _) ?_)
 | (refine congrArg Value.bool ?_)))
 | (refine W.cond rfl (fun hb => ?_) (fun hb => ?_) <;> (try simp only [Int.reduceToNat, Int.reduceTDiv, Int.reduceTMod, minL, maxL, pickB, zHB] at hb) <;> (try (first | (cases hb; done) | exact absurd hb (by decide) | (exfalso; omega))))
 | ((with_reducible refine And.intro ?_ ?_); (focus ((repeat' (first | (with_reducible rfl) | (with_reducible refine And.intro ?_ ?_) | omega | rfl | exact Or.inl rfl | exact Or.inr rfl | exact of_decide_eq_true rfl | exact Path.imp_of (of_decide_eq_true rfl) | (focus ((try simp only [Int.reduceToNat, Int.reduceTDiv, Int.reduceTMod, minL, maxL, pickB, zHB, InK, Path.imp, List.length_replicate, List.length_set, List.length_append, List.length_cons, List.length_nil] at *); omega)) | (refine app_le rfl ?_; omega))); done)); (conv => whnf))
 | ((with_reducible refine And.intro (Side.out ?_) ?_); rotate_left; (conv => whnf))
 | (refine retF1 ?_ <;> (conv => whnf) <;> repeat' (first
 | exact trivial
 | (with_reducible rfl)
 | ((with_reducible refine And.intro ?_ ?_) <;> conv => whnf)
 | omega
 | rfl
 | (refine congrArg (SV.arr _) ?_)
 | (refine congrArg (Value.int _) ?_)
 | (refine congrArg Value.bool ?_)))
 | (refine retF2 ?_ <;> (conv => whnf) <;> repeat' (first
 | exact trivial
 | (with_reducible rfl)
 | ((with_reducible refine And.intro ?_ ?_) <;> conv => whnf)
 | omega
 | rfl
 | (refine congrArg (SV.arr _) ?_)
 | (refine congrArg (Value.int _) ?_)
 | (refine congrArg Value.bool ?_)))); all_goals (try unfold Side)
          all_goals try (repeat' (first | (with_reducible rfl) | (with_reducible refine And.intro ?_ ?_) | omega | rfl | exact Or.inl rfl | exact Or.inr rfl | exact of_decide_eq_true rfl | exact Path.imp_of (of_decide_eq_true rfl) | (focus ((try simp only [Int.reduceToNat, Int.reduceTDiv, Int.reduceTMod, minL, maxL, pickB, zHB, InK, Path.imp, List.length_replicate, List.length_set, List.length_append, List.length_cons, List.length_nil] at *); omega)) | (refine app_le rfl ?_; omega)))
          refine ⟨m + 1, ⟨⟨by omega, nx'⟩, by omega⟩, ?_⟩
          refine subF.ok ?_ <;> (conv => whnf) <;> repeat' (first
 | exact trivial
 | (with_reducible rfl)
 | ((with_reducible refine And.intro ?_ ?_) <;> conv => whnf)
 | omega
 | rfl
 | (refine congrArg (SV.arr _) ?_)
 | (refine congrArg (Value.int _) ?_)
 | (refine congrArg Value.bool ?_))
        · cases e3 : bes (F.getD m []) (F.getD i []) with
          | false =>
            rw [e3] at b1
            have nx' := nx (by rw [e3]; simp)
            repeat' (first
 | refine W.seq ?_
 | refine W.block ?_
 | (refine W.drawPh (id := 4) tys_ok [] mixed [0, 0, 3, 4, 8, 8, 56, 72, 136, 256, 256, 1792, 2304, 256, 256, 24832, 33024, 69888, 131328, 393216, 524288, 524288, 3670016, 4718592, 524288, 524288, 50855936, 67633152, 143130624, 268959744] [([0, 1, 2, 3, 4, 5, 6, 7, 8, 9, 10, 11, 12, 13, 14, 15, 16], 1, 262143), ([18, 19, 20, 21, 22, 23, 24, 25, 26, 27], 1, 536870911), ([29], 0, 1073741823)] (by decide +kernel) ?_; conv => whnf)
 | (refine W.region tys_ok [] ?_; conv => whnf)
 | (refine W.drawAll tys_ok [] mixed rfl ?_; conv => whnf)
 | (refine W.ret ?_; conv => whnf)
 | (refine W.skip ?_; conv => whnf)
 | (refine W.exit ?_; conv => whnf)
 | (refine call_at (al := false) (b1) rfl rfl rfl rfl ?_; conv => whnf)
 | (refine call_at (al := false) (b2) rfl rfl rfl rfl ?_; conv => whnf)

    | (refine Both.mk ?_ ?_ <;> (conv => whnf))
    | (refine subF.leaf ?_ <;> (conv => whnf) <;> repeat' (first
 | exact trivial
 | (with_reducible rfl)
 | ((with_reducible refine And.intro ?_ ?_) <;> conv => whnf)
 | omega
 | rfl
 | (refine congrArg (SV.arr _) ?_)
 | (refine congrArg (Value.int _) ?_)
 | (refine congrArg Value.bool ?_)))
 | (refine subF.side ?_ <;> (conv => whnf) <;> repeat' (first
 | exact trivial
 | (with_reducible rfl)
 | ((with_reducible refine And.intro ?_ ?_) <;> conv => whnf)
 | omega
 | rfl
 | (refine congrArg (SV.arr _) ?_)
 | (refine congrArg (Value.int _) ?_)
 | (refine congrArg Value.bool ?_)))
 | (refine W.cond rfl (fun hb => ?_) (fun hb => ?_) <;> (try simp only [Int.reduceToNat, Int.reduceTDiv, Int.reduceTMod, minL, maxL, pickB, zHB] at hb) <;> (try (first | (cases hb; done) | exact absurd hb (by decide) | (exfalso; omega))))
 | ((with_reducible refine And.intro ?_ ?_); (focus ((repeat' (first | (with_reducible rfl) | (with_reducible refine And.intro ?_ ?_) | omega | rfl | exact Or.inl rfl | exact Or.inr rfl | exact of_decide_eq_true rfl | exact Path.imp_of (of_decide_eq_true rfl) | (focus ((try simp only [Int.reduceToNat, Int.reduceTDiv, Int.reduceTMod, minL, maxL, pickB, zHB, InK, Path.imp, List.length_replicate, List.length_set, List.length_append, List.length_cons, List.length_nil] at *); omega)) | (refine app_le rfl ?_; omega))); done)); (conv => whnf))
 | ((with_reducible refine And.intro (Side.out ?_) ?_); rotate_left; (conv => whnf))
 | (refine retF1 ?_ <;> (conv => whnf) <;> repeat' (first
 | exact trivial
 | (with_reducible rfl)
 | ((with_reducible refine And.intro ?_ ?_) <;> conv => whnf)
 | omega
 | rfl
 | (refine congrArg (SV.arr _) ?_)
 | (refine congrArg (Value.int _) ?_)
 | (refine congrArg Value.bool ?_)))
 | (refine retF2 ?_ <;> (conv => whnf) <;> repeat' (first
 | exact trivial
 | (with_reducible rfl)
 | ((with_reducible refine And.intro ?_ ?_) <;> conv => whnf)
 | omega
 | rfl
 | (refine congrArg (SV.arr _) ?_)
 | (refine congrArg (Value.int _) ?_)
 | (refine congrArg Value.bool ?_)))); all_goals (try unfold Side)
            all_goals try (repeat' (first | (with_reducible rfl) | (with_reducible refine And.intro ?_ ?_) | omega | rfl | exact Or.inl rfl | exact Or.inr rfl | exact of_decide_eq_true rfl | exact Path.imp_of (of_decide_eq_true rfl) | (focus ((try simp only [Int.reduceToNat, Int.reduceTDiv, Int.reduceTMod, minL, maxL, pickB, zHB, InK, Path.imp, List.length_replicate, List.length_set, List.length_append, List.length_cons, List.length_nil] at *); omega)) | (refine app_le rfl ?_; omega)))
            refine ⟨m + 1, ⟨⟨by omega, nx'⟩, by omega⟩, ?_⟩
            refine subF.ok ?_ <;> (conv => whnf) <;> repeat' (first
 | exact trivial
 | (with_reducible rfl)
 | ((with_reducible refine And.intro ?_ ?_) <;> conv => whnf)
 | omega
 | rfl
 | (refine congrArg (SV.arr _) ?_)
 | (refine congrArg (Value.int _) ?_)
 | (refine congrArg Value.bool ?_))
          | true =>
            rw [e3] at b1
            cases e4 : bes (F.getD m []) (F.getD k []) with
            | false =>
              rw [e4] at b2
              have nx' := nx (by rw [e4]; simp)
              repeat' (first
 | refine W.seq ?_
 | refine W.block ?_
 | (refine W.drawPh (id := 4) tys_ok [] mixed [0, 0, 3, 4, 8, 8, 56, 72, 136, 256, 256, 1792, 2304, 256, 256, 24832, 33024, 69888, 131328, 393216, 524288, 524288, 3670016, 4718592, 524288, 524288, 50855936, 67633152, 143130624, 268959744] [([0, 1, 2, 3, 4, 5, 6, 7, 8, 9, 10, 11, 12, 13, 14, 15, 16], 1, 262143), ([18, 19, 20, 21, 22, 23, 24, 25, 26, 27], 1, 536870911), ([29], 0, 1073741823)] (by decide +kernel) ?_; conv => whnf)
 | (refine W.region tys_ok [] ?_; conv => whnf)
 | (refine W.drawAll tys_ok [] mixed rfl ?_; conv => whnf)
 | (refine W.ret ?_; conv => whnf)
 | (refine W.skip ?_; conv => whnf)
 | (refine W.exit ?_; conv => whnf)
 | (refine call_at (al := false) (b1) rfl rfl rfl rfl ?_; conv => whnf)
 | (refine call_at (al := false) (b2) rfl rfl rfl rfl ?_; conv => whnf)

    | (refine Both.mk ?_ ?_ <;> (conv => whnf))
    | (refine subF.leaf ?_ <;> (conv => whnf) <;> repeat' (first
 | exact trivial
 | (with_reducible rfl)
 | ((with_reducible refine And.intro ?_ ?_) <;> conv => whnf)
 | omega
 | rfl
 | (refine congrArg (SV.arr _) ?_)
 | (refine congrArg (Value.int _) ?_)
 | (refine congrArg Value.bool ?_)))
 | (refine subF.side ?_ <;> (conv => whnf) <;> repeat' (first
 | exact trivial
 | (with_reducible rfl)
 | ((with_reducible refine And.intro ?_ ?_) <;> conv => whnf)
 | omega
 | rfl
 | (refine congrArg (SV.arr _) ?_)
 | (refine congrArg (Value.int _) ?_)
 | (refine congrArg Value.bool ?_)))
 | (refine W.cond rfl (fun hb => ?_) (fun hb => ?_) <;> (try simp only [Int.reduceToNat, Int.reduceTDiv, Int.reduceTMod, minL, maxL, pickB, zHB] at hb) <;> (try (first | (cases hb; done) | exact absurd hb (by decide) | (exfalso; omega))))
 | ((with_reducible refine And.intro ?_ ?_); (focus ((repeat' (first | (with_reducible rfl) | (with_reducible refine And.intro ?_ ?_) | omega | rfl | exact Or.inl rfl | exact Or.inr rfl | exact of_decide_eq_true rfl | exact Path.imp_of (of_decide_eq_true rfl) | (focus ((try simp only [Int.reduceToNat, Int.reduceTDiv, Int.reduceTMod, minL, maxL, pickB, zHB, InK, Path.imp, List.length_replicate, List.length_set, List.length_append, List.length_cons, List.length_nil] at *); omega)) | (refine app_le rfl ?_; omega))); done)); (conv => whnf))
 | ((with_reducible refine And.intro (Side.out ?_) ?_); rotate_left; (conv => whnf))
 | (refine retF1 ?_ <;> (conv => whnf) <;> repeat' (first
 | exact trivial
 | (with_reducible rfl)
 | ((with_reducible refine And.intro ?_ ?_) <;> conv => whnf)
 | omega
 | rfl
 | (refine congrArg (SV.arr _) ?_)
 | (refine congrArg (Value.int _) ?_)
 | (refine congrArg Value.bool ?_)))
 | (refine retF2 ?_ <;> (conv => whnf) <;> repeat' (first
 | exact trivial
 | (with_reducible rfl)
 | ((with_reducible refine And.intro ?_ ?_) <;> conv => whnf)
 | omega
 | rfl
 | (refine congrArg (SV.arr _) ?_)
 | (refine congrArg (Value.int _) ?_)
 | (refine congrArg Value.bool ?_)))); all_goals (try unfold Side)
              all_goals try (repeat' (first | (with_reducible rfl) | (with_reducible refine And.intro ?_ ?_) | omega | rfl | exact Or.inl rfl | exact Or.inr rfl | exact of_decide_eq_true rfl | exact Path.imp_of (of_decide_eq_true rfl) | (focus ((try simp only [Int.reduceToNat, Int.reduceTDiv, Int.reduceTMod, minL, maxL, pickB, zHB, InK, Path.imp, List.length_replicate, List.length_set, List.length_append, List.length_cons, List.length_nil] at *); omega)) | (refine app_le rfl ?_; omega)))
              refine ⟨m + 1, ⟨⟨by omega, nx'⟩, by omega⟩, ?_⟩
              refine subF.ok ?_ <;> (conv => whnf) <;> repeat' (first
 | exact trivial
 | (with_reducible rfl)
 | ((with_reducible refine And.intro ?_ ?_) <;> conv => whnf)
 | omega
 | rfl
 | (refine congrArg (SV.arr _) ?_)
 | (refine congrArg (Value.int _) ?_)
 | (refine congrArg Value.bool ?_))
            | true =>
              rw [e4] at b2
              have hy := yes m hml e1 e2 e3 e4
              repeat' (first
 | refine W.seq ?_
 | refine W.block ?_
 | (refine W.drawPh (id := 4) tys_ok [] mixed [0, 0, 3, 4, 8, 8, 56, 72, 136, 256, 256, 1792, 2304, 256, 256, 24832, 33024, 69888, 131328, 393216, 524288, 524288, 3670016, 4718592, 524288, 524288, 50855936, 67633152, 143130624, 268959744] [([0, 1, 2, 3, 4, 5, 6, 7, 8, 9, 10, 11, 12, 13, 14, 15, 16], 1, 262143), ([18, 19, 20, 21, 22, 23, 24, 25, 26, 27], 1, 536870911), ([29], 0, 1073741823)] (by decide +kernel) ?_; conv => whnf)
 | (refine W.region tys_ok [] ?_; conv => whnf)
 | (refine W.drawAll tys_ok [] mixed rfl ?_; conv => whnf)
 | (refine W.ret ?_; conv => whnf)
 | (refine W.skip ?_; conv => whnf)
 | (refine W.exit ?_; conv => whnf)
 | (refine call_at (al := false) (b1) rfl rfl rfl rfl ?_; conv => whnf)
 | (refine call_at (al := false) (b2) rfl rfl rfl rfl ?_; conv => whnf)

    | (refine Both.mk ?_ ?_ <;> (conv => whnf))
    | (refine subF.leaf ?_ <;> (conv => whnf) <;> repeat' (first
 | exact trivial
 | (with_reducible rfl)
 | ((with_reducible refine And.intro ?_ ?_) <;> conv => whnf)
 | omega
 | rfl
 | (refine congrArg (SV.arr _) ?_)
 | (refine congrArg (Value.int _) ?_)
 | (refine congrArg Value.bool ?_)))
 | (refine subF.side ?_ <;> (conv => whnf) <;> repeat' (first
 | exact trivial
 | (with_reducible rfl)
 | ((with_reducible refine And.intro ?_ ?_) <;> conv => whnf)
 | omega
 | rfl
 | (refine congrArg (SV.arr _) ?_)
 | (refine congrArg (Value.int _) ?_)
 | (refine congrArg Value.bool ?_)))
 | (refine W.cond rfl (fun hb => ?_) (fun hb => ?_) <;> (try simp only [Int.reduceToNat, Int.reduceTDiv, Int.reduceTMod, minL, maxL, pickB, zHB] at hb) <;> (try (first | (cases hb; done) | exact absurd hb (by decide) | (exfalso; omega))))
 | ((with_reducible refine And.intro ?_ ?_); (focus ((repeat' (first | (with_reducible rfl) | (with_reducible refine And.intro ?_ ?_) | omega | rfl | exact Or.inl rfl | exact Or.inr rfl | exact of_decide_eq_true rfl | exact Path.imp_of (of_decide_eq_true rfl) | (focus ((try simp only [Int.reduceToNat, Int.reduceTDiv, Int.reduceTMod, minL, maxL, pickB, zHB, InK, Path.imp, List.length_replicate, List.length_set, List.length_append, List.length_cons, List.length_nil] at *); omega)) | (refine app_le rfl ?_; omega))); done)); (conv => whnf))
 | ((with_reducible refine And.intro (Side.out ?_) ?_); rotate_left; (conv => whnf))
 | (refine retF1 ?_ <;> (conv => whnf) <;> repeat' (first
 | exact trivial
 | (with_reducible rfl)
 | ((with_reducible refine And.intro ?_ ?_) <;> conv => whnf)
 | omega
 | rfl
 | (refine congrArg (SV.arr _) ?_)
 | (refine congrArg (Value.int _) ?_)
 | (refine congrArg Value.bool ?_)))
 | (refine retF2 ?_ <;> (conv => whnf) <;> repeat' (first
 | exact trivial
 | (with_reducible rfl)
 | ((with_reducible refine And.intro ?_ ?_) <;> conv => whnf)
 | omega
 | rfl
 | (refine congrArg (SV.arr _) ?_)
 | (refine congrArg (Value.int _) ?_)
 | (refine congrArg Value.bool ?_)))); all_goals (try unfold Side)
              all_goals try (repeat' (first | (with_reducible rfl) | (with_reducible refine And.intro ?_ ?_) | omega | rfl | exact Or.inl rfl | exact Or.inr rfl | exact of_decide_eq_true rfl | exact Path.imp_of (of_decide_eq_true rfl) | (focus ((try simp only [Int.reduceToNat, Int.reduceTDiv, Int.reduceTMod, minL, maxL, pickB, zHB, InK, Path.imp, List.length_replicate, List.length_set, List.length_append, List.length_cons, List.length_nil] at *); omega)) | (refine app_le rfl ?_; omega)))
              all_goals exact hy.symm
    · have hme : F.length = m := by omega
      subst hme
      have hn := no hno
      repeat' (first
 | refine W.seq ?_
 | refine W.block ?_
 | (refine W.region tys_ok [] ?_; conv => whnf)
 | (refine W.drawAll tys_ok [] mixed rfl ?_; conv => whnf)
 | (refine W.ret ?_; conv => whnf)
 | (refine W.skip ?_; conv => whnf)
 | (refine W.exit ?_; conv => whnf)

    | (refine W.cond rfl (fun hb => ?_) (fun hb => ?_) <;> (try simp only [Int.reduceToNat, Int.reduceTDiv, Int.reduceTMod, minL, maxL, pickB, zHB] at hb) <;> (try (first | (cases hb; done) | exact absurd hb (by decide) | (exfalso; omega))))
    | ((with_reducible refine And.intro ?_ ?_); (focus ((repeat' (first | (with_reducible rfl) | (with_reducible refine And.intro ?_ ?_) | omega | rfl | exact Or.inl rfl | exact Or.inr rfl | exact of_decide_eq_true rfl | exact Path.imp_of (of_decide_eq_true rfl) | (focus ((try simp only [Int.reduceToNat, Int.reduceTDiv, Int.reduceTMod, minL, maxL, pickB, zHB, InK, Path.imp, List.length_replicate, List.length_set, List.length_append, List.length_cons, List.length_nil] at *); omega)) | (refine app_le rfl ?_; omega))); done)); (conv => whnf))
    | ((with_reducible refine And.intro (Side.out ?_) ?_); rotate_left; (conv => whnf))
    | (refine retF1 ?_ <;> (conv => whnf) <;> repeat' (first
 | exact trivial
 | (with_reducible rfl)
 | ((with_reducible refine And.intro ?_ ?_) <;> conv => whnf)
 | omega
 | rfl
 | (refine congrArg (SV.arr _) ?_)
 | (refine congrArg (Value.int _) ?_)
 | (refine congrArg Value.bool ?_)))
 | (refine retF2 ?_ <;> (conv => whnf) <;> repeat' (first
 | exact trivial
 | (with_reducible rfl)
 | ((with_reducible refine And.intro ?_ ?_) <;> conv => whnf)
 | omega
 | rfl
 | (refine congrArg (SV.arr _) ?_)
 | (refine congrArg (Value.int _) ?_)
 | (refine congrArg Value.bool ?_)))); all_goals (try unfold Side)
      all_goals try (repeat' (first | (with_reducible rfl) | (with_reducible refine And.intro ?_ ?_) | omega | rfl | exact Or.inl rfl | exact Or.inr rfl | exact of_decide_eq_true rfl | exact Path.imp_of (of_decide_eq_true rfl) | (focus ((try simp only [Int.reduceToNat, Int.reduceTDiv, Int.reduceTMod, minL, maxL, pickB, zHB, InK, Path.imp, List.length_replicate, List.length_set, List.length_append, List.length_cons, List.length_nil] at *); omega)) | (refine app_le rfl ?_; omega)))
      all_goals exact hn.symm
end Go.Proofs.Ytdfajcfkdfjoeaa
/- The least genus: it is one of the signs', and no other is less. No condition. -/
namespace Go.Scr
set_option linter.unusedVariables false
set_option linter.unusedSimpArgs false
set_option linter.unusedSectionVars false

theorem leastK_in {n : Nat} {w : List Int} (hn : 1 ≤ n) : ∀ {k : Nat}, 1 ≤ k → ∃ j, j < k ∧ leastK n w k = (genusT n w (sgT n j), sgT n j)
  | k + 1, _ => by
    by_cases h : (leastK n w k).2 = [] ∨ genusT n w (sgT n k) < (leastK n w k).1
    · exact ⟨k, Nat.lt_succ_self k, leastK_yes h⟩
    · rw [leastK_no h]
      have hk : 1 ≤ k := by
        refine Nat.pos_of_ne_zero fun e => ?_
        subst e
        exact h (.inl rfl)
      obtain ⟨j, hj, e⟩ := leastK_in hn hk
      exact ⟨j, by omega, e⟩
theorem leastK_le {n : Nat} {w : List Int} (hn : 1 ≤ n) : ∀ {k j : Nat}, j < k → (leastK n w k).1 ≤ genusT n w (sgT n j)
  | k + 1, j, hj => by
    by_cases h : (leastK n w k).2 = [] ∨ genusT n w (sgT n k) < (leastK n w k).1
    · rw [leastK_yes h]
      by_cases e : j = k
      · subst e; exact Int.le_refl _
      · have hk : 1 ≤ k := by omega
        obtain ⟨i, _, he⟩ := leastK_in (w := w) hn hk
        have h1 := leastK_le (w := w) hn (k := k) (j := j) (by omega)
        rcases h with h | h
        · rw [he] at h
          have := congrArg List.length h
          rw [sgT_len] at this; simp at this; omega
        · exact Int.le_trans (Int.le_of_lt h) h1
    · rw [leastK_no h]
      by_cases e : j = k
      · subst e
        exact Int.not_lt.1 fun hl => h (.inr hl)
      · exact leastK_le hn (by omega)
theorem leastT_in {n : Nat} {w : List Int} (hn : 1 ≤ n) : ∃ j, j < 2 ^ n ∧ leastT n w = (genusT n w (sgT n j), sgT n j) := leastK_in hn Nat.one_le_two_pow
theorem leastT_le {n : Nat} {w : List Int} (hn : 1 ≤ n) {j : Nat} (hj : j < 2 ^ n) : (leastT n w).1 ≤ genusT n w (sgT n j) := leastK_le hn hj
/-- All signs are tried. -/
theorem sgT_of {n : Nat} : ∀ {s : List Int}, s.length = n → s.all (fun x => decide (x = 1) || decide (x = -1)) = true → ∃ j, j < 2 ^ n ∧ s = sgT n j := by
  intro s hl hs
  -- the number whose bits are the signs
  have key : ∀ (m : Nat) (t : List Int), t.length = m → t.all (fun x => decide (x = 1) || decide (x = -1)) = true → ∃ j, j < 2 ^ m ∧ ∀ i, i < m → t.getD i 0 = sgAt m j i := by
    intro m
    induction m with
    | zero => intro t _ _; exact ⟨0, by simp, by omega⟩
    | succ m ih =>
      intro t ht ha
      match t, ht, ha with
      | x :: r, ht, ha =>
        simp only [List.all_cons, Bool.and_eq_true, Bool.or_eq_true, decide_eq_true_eq] at ha
        obtain ⟨j, hj, hi⟩ := ih r (by simpa using ht) ha.2
        have tail : ∀ c, ∀ i, i < m → sgAt (m + 1) (2 ^ m * c + j) (i + 1) = sgAt m j i := fun c i him => by
          unfold sgAt bitT
          rw [show m + 1 - 1 - (i + 1) = m - 1 - i by omega]
          obtain ⟨b, hb⟩ : ∃ b, m = (m - 1 - i) + (b + 1) := ⟨i, by omega⟩
          have e : 2 ^ m * c = 2 ^ (m - 1 - i) * (2 * (2 ^ b * c)) := by
            conv => lhs; rw [hb]
            rw [Nat.pow_add, Nat.pow_succ, Nat.mul_assoc, Nat.mul_comm (2 ^ b) 2, Nat.mul_assoc]
          rw [e, Nat.mul_add_div (Nat.two_pow_pos _)]
          have : ∀ a b : Nat, (2 * a + b) % 2 = b % 2 := fun a b => by omega
          rw [this]
        have head : ∀ c, c ≤ 1 → bitT (2 ^ m * c + j) m = c := fun c hc => by
          unfold bitT
          rw [Nat.mul_add_div (Nat.two_pow_pos _), Nat.div_eq_of_lt hj]; omega
        rcases ha.1 with hx | hx
        · refine ⟨2 ^ m * 0 + j, by rw [Nat.pow_succ]; omega, fun i hi' => ?_⟩
          match i with
          | 0 => 
            show x = sgAt (m + 1) _ 0
            unfold sgAt
            rw [show m + 1 - 1 - 0 = m by omega, head 0 (by omega), hx]; rfl
          | i + 1 => rw [tail 0 i (by omega)]; exact hi i (by omega)
        · refine ⟨2 ^ m * 1 + j, by rw [Nat.pow_succ]; omega, fun i hi' => ?_⟩
          match i with
          | 0 =>
            show x = sgAt (m + 1) _ 0
            unfold sgAt
            rw [show m + 1 - 1 - 0 = m by omega, head 1 (by omega), hx]; rfl
          | i + 1 => rw [tail 1 i (by omega)]; exact hi i (by omega)
  obtain ⟨j, hj, hi⟩ := key n s hl hs
  refine ⟨j, hj, ?_⟩
  refine List.ext_getElem (by rw [sgT_len]; exact hl) fun i h1 h2 => ?_
  have h3 := hi i (by omega)
  have h4 := sgT_get (n := n) (k := j) (i := i) (by omega)
  simp only [List.getD_eq_getElem?_getD, List.getElem?_eq_getElem h1, List.getElem?_eq_getElem h2, Option.getD_some] at h3 h4
  rw [h3, h4]
/-- The least genus of a word is the least over all lists of signs. -/
theorem leastT_min {n : Nat} {w s : List Int} (hn : 1 ≤ n) (hl : s.length = n) (hs : s.all (fun x => decide (x = 1) || decide (x = -1)) = true) : (leastT n w).1 ≤ genusT n w s := by
  obtain ⟨j, hj, e⟩ := sgT_of hl hs
  rw [e]; exact leastT_le hn hj
end Go.Scr
