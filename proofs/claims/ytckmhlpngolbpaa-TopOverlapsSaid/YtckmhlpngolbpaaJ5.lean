/- Joined of: Ha6 H1 Tp1 Tp2 Ha11 Tp3 Tp4 Ha13 Tp5 To1 Vc32 Vc34 Vc35 Vc36 Vc45 E1. No condition. -/
import Derived.Test.YtckmhlpngolbpaaJ4
set_option linter.unusedVariables false
set_option linter.unusedSimpArgs false
namespace Go.Sh
end Go.Sh
namespace Go.Proofs.Ytckmhlpngolbpaa
open Int renaming reduceToNat → zr, reduceTDiv → zd, reduceTMod → zm
open Go Go.Vc Go.Sh
abbrev JT : Ty := .cons (.int .i64) (.cons (.int .i64) (.cons (.int .i64) (.cons (.int .i64) .nil)))
abbrev OT : Ty := .cons (.int .i64) (.cons (.int .i64) .nil)
abbrev NT : Ty := .cons (.int .i64) (.cons (.int .i64) (.cons (.int .i64) (.cons (.int .i64) (.cons (.int .i64) (.cons (.int .i64) .nil)))))
abbrev I64 (n : Int) : SV := .lit (.int .i64 n)
theorem app_le {a b N : Nat} (hb : b = 1) (h : a + 1 ≤ N) : a + b ≤ N := by omega
theorem zL : (∀ {α : Type} {a : α} {n : Nat}, (List.replicate n a).length = n) ∧ (∀ {α : Type} {l : List α} {i : Nat} {a : α}, (l.set i a).length = l.length) ∧ (∀ {α : Type} {l m : List α}, (l ++ m).length = l.length + m.length) ∧ (∀ {α : Type} {a : α} {l : List α}, (a :: l).length = l.length + 1) ∧ ∀ {α : Type}, ([] : List α).length = 0 :=
 ⟨List.length_replicate, List.length_set, List.length_append, List.length_cons, List.length_nil⟩
theorem zSH : (∀ (xs : List Jb) (i : Nat), @List.getD JT.T xs i JT.dflt = @List.getD Jb xs i J0) ∧ (∀ (xs : List Jb), @List.length JT.T xs = @List.length Jb xs) ∧
  (∀ (xs : List Od) (i : Nat), @List.getD OT.T xs i OT.dflt = @List.getD Od xs i O0) ∧ (∀ (xs : List Od), @List.length OT.T xs = @List.length Od xs) ∧
  (∀ (xs : List Nd) (i : Nat), @List.getD NT.T xs i NT.dflt = @List.getD Nd xs i N0) ∧ ∀ (xs : List Nd), @List.length NT.T xs = @List.length Nd xs :=
 ⟨fun _ _ => rfl, fun _ => rfl, fun _ _ => rfl, fun _ => rfl, fun _ _ => rfl, fun _ => rfl⟩
structure Bd (l : List Jb) : Prop where
 len : l.length ≤ 100
 rg : ∀ m, m < l.length → (0 ≤ jf l m ∧ jf l m ≤ 100) ∧ (0 ≤ jt l m ∧ jt l m ≤ 100) ∧ (0 ≤ jl l m ∧ jl l m ≤ 100) ∧ 0 ≤ jp l m ∧ jp l m ≤ 100
theorem zA : (type_of% zHB) ∧ (type_of% zSH) := ⟨zHB, zSH⟩
theorem zb {p : Prop} (h : p := by first | (with_reducible rfl) | omega | rfl | exact Or.inl rfl | exact Or.inr rfl | exact of_decide_eq_true rfl | exact Path.imp_of (of_decide_eq_true rfl) | ((try simp only [zr, zd, zm, minL, maxL, pickB, zA, InK, Path.imp, zL] at *); omega) | (refine app_le rfl ?_; omega) | fail) : p := h
theorem zc {p : Prop} (h : p := by first | (with_reducible rfl) | omega | rfl | ((try simp only [zr, zd, zm, minL, maxL, pickB, zA, InK, Path.imp, zL] at *); omega) | fail) : p := h
theorem zi {p : Prop} (h : p := by first | exact trivial | exact ⟨rfl, trivial⟩ | (refine ⟨?_, trivial⟩; dsimp only; simp only [zr, zd, zm, minL, maxL, pickB, zA]; omega) | (refine ⟨?_, trivial⟩; dsimp only; (try simp only [zr, zd, zm, minL, maxL, pickB, zA]); (simp_all; done)) | (refine ⟨?_, trivial⟩; dsimp only; (simp only [zr, zd, zm, minL, maxL, pickB, zA]; done)) | (refine ⟨?_, trivial⟩; dsimp only; (simp; done)) | fail) : p := h
theorem zj {p : Prop} (h : p := by first | (intro h; have h := h.1; dsimp only at h; first | (exact Bool.noConfusion h) | (simp only [zr, zd, zm, minL, maxL, pickB, zA] at h; omega) | ((try simp only [zr, zd, zm, minL, maxL, pickB, zA] at h); (simp_all; done))) | fail) : p := h
theorem nd_rg {f t n p a b : Int} (hn : 0 ≤ n ∧ n ≤ 100) (hp : 0 ≤ p ∧ p ≤ 100) (ha : 0 ≤ a ∧ a ≤ b ∧ b ≤ 100) : 0 ≤ p * ndT f t n a b ∧ p * ndT f t n a b ≤ 10000 := by
 have h0 : 0 ≤ ndT f t n a b ∧ ndT f t n a b ≤ 100 := by unfold ndT; omega
 refine ⟨Int.mul_nonneg hp.1 h0.1, ?_⟩
 have := Int.mul_le_mul hp.2 h0.2 h0.1 (by omega)
 omega
theorem need_at {f t n p a b : Int} (hf : 0 ≤ f ∧ f ≤ 100) (ht : 0 ≤ t ∧ t ≤ 100) (hn : 0 ≤ n ∧ n ≤ 100) (hp : 0 ≤ p ∧ p ≤ 100) (ha : 0 ≤ a ∧ a ≤ b ∧ b ≤ 100) :
  FnAt Try.prog false 66 [.agg [I64 f, I64 t, I64 n, I64 p], I64 a, I64 b] (.lit (.int .i64 (p * ndT f t n a b))) [] := by
 have e : minL n [b - a, maxL 0 [f + n - a], maxL 0 [b - t + n]] = ndT f t n a b := by simp only [minL, maxL, ndT]; omega
 have hr := nd_rg (f := f) (t := t) hn hp ha
 have hik : InK .i64 (p * minL n [b - a, maxL 0 [f + n - a], maxL 0 [b - t + n]]) := by rw [e]; simp only [InK]; omega
 refine FnAt.of_body tys_ok Try.func66 (by rfl) rfl Try.ntmps66 (by rw [Try.results66]) (by simp) ?_
 repeat' (first
 | refine W.seq ?_
 | refine W.block ?_
 | (refine W.region tys_ok [] ?_; conv => whnf)
 | (refine W.drawAll tys_ok [] mixed rfl ?_; conv => whnf)
 | (refine W.ret ?_; conv => whnf)
 | (refine W.skip ?_; conv => whnf)
 | (refine W.exit ?_; conv => whnf)
 | (refine W.cond rfl (fun hb => ?_) (fun hb => ?_) <;> (try simp only [zr, zd, zm, minL, maxL, pickB, zA] at hb) <;> (try (first | (cases hb; done) | exact absurd hb (by decide) | (exfalso; omega))))
 | ((with_reducible refine And.intro ?_ ?_); exact zc; conv => whnf)
 | ((with_reducible refine And.intro (Side.out ?_) ?_); rotate_left; (conv => whnf))
 | ((first | refine retF1 ?_ | refine retF2 ?_) <;> (conv => whnf) <;> repeat' (first
 | exact trivial
 | (with_reducible rfl)
 | ((with_reducible refine And.intro ?_ ?_) <;> conv => whnf)
 | omega
 | rfl
 | (refine congrArg (SV.arr _) ?_)
 | (refine congrArg (Value.int _) ?_)
 | (refine congrArg Value.bool ?_)))); all_goals (try unfold Side)
 all_goals try exact hik
 all_goals try (repeat' (first | exact zb | with_reducible refine And.intro ?_ ?_))
 all_goals rw [e]
end Go.Proofs.Ytckmhlpngolbpaa
namespace Go.Tp
def sumN (f : Nat → Nat) : Nat → Nat
 | 0 => 0
 | k + 1 => sumN f k + f k
def Wy (al : Nat → Nat → Bool) (n : Nat) : Nat → Nat → Nat
 | 0, _ => 1
 | f + 1, u => sumN (fun j => if !u.testBit j && al (n - (f + 1)) j then Wy al n f (u ||| 2 ^ j) else 0) n
variable {al : Nat → Nat → Bool} {n : Nat}
def fstJ (p : Nat → Bool) : Nat → Nat → Option Nat
 | 0, _ => none
 | k + 1, j => if p j = true then some j else fstJ p k (j + 1)
def takeB (al : Nat → Nat → Bool) (n f u j : Nat) : Bool := !u.testBit j && al (n - (f + 1)) j && decide (0 < Wy al n f (u ||| 2 ^ j))
def gl (al : Nat → Nat → Bool) (n : Nat) : Nat → Nat → List Nat
 | 0, _ => []
 | f + 1, u => match fstJ (takeB al n f u) n 0 with
  | some j => j :: gl al n f (u ||| 2 ^ j)
  | none => []
theorem bit_or {u j k : Nat} : (u ||| 2 ^ j).testBit k = (u.testBit k || decide (j = k)) := by
 rw [Nat.testBit_or, Nat.testBit_two_pow]
def nb (al : Nat → Nat → Bool) (R : List Nat) (p : Nat → Bool) (c : Nat) : Bool := R.any fun i => p i && al i c
end Go.Tp
namespace Go.Sh
def ovB (P : Int) (l : List Jb) : Bool := match overF P l with
 | some _ => true
 | none => false
def JobOk (j : Jb) : Prop := 0 ≤ j.1 ∧ j.2.1 ≤ 24 ∧ 1 ≤ j.2.2.1 ∧ j.2.2.1 ≤ j.2.1 - j.1 ∧ 1 ≤ j.2.2.2.1 ∧ j.2.2.2.1 ≤ 20
def OrdOk (n : Nat) (o : Od) : Prop := 0 ≤ o.1 ∧ o.1 < n ∧ 0 ≤ o.2.1 ∧ o.2.1 < n ∧ o.1 ≠ o.2.1
structure VS (P : Int) (l : List Jb) (os : List Od) : Prop where
 pw : 1 ≤ P ∧ P ≤ 20
 ln : 1 ≤ l.length ∧ l.length ≤ 6
 lo : os.length ≤ 20
 rg : ∀ m, m < l.length → JobOk (l.getD m J0)
 od : ∀ m, m < os.length → OrdOk l.length (os.getD m O0)
noncomputable def validB (P : Int) (l : List Jb) (os : List Od) : Bool := open Classical in decide (VS P l os)
theorem validB_yes {P : Int} {l : List Jb} {os : List Od} (h : VS P l os) : validB P l os = true := by classical exact decide_eq_true h
theorem validB_no {P : Int} {l : List Jb} {os : List Od} (h : ¬ VS P l os) : validB P l os = false := by classical exact decide_eq_false h
theorem VS.pre {P : Int} {l : List Jb} {os : List Od} (h : VS P l os) : Pre l os 0 := by
 refine ⟨fun m hm => by omega, fun m hm => ?_, fun o ho => ?_⟩
 · have := h.rg m hm
   unfold JobOk at this
   unfold jf jt jl jp
   omega
 · obtain ⟨i, hi, e⟩ := List.getElem_of_mem ho
   have := h.od i hi
   rw [List.getD_eq_getElem?_getD, List.getElem?_eq_getElem hi, Option.getD_some, e] at this
   unfold OrdOk at this
   omega
open Go.Tp
def zN (c : List Nat) : List Int := c.map (fun x : Nat => (x : Int))
theorem zN_len {c : List Nat} : (zN c).length = c.length := by simp [zN]
theorem zN_get {c : List Nat} {i : Nat} : (zN c).getD i 0 = ((c.getD i 0 : Nat) : Int) := by
 unfold zN
 rw [List.getD_eq_getElem?_getD, List.getElem?_map, List.getD_eq_getElem?_getD]
 cases c[i]? <;> rfl
theorem sum_two {f : Nat → Int} (h0 : ∀ i, 0 ≤ f i) {a b : Nat} (hab : a < b) : ∀ {k : Nat}, b < k → f a + f b ≤ sumZ f k
 | k + 1, h => by
  rw [sumZ]
  by_cases e : b = k
  · subst e
    have : f a ≤ sumZ f b := by
     have one : ∀ {k : Nat}, a < k → f a ≤ sumZ f k := by
      intro k
      induction k with
      | zero => intro h; omega
      | succ k ih =>
       intro h
       rw [sumZ]
       have h2 := h0 k
       by_cases e : a = k
       · subst e
         have : 0 ≤ sumZ f a := by
          clear ih h h2 hab
          induction a with
          | zero => simp [sumZ]
          | succ a ih => rw [sumZ]; have := h0 a; omega
         omega
       · have := ih (by omega); omega
     exact one hab
    omega
  · have := sum_two h0 hab (k := k) (by omega)
    have := h0 k
    omega
theorem sum_one {f : Nat → Int} (h : ∀ i, f i = 0 ∨ f i = 1) : ∀ {k : Nat}, (∀ i j, i < k → j < k → f i = 1 → f j = 1 → i = j) → sumZ f k ≤ 1 ∧ ((∀ i, i < k → f i = 0) → sumZ f k = 0)
 | 0, _ => by simp [sumZ]
 | k + 1, hu => by
  obtain ⟨h1, h2⟩ := sum_one h (k := k) fun i j hi hj => hu i j (by omega) (by omega)
  rw [sumZ]
  refine ⟨?_, fun hz => by rw [h2 fun i hi => hz i (by omega), hz k (by omega)]; rfl⟩
  rcases h k with e | e
  · omega
  · have : sumZ f k = 0 := h2 fun i hi => by
     rcases h i with e2 | e2
     · exact e2
     · have := hu i k (by omega) (by omega) e2 e; omega
    omega
variable {l : List Jb}
end Go.Sh
namespace Go.Tp
open Go.Sh
variable {al : Nat → Nat → Bool} {n : Nat}
end Go.Tp
namespace Go.Sh
def fxK (l : List Jb) (s : List Int) : Nat → List Jb
 | 0 => l
 | i + 1 => fixT (fxK l s i) i (s.getD i 0)
theorem fx_len {l : List Jb} {s : List Int} : ∀ {i : Nat}, (fxK l s i).length = l.length
 | 0 => rfl
 | i + 1 => by rw [fxK, fix_len, fx_len]
theorem fx_lp {l : List Jb} {s : List Int} : ∀ {i : Nat}, i ≤ l.length → ∀ m, jl (fxK l s i) m = jl l m ∧ jp (fxK l s i) m = jp l m
 | 0, _, m => ⟨rfl, rfl⟩
 | i + 1, h, m => by
  have h1 := fx_lp (l := l) (s := s) (i := i) (by omega) m
  have hi : i < (fxK l s i).length := by rw [fx_len]; omega
  rw [fxK, fix_l hi, fix_p hi]; exact h1
theorem fx_ft {l : List Jb} {s : List Int} : ∀ {i : Nat}, i ≤ l.length → ∀ m, jf (fxK l s i) m = (if m < i then s.getD m 0 else jf l m) ∧ jt (fxK l s i) m = if m < i then s.getD m 0 + jl l m else jt l m
 | 0, _, m => ⟨by rw [if_neg (by omega)]; rfl, by rw [if_neg (by omega)]; rfl⟩
 | i + 1, h, m => by
  have h1 := fx_ft (l := l) (s := s) (i := i) (by omega) m
  have h2 := fx_lp (l := l) (s := s) (i := i) (by omega) i
  have hi : i < (fxK l s i).length := by rw [fx_len]; omega
  rw [fxK, fix_f hi, fix_t hi]
  by_cases e : m = i
  · subst e
    rw [if_pos rfl, if_pos rfl, if_pos (by omega), if_pos (by omega), h2.1]
    exact ⟨rfl, rfl⟩
  · rw [if_neg e, if_neg e, h1.1, h1.2]
    by_cases g : m < i
    · rw [if_pos g, if_pos g, if_pos (by omega), if_pos (by omega)]; exact ⟨rfl, rfl⟩
    · rw [if_neg g, if_neg g, if_neg (by omega), if_neg (by omega)]; exact ⟨rfl, rfl⟩
theorem fx_get {l : List Jb} {s : List Int} : ∀ {i : Nat}, ∀ m, i ≤ m → (fxK l s i).getD m J0 = l.getD m J0
 | 0, m, _ => rfl
 | i + 1, m, h => by
  rw [fxK, fixT, List.getD_eq_getElem?_getD, List.getElem?_set, if_neg (by omega), ← List.getD_eq_getElem?_getD]
  exact fx_get m (by omega)
theorem fx_needs {l : List Jb} {s : List Int} (hs : s.length = l.length) (hp : ∀ i, i < l.length → 0 ≤ jl l i) {t : Int} : needsT (fxK l s l.length) t (t + 1) = loadT l s t := by
 unfold needsT loadT
 rw [fx_len, hs]
 refine sumZ_congr fun i hi => ?_
 obtain ⟨h1, h2⟩ := fx_ft (l := l) (s := s) (Nat.le_refl _) i
 obtain ⟨h3, h4⟩ := fx_lp (l := l) (s := s) (Nat.le_refl _) i
 have h5 := hp i hi
 unfold needT
 rw [h1, h2, h3, h4, if_pos hi, if_pos hi]
 congr 1
 unfold ndT onT
 split <;> omega
theorem fx_late {l : List Jb} {s : List Int} {o : Od} (h1 : o.1.toNat < l.length) (h2 : o.2.1.toNat < l.length) : lateT (fxK l s l.length) o = false ↔ s.getD o.1.toNat 0 + jl l o.1.toNat ≤ s.getD o.2.1.toNat 0 := by
 obtain ⟨a1, a2⟩ := fx_ft (l := l) (s := s) (Nat.le_refl _) o.1.toNat
 obtain ⟨a3, a4⟩ := fx_lp (l := l) (s := s) (Nat.le_refl _) o.1.toNat
 obtain ⟨b1, b2⟩ := fx_ft (l := l) (s := s) (Nat.le_refl _) o.2.1.toNat
 obtain ⟨b3, b4⟩ := fx_lp (l := l) (s := s) (Nat.le_refl _) o.2.1.toNat
 unfold lateT
 rw [a1, a3, b2, b3, if_pos h1, if_pos h2, decide_eq_false_iff_not]
 omega
noncomputable def fitB (P : Int) (l : List Jb) (os : List Od) (s : List Int) : Bool := open Classical in decide (Fit P l os s)
theorem fitB_iff {P : Int} {l : List Jb} {os : List Od} {s : List Int} : fitB P l os s = true ↔ Fit P l os s := by
 classical
 unfold fitB; rw [decide_eq_true_eq]
theorem fitB_yes {P : Int} {l : List Jb} {os : List Od} {s : List Int} (h : Fit P l os s) : fitB P l os s = true := fitB_iff.2 h
theorem fitB_no {P : Int} {l : List Jb} {os : List Od} {s : List Int} (h : ¬ Fit P l os s) : fitB P l os s = false := by
 cases e : fitB P l os s with
 | false => rfl
 | true => exact absurd (fitB_iff.1 e) h
theorem fit_of {P : Int} {l : List Jb} {os : List Od} {s : List Int} (hs : s.length = l.length) (h1 : ∀ i, i < l.length → jf l i ≤ s.getD i 0 ∧ s.getD i 0 ≤ jt l i - jl l i) (h2 : ∀ t : Nat, t < 24 → loadT l s t ≤ P)
  (h3 : ∀ i, i < os.length → s.getD (os.getD i O0).1.toNat 0 + jl l (os.getD i O0).1.toNat ≤ s.getD (os.getD i O0).2.1.toNat 0) : Fit P l os s := ⟨hs, h1, h2, fun o ho => by
 obtain ⟨i, hi, e⟩ := List.getElem_of_mem ho
 have h4 : os.getD i O0 = o := by rw [List.getD_eq_getElem?_getD, List.getElem?_eq_getElem hi, Option.getD_some, e]
 have := h3 i hi
 rwa [h4] at this⟩
theorem fit_ord {P : Int} {l : List Jb} {os : List Od} {s : List Int} (h : Fit P l os s) {i : Nat} (hi : i < os.length) : s.getD (os.getD i O0).1.toNat 0 + jl l (os.getD i O0).1.toNat ≤ s.getD (os.getD i O0).2.1.toNat 0 :=
 h.ord (os.getD i O0) (by rw [List.getD_eq_getElem?_getD, List.getElem?_eq_getElem hi]; exact List.getElem_mem _)
end Go.Sh
namespace Go.Tp
theorem shl_val (j : Nat) : (1 : Int) * (2 : Int) ^ ((j : Int).toNat) = ((2 ^ j : Nat) : Int) := by
 rw [Int.one_mul, Int.toNat_natCast, Int.natCast_pow]; rfl
theorem or_lt {u j n : Nat} (hu : u < 2 ^ n) (hj : j < n) : u ||| 2 ^ j < 2 ^ n := Nat.or_lt_two_pow hu (Nat.pow_lt_pow_right (by decide) hj)
variable {al : Nat → Nat → Bool} {n : Nat}
end Go.Tp
namespace Go.Ov
open Go.Sh Go.Tp
theorem and_pow (s j : Nat) : (s &&& 2 ^ j = 0) ↔ s.testBit j = false := by
 constructor
 · intro h
   have := congrArg (fun x => x.testBit j) h
   simpa [Nat.testBit_and, Nat.testBit_two_pow_self] using this
 · intro h
   apply Nat.eq_of_testBit_eq
   intro i
   rw [Nat.testBit_and, Nat.testBit_two_pow, Nat.zero_testBit]
   by_cases e : j = i
   · subst e; rw [h]; rfl
   · rw [decide_eq_false e, Bool.and_false]
def lsT (s k : Nat) : List Nat := (List.range k).filter fun i => s.testBit i
theorem lsT_yes {s k : Nat} (h : s.testBit k = true) : lsT s (k + 1) = lsT s k ++ [k] := by
 unfold lsT; rw [List.range_succ, List.filter_append, List.filter_cons, if_pos h]; rfl
theorem lsT_no {s k : Nat} (h : s.testBit k = false) : lsT s (k + 1) = lsT s k := by
 unfold lsT; rw [List.range_succ, List.filter_append, List.filter_cons, if_neg (by rw [h]; decide)]; simp
theorem lsT_mem {s k i : Nat} : i ∈ lsT s k ↔ i < k ∧ s.testBit i = true := by
 unfold lsT; rw [List.mem_filter, List.mem_range]
theorem lsT_len {s k : Nat} : (lsT s k).length ≤ k := by
 unfold lsT; exact Nat.le_trans (List.length_filter_le _ _) (by simp)
def orL (B : List Nat) : List Nat → Nat → Nat
 | _, 0 => 0
 | l, k + 1 => orL B l k ||| B.getD (l.getD k 0) 0
theorem orL_bit {B l : List Nat} {j : Nat} : ∀ {k : Nat}, (orL B l k).testBit j = true ↔ ∃ m, m < k ∧ (B.getD (l.getD m 0) 0).testBit j = true
 | 0 => by simp [orL]
 | k + 1 => by
  rw [orL, Nat.testBit_or, Bool.or_eq_true, orL_bit (k := k)]
  constructor
  · rintro (⟨m, h1, h2⟩ | h)
    · exact ⟨m, by omega, h2⟩
    · exact ⟨k, by omega, h⟩
  · rintro ⟨m, h1, h2⟩
    by_cases e : m = k
    · subst e; exact .inr h2
    · exact .inl ⟨m, by omega, h2⟩
def attT (B : List Nat) (s : Nat) : Nat := orL B (lsT s 12) (lsT s 12).length
theorem attT_bit {B : List Nat} {s j : Nat} : (attT B s).testBit j = true ↔ ∃ i, i < 12 ∧ s.testBit i = true ∧ (B.getD i 0).testBit j = true := by
 unfold attT
 rw [orL_bit]
 constructor
 · rintro ⟨m, h1, h2⟩
   have h3 : (lsT s 12).getD m 0 ∈ lsT s 12 := by
    rw [List.getD_eq_getElem?_getD, List.getElem?_eq_getElem h1]; exact List.getElem_mem _
   obtain ⟨h4, h5⟩ := lsT_mem.1 h3
   exact ⟨_, h4, h5, h2⟩
 · rintro ⟨i, h1, h2, h3⟩
   obtain ⟨m, hm, he⟩ := List.getElem_of_mem (lsT_mem.2 ⟨h1, h2⟩)
   refine ⟨m, hm, ?_⟩
   rw [List.getD_eq_getElem?_getD (l := lsT s 12), List.getElem?_eq_getElem hm]
   rw [← he] at h3
   exact h3
def setK (p : Nat → Bool) : Nat → Nat
 | 0 => 0
 | k + 1 => if p k = true then setK p k ||| 2 ^ k else setK p k
theorem setK_bit {p : Nat → Bool} {i : Nat} : ∀ {k : Nat}, (setK p k).testBit i = (decide (i < k) && p i)
 | 0 => by simp [setK]
 | k + 1 => by
  rw [setK]
  split
  · rename_i h
    rw [bit_or, setK_bit (k := k)]
    by_cases e : i = k
    · subst e; simp [h]
    · rw [show decide (i < k + 1) = decide (i < k) by simp only [decide_eq_decide]; omega]
      simp [e, Ne.symm e]
  · rename_i h
    rw [setK_bit (k := k)]
    by_cases e : i = k
    · subst e; simp [h]
    · rw [show decide (i < k + 1) = decide (i < k) by simp only [decide_eq_decide]; omega]
theorem setK_lt {p : Nat → Bool} {n : Nat} : ∀ {k : Nat}, k ≤ n → setK p k < 2 ^ n
 | 0, _ => Nat.two_pow_pos n
 | k + 1, h => by
  rw [setK]
  split
  · exact or_lt (setK_lt (k := k) (by omega)) (by omega)
  · exact setK_lt (k := k) (by omega)
def andN (a b : Nat) : Nat := (a &&& b) ^^^ a
theorem andN_bit {a b i : Nat} : (andN a b).testBit i = (a.testBit i && !b.testBit i) := by
 unfold andN; rw [Nat.testBit_xor, Nat.testBit_and]
 cases a.testBit i <;> cases b.testBit i <;> rfl
theorem zero_iff {a : Nat} : a = 0 ↔ ∀ i, a.testBit i = false := by
 constructor
 · rintro rfl i; exact Nat.zero_testBit i
 · intro h; exact Nat.eq_of_testBit_eq fun i => by rw [h i, Nat.zero_testBit]
def defT (B F : List Nat) (n s : Nat) : Nat := setK (fun i => decide (andN (F.getD i 0) (attT B s) = 0)) n
end Go.Ov
namespace Go.Vc
def RegW (P : Program) (n : Nat) (ops : Array Oper) (i : Nat) (Γ : Sy) (Q : Exit → Sy → Prop) : Prop :=
 ∀ (c : Cx) (g : Nat → Value) (a : Act) (w : World), c.n = n → St c Γ g a w → wpOps P ops (fun e a' w' => ∃ Γ' g', Q e Γ' ∧ St c Γ' g' a' w') (List.range' i (ops.size - i)) a w
theorem RegW.skip {P : Program} {n : Nat} {Q : Exit → Sy → Prop} {Γ : Sy} {ops : Array Oper} {i : Nat} {o : Oper} {G : Path} {t : Nat} (ho : ops[i]? = some o) (hG : guardOf (dstsOf ops) Γ o.guard = some G) (hno : ¬ G.ok) (ht : o.dst = some t) (hlt : Nat.blt t n = true) (A : AV)
  (h : RegW P n ops (i + 1) (Γ.putB t (gd' G A)) Q) : RegW P n ops i Γ Q := by
 intro c g a w hn hst
 subst hn
 have hi : i < ops.size := (Array.getElem?_eq_some_iff.1 ho).1
 have e : List.range' i (ops.size - i) = i :: List.range' (i + 1) (ops.size - (i + 1)) := by
  rw [show ops.size - i = ops.size - (i + 1) + 1 by omega, List.range'_succ]
 rw [e, wpOps_cons]
 unfold wpOp
 rw [ho]
 dsimp only
 rw [if_neg (fun h => hno ((guardOf.wanted (ops := ops) hst hG).1 h)), ht]
 refine h c g _ w rfl ((hst.put (Nat.le_of_ble_eq_true hlt) (A := gd' G A) ?_).congr (fun _ => rfl) (fun _ => rfl))
 cases G with
 | nil => exact absurd trivial hno
 | cons x r => exact ⟨fun h => absurd h hno, fun _ => rfl⟩
abbrev Phc := List (List Nat × Nat × Nat × Option Sy)
def plainPh : Phc → List (List Nat × Nat × Nat)
 | [] => []
 | x :: r => (x.1, x.2.1, x.2.2.1) :: plainPh r
end Go.Vc
namespace Go.Proofs.Ytckmhlpngolbpaa
open Int renaming reduceToNat → zr, reduceTDiv → zd, reduceTMod → zm
open Go Go.Vc Go.Sh Go.Tp Go.Ov
theorem two12 {n : Nat} (h : n ≤ 12) : 2 ^ n ≤ 4096 := Nat.pow_le_pow_right (n := 2) (by decide) h
theorem inU {x : Nat} (h : x ≤ 65535) : InK .u16 (x : Int) := ⟨by omega, by omega⟩
theorem one_at {i : Nat} (hi : i ≤ 12) : FnAt Try.prog false 58 [I64 i] (.lit (.int .u16 ((2 ^ i : Nat) : Int))) [] := by
 have h1 := two12 hi
 have hsh := shl_val i
 have q1 : 0 ≤ (i : Int) ∧ (i : Int).toNat ≤ IntKind.u16.bits ∧ InK .u16 ((1 : Int) * (2 : Int) ^ ((i : Int).toNat)) := ⟨by omega, by show (i : Int).toNat ≤ 16; omega, by rw [hsh]; exact inU (by omega)⟩
 refine FnAt.of_body tys_ok Try.func58 (by rfl) rfl Try.ntmps58 (by rw [Try.results58]) (by simp) ?_
 repeat' (first
 | refine W.seq ?_
 | refine W.block ?_
 | (refine W.region tys_ok [] ?_; conv => whnf)
 | (refine W.drawAll tys_ok [] mixed rfl ?_; conv => whnf)
 | (refine W.ret ?_; conv => whnf)
 | (refine W.skip ?_; conv => whnf)
 | (refine W.exit ?_; conv => whnf)
 | (refine W.cond rfl (fun hb => ?_) (fun hb => ?_) <;> (try simp only [zr, zd, zm, minL, maxL, pickB, zA] at hb) <;> (try (first | (cases hb; done) | exact absurd hb (by decide) | (exfalso; omega) | (omega))))
 | ((with_reducible refine And.intro ?_ ?_); exact zc; conv => whnf)
 | ((with_reducible refine And.intro (Side.out ?_) ?_); rotate_left; (conv => whnf))
 | ((first | refine retF1 ?_ | refine retF2 ?_) <;> (conv => whnf) <;> repeat' (first
 | exact trivial
 | (with_reducible rfl)
 | ((with_reducible refine And.intro ?_ ?_) <;> conv => whnf)
 | omega
 | rfl
 | (refine congrArg (SV.arr _) ?_)
 | (refine congrArg (Value.int _) ?_)
 | (refine congrArg Value.bool ?_)))); all_goals (try unfold Side)
 all_goals try (repeat' (first | exact zb | with_reducible refine And.intro ?_ ?_))
 all_goals first | exact q1 | exact hsh | skip
theorem zN_app {a : List Nat} {j : Nat} : zN a ++ [(j : Int)] = zN (a ++ [j]) := by unfold zN; rw [List.map_append]; rfl
theorem and_int (s j : Nat) : ((((s : Int).toNat &&& ((2 ^ j : Nat) : Int).toNat : Nat)) : Int) = ((s &&& 2 ^ j : Nat) : Int) := by
 rw [Int.toNat_natCast, Int.toNat_natCast]
theorem and_le' (s j : Nat) (h : s ≤ 65535) : s &&& 2 ^ j ≤ 65535 := Nat.le_trans Nat.and_le_left h
set_option maxHeartbeats 4000000 in
theorem list_at {s : Nat} (hs : s < 65536) : FnAt Try.prog false 36 [.lit (.int .u16 (s : Int))] (.st true (.arr (.int .i64) (zN (lsT s 12) : List Int))) [] := by
 refine FnAt.of_body tys_ok Try.func36 (by rfl) rfl Try.ntmps36 (by rw [Try.results36]) (by simp) ?_
 repeat' (first
 | refine W.seq ?_
 | refine W.block ?_
 | (refine W.region tys_ok [] ?_; conv => whnf)
 | (refine W.drawAll tys_ok [] mixed rfl ?_; conv => whnf)
 | (refine W.ret ?_; conv => whnf)
 | (refine W.skip ?_; conv => whnf)
 | (refine W.exit ?_; conv => whnf)
 | (refine W.cond rfl (fun hb => ?_) (fun hb => ?_) <;> (try simp only [zr, zd, zm, minL, maxL, pickB, zA] at hb) <;> (try (first | (cases hb; done) | exact absurd hb (by decide) | (exfalso; omega) | (omega))))
 | ((with_reducible refine And.intro ?_ ?_); exact zc; conv => whnf)
 | ((with_reducible refine And.intro (Side.out ?_) ?_); rotate_left; (conv => whnf))
 | ((first | refine retF1 ?_ | refine retF2 ?_) <;> (conv => whnf) <;> repeat' (first
 | exact trivial
 | (with_reducible rfl)
 | ((with_reducible refine And.intro ?_ ?_) <;> conv => whnf)
 | omega
 | rfl
 | (refine congrArg (SV.arr _) ?_)
 | (refine congrArg (Value.int _) ?_)
 | (refine congrArg Value.bool ?_)))); all_goals (try unfold Side)
 all_goals try (repeat' (first | exact zb | with_reducible refine And.intro ?_ ?_))
 refine W.loop (fun k : Nat => ⟨[(0, (.lit (.int .u16 ((s : Nat) : Int)))), (3, .own 3000), (5, (.lit (.int .i64 (k : Int))))], [(3000, .row 3 (.int .i64) true (zN (lsT s k) : List Int))]⟩) (fun k => k ≤ 12) (fun k => 12 - k) (0) ?_ ?_
 · refine ⟨Nat.zero_le _, ?_⟩
   refine subF.ok ?_ <;> (conv => whnf) <;> repeat' (first
 | exact trivial
 | (with_reducible rfl)
 | ((with_reducible refine And.intro ?_ ?_) <;> conv => whnf)
 | omega
 | rfl
 | (refine congrArg (SV.arr _) ?_)
 | (refine congrArg (Value.int _) ?_)
 | (refine congrArg Value.bool ?_))
 · intro k hk
   by_cases hk12 : k < 12
   · have c1 := one_at (i := k) (by omega)
     have ha := and_int s k
     have h2 := two12 (n := k) (by omega)
     have q1 : 0 ≤ (s : Int) ∧ 0 ≤ ((2 ^ k : Nat) : Int) ∧ InK .u16 (s : Int) ∧ InK .u16 ((2 ^ k : Nat) : Int) := ⟨by omega, Int.natCast_nonneg _, inU (by omega), inU (by omega)⟩
     have hle := and_le' s k (by omega)
     have hb0 := and_pow s k
     have hzl : (zN (lsT s k)).length ≤ 12 := by rw [zN_len]; exact Nat.le_trans lsT_len hk
     cases ht : s.testBit k with
     | true =>
      have hn0 : s &&& 2 ^ k ≠ 0 := fun e => by rw [hb0, ht] at e; cases e
      have hst := lsT_yes ht
      have hap := zN_app (a := lsT s k) (j := k)
      repeat' (first
 | refine W.seq ?_
 | refine W.block ?_
 | (refine W.region tys_ok [] ?_; conv => whnf)
 | (refine W.drawAll tys_ok [] mixed rfl ?_; conv => whnf)
 | (refine W.ret ?_; conv => whnf)
 | (refine W.skip ?_; conv => whnf)
 | (refine W.exit ?_; conv => whnf)
 | (refine call_at (al := false) (c1) rfl rfl rfl rfl ?_; conv => whnf)
 | (refine W.cond rfl (fun hb => ?_) (fun hb => ?_) <;> (try simp only [zr, zd, zm, minL, maxL, pickB, zA] at hb) <;> (try (first | (cases hb; done) | exact absurd hb (by decide) | (exfalso; omega) | (omega))))
 | ((with_reducible refine And.intro ?_ ?_); exact zc; conv => whnf)
 | ((with_reducible refine And.intro (Side.out ?_) ?_); rotate_left; (conv => whnf))
 | ((first | refine retF1 ?_ | refine retF2 ?_) <;> (conv => whnf) <;> repeat' (first
 | exact trivial
 | (with_reducible rfl)
 | ((with_reducible refine And.intro ?_ ?_) <;> conv => whnf)
 | omega
 | rfl
 | (refine congrArg (SV.arr _) ?_)
 | (refine congrArg (Value.int _) ?_)
 | (refine congrArg Value.bool ?_)))); all_goals (try unfold Side)
      all_goals try (repeat' (first | exact zb | with_reducible refine And.intro ?_ ?_))
      all_goals first | exact Path.imp_of q1 | (show ((zN (lsT s k)).length + 1).le 4294967296; exact (by omega : (zN (lsT s k)).length + 1 ≤ 4294967296)) | skip
      refine ⟨k + 1, ⟨by omega, by omega⟩, ?_⟩
      rw [hst, ← hap]
      refine subF.ok ?_ <;> (conv => whnf) <;> repeat' (first
 | exact trivial
 | (with_reducible rfl)
 | ((with_reducible refine And.intro ?_ ?_) <;> conv => whnf)
 | omega
 | rfl
 | (refine congrArg (SV.arr _) ?_)
 | (refine congrArg (Value.int _) ?_)
 | (refine congrArg Value.bool ?_))
     | false =>
      have hn0 : s &&& 2 ^ k = 0 := hb0.2 ht
      have hst := lsT_no ht
      repeat' (first
 | refine W.seq ?_
 | refine W.block ?_
 | (refine W.region tys_ok [] ?_; conv => whnf)
 | (refine W.drawAll tys_ok [] mixed rfl ?_; conv => whnf)
 | (refine W.ret ?_; conv => whnf)
 | (refine W.skip ?_; conv => whnf)
 | (refine W.exit ?_; conv => whnf)
 | (refine call_at (al := false) (c1) rfl rfl rfl rfl ?_; conv => whnf)
 | (refine W.cond rfl (fun hb => ?_) (fun hb => ?_) <;> (try simp only [zr, zd, zm, minL, maxL, pickB, zA] at hb) <;> (try (first | (cases hb; done) | exact absurd hb (by decide) | (exfalso; omega) | (omega))))
 | ((with_reducible refine And.intro ?_ ?_); exact zc; conv => whnf)
 | ((with_reducible refine And.intro (Side.out ?_) ?_); rotate_left; (conv => whnf))
 | ((first | refine retF1 ?_ | refine retF2 ?_) <;> (conv => whnf) <;> repeat' (first
 | exact trivial
 | (with_reducible rfl)
 | ((with_reducible refine And.intro ?_ ?_) <;> conv => whnf)
 | omega
 | rfl
 | (refine congrArg (SV.arr _) ?_)
 | (refine congrArg (Value.int _) ?_)
 | (refine congrArg Value.bool ?_)))); all_goals (try unfold Side)
      all_goals try (repeat' (first | exact zb | with_reducible refine And.intro ?_ ?_))
      all_goals first | exact Path.imp_of q1 | skip
      refine ⟨k + 1, ⟨by omega, by omega⟩, ?_⟩
      rw [hst]
      refine subF.ok ?_ <;> (conv => whnf) <;> repeat' (first
 | exact trivial
 | (with_reducible rfl)
 | ((with_reducible refine And.intro ?_ ?_) <;> conv => whnf)
 | omega
 | rfl
 | (refine congrArg (SV.arr _) ?_)
 | (refine congrArg (Value.int _) ?_)
 | (refine congrArg Value.bool ?_))
   · have hke : k = 12 := by omega
     subst hke
     repeat' (first
 | refine W.seq ?_
 | refine W.block ?_
 | (refine W.region tys_ok [] ?_; conv => whnf)
 | (refine W.drawAll tys_ok [] mixed rfl ?_; conv => whnf)
 | (refine W.ret ?_; conv => whnf)
 | (refine W.skip ?_; conv => whnf)
 | (refine W.exit ?_; conv => whnf)
 | (refine W.cond rfl (fun hb => ?_) (fun hb => ?_) <;> (try simp only [zr, zd, zm, minL, maxL, pickB, zA] at hb) <;> (try (first | (cases hb; done) | exact absurd hb (by decide) | (exfalso; omega) | (omega))))
 | ((with_reducible refine And.intro ?_ ?_); exact zc; conv => whnf)
 | ((with_reducible refine And.intro (Side.out ?_) ?_); rotate_left; (conv => whnf))
 | ((first | refine retF1 ?_ | refine retF2 ?_) <;> (conv => whnf) <;> repeat' (first
 | exact trivial
 | (with_reducible rfl)
 | ((with_reducible refine And.intro ?_ ?_) <;> conv => whnf)
 | omega
 | rfl
 | (refine congrArg (SV.arr _) ?_)
 | (refine congrArg (Value.int _) ?_)
 | (refine congrArg Value.bool ?_)))); all_goals (try unfold Side)
     all_goals try (repeat' (first | exact zb | with_reducible refine And.intro ?_ ?_))
structure DS (B : List Nat) (n : Nat) : Prop where
 len : B.length = n
 lt : ∀ i, B.getD i 0 < 2 ^ n
theorem orL_lt {B l : List Nat} {n : Nat} (h : ∀ i, B.getD i 0 < 2 ^ n) : ∀ {k : Nat}, orL B l k < 2 ^ n
 | 0 => Nat.two_pow_pos n
 | k + 1 => Nat.or_lt_two_pow (orL_lt h) (h _)
theorem attT_lt {B : List Nat} {n s : Nat} (h : DS B n) : attT B s < 2 ^ n := orL_lt h.lt
theorem defT_lt {B F : List Nat} {n s : Nat} : defT B F n s < 2 ^ n := setK_lt (Nat.le_refl _)
theorem bit_hi {s n i : Nat} (hs : s < 2 ^ n) (h : s.testBit i = true) : i < n := by
 apply Classical.byContradiction
 intro hn
 rw [Nat.testBit_lt_two_pow (Nat.lt_of_lt_of_le hs (Nat.pow_le_pow_right (by decide) (by omega)))] at h
 cases h
set_option maxHeartbeats 4000000 in
theorem attacked_at {B F : List Nat} {n s : Nat} (h : DS B n) (hn : n ≤ 12) (hs : s < 2 ^ n) : FnAt Try.prog false 33 [.sadr (.agg [I64 n, .arr (.int .u16) (zN B : List Int), .arr (.int .u16) (zN F : List Int)]), .lit (.int .u16 (s : Int))] (.lit (.int .u16 ((attT B s : Nat) : Int))) [] := by
 have h2 := two12 hn
 have c1 := list_at (s := s) (by omega)
 obtain ⟨l, hl⟩ : ∃ l, l = lsT s 12 := ⟨_, rfl⟩
 have hat : attT B s = orL B l l.length := by rw [hl]; rfl
 have hm : ∀ k, k < l.length → l.getD k 0 < n := fun k hk => by
  have h3 : l.getD k 0 ∈ lsT s 12 := by rw [← hl, List.getD_eq_getElem?_getD, List.getElem?_eq_getElem hk]; exact List.getElem_mem _
  exact bit_hi hs (lsT_mem.1 h3).2
 rw [← hl] at c1
 rw [hat]
 have hzl : @List.length (Ty.int .i64).T (zN l) = l.length := zN_len
 have hzb : @List.length (Ty.int .u16).T (zN B) = n := zN_len.trans h.len
 have hll : l.length ≤ 12 := by rw [hl]; exact lsT_len
 refine FnAt.of_body tys_ok Try.func33 (by rfl) rfl Try.ntmps33 (by rw [Try.results33]) (by simp) ?_
 repeat' (first
 | refine W.seq ?_
 | refine W.block ?_
 | (refine W.region tys_ok [] ?_; conv => whnf)
 | (refine W.drawAll tys_ok [] mixed rfl ?_; conv => whnf)
 | (refine W.ret ?_; conv => whnf)
 | (refine W.skip ?_; conv => whnf)
 | (refine W.exit ?_; conv => whnf)
 | (refine call_at (al := false) (c1) rfl rfl rfl rfl ?_; conv => whnf)
 | (refine W.cond rfl (fun hb => ?_) (fun hb => ?_) <;> (try simp only [zr, zd, zm, minL, maxL, pickB, zA] at hb) <;> (try (first | (cases hb; done) | exact absurd hb (by decide) | (exfalso; omega) | (omega))))
 | ((with_reducible refine And.intro ?_ ?_); exact zc; conv => whnf)
 | ((with_reducible refine And.intro (Side.out ?_) ?_); rotate_left; (conv => whnf))
 | ((first | refine retF1 ?_ | refine retF2 ?_) <;> (conv => whnf) <;> repeat' (first
 | exact trivial
 | (with_reducible rfl)
 | ((with_reducible refine And.intro ?_ ?_) <;> conv => whnf)
 | omega
 | rfl
 | (refine congrArg (SV.arr _) ?_)
 | (refine congrArg (Value.int _) ?_)
 | (refine congrArg Value.bool ?_)))); all_goals (try unfold Side)
 all_goals try (repeat' (first | exact zb | with_reducible refine And.intro ?_ ?_))
 refine W.loop (fun k : Nat => ⟨[(0, .st false (.sadr (.agg [I64 n, .arr (.int .u16) (zN B : List Int), .arr (.int .u16) (zN F : List Int)]))), (5, (.lit (.int .u16 ((orL B l k : Nat) : Int)))), (9, .st true (.arr (.int .i64) (zN l : List Int))), (10, (.lit (.int .i64 (l.length : Int)))), (11, (.lit (.int .i64 (k : Int))))], []⟩) (fun k => k ≤ l.length) (fun k => l.length - k) (0) ?_ ?_
 · refine ⟨Nat.zero_le _, ?_⟩
   refine subF.ok ?_ <;> (conv => whnf) <;> repeat' (first
 | exact trivial
 | (with_reducible rfl)
 | ((with_reducible refine And.intro ?_ ?_) <;> conv => whnf)
 | omega
 | rfl
 | (refine congrArg (SV.arr _) ?_)
 | (refine congrArg (Value.int _) ?_)
 | (refine congrArg Value.bool ?_))
   all_goals first | exact congrArg Nat.cast hzl | skip
 · intro k hk
   by_cases hkl : k < l.length
   · have hg : (zN l).getD k 0 = ((l.getD k 0 : Nat) : Int) := zN_get
     have hmk := hm k hkl
     obtain ⟨i, hi⟩ : ∃ i, i = l.getD k 0 := ⟨_, rfl⟩
     have hst : orL B l (k + 1) = orL B l k ||| B.getD i 0 := by rw [hi]; rfl
     rw [← hi] at hg hmk
     have hgb : (zN B).getD i 0 = ((B.getD i 0 : Nat) : Int) := zN_get
     have q1 := orL_lt (l := l) h.lt (k := k)
     have q2 := h.lt i
     have q3 := orL_lt (l := l) h.lt (k := k + 1)
     rw [hst] at q3
     have hgg : (zN B).getD (Int.toNat ((zN l).getD k 0)) 0 = ((B.getD i 0 : Nat) : Int) := by rw [hg, Int.toNat_natCast]; exact hgb
     have qq : 0 ≤ ((orL B l k : Nat) : Int) ∧ 0 ≤ (zN B).getD (Int.toNat ((zN l).getD k 0)) 0 ∧ InK .u16 ((orL B l k : Nat) : Int) ∧ InK .u16 ((zN B).getD (Int.toNat ((zN l).getD k 0)) 0) ∧ InK .u16 ((bitsN .or ((orL B l k : Nat) : Int).toNat ((zN B).getD (Int.toNat ((zN l).getD k 0)) 0).toNat : Nat) : Int) := by
      rw [hgg]
      exact ⟨Int.natCast_nonneg _, Int.natCast_nonneg _, inU (by omega), inU (by omega), (inU (by omega) : InK .u16 ((orL B l k ||| B.getD i 0 : Nat) : Int))⟩
     have qe : ((bitsN .or ((orL B l k : Nat) : Int).toNat ((zN B).getD (Int.toNat ((zN l).getD k 0)) 0).toNat : Nat) : Int) = ((orL B l (k + 1) : Nat) : Int) := by
      rw [hgg, hst]; rfl
     repeat' (first
 | refine W.seq ?_
 | refine W.block ?_
 | (refine W.region tys_ok [] ?_; conv => whnf)
 | (refine W.drawAll tys_ok [] mixed rfl ?_; conv => whnf)
 | (refine W.ret ?_; conv => whnf)
 | (refine W.skip ?_; conv => whnf)
 | (refine W.exit ?_; conv => whnf)
 | (refine W.cond rfl (fun hb => ?_) (fun hb => ?_) <;> (try simp only [zr, zd, zm, minL, maxL, pickB, zA] at hb) <;> (try (first | (cases hb; done) | exact absurd hb (by decide) | (exfalso; omega) | (omega))))
 | ((with_reducible refine And.intro ?_ ?_); exact zc; conv => whnf)
 | ((with_reducible refine And.intro (Side.out ?_) ?_); rotate_left; (conv => whnf))
 | ((first | refine retF1 ?_ | refine retF2 ?_) <;> (conv => whnf) <;> repeat' (first
 | exact trivial
 | (with_reducible rfl)
 | ((with_reducible refine And.intro ?_ ?_) <;> conv => whnf)
 | omega
 | rfl
 | (refine congrArg (SV.arr _) ?_)
 | (refine congrArg (Value.int _) ?_)
 | (refine congrArg Value.bool ?_)))); all_goals (try unfold Side)
     all_goals try (repeat' (first | exact zb | with_reducible refine And.intro ?_ ?_))
     all_goals first | exact Path.imp_of qq | skip
     refine ⟨k + 1, ⟨by omega, by omega⟩, ?_⟩
     refine subF.ok ?_ <;> (conv => whnf) <;> repeat' (first
 | exact trivial
 | (with_reducible rfl)
 | ((with_reducible refine And.intro ?_ ?_) <;> conv => whnf)
 | omega
 | rfl
 | (refine congrArg (SV.arr _) ?_)
 | (refine congrArg (Value.int _) ?_)
 | (refine congrArg Value.bool ?_))
     all_goals first | exact qe | skip
   · have hke : k = l.length := by omega
     subst hke
     repeat' (first
 | refine W.seq ?_
 | refine W.block ?_
 | (refine W.region tys_ok [] ?_; conv => whnf)
 | (refine W.drawAll tys_ok [] mixed rfl ?_; conv => whnf)
 | (refine W.ret ?_; conv => whnf)
 | (refine W.skip ?_; conv => whnf)
 | (refine W.exit ?_; conv => whnf)
 | (refine W.cond rfl (fun hb => ?_) (fun hb => ?_) <;> (try simp only [zr, zd, zm, minL, maxL, pickB, zA] at hb) <;> (try (first | (cases hb; done) | exact absurd hb (by decide) | (exfalso; omega) | (omega))))
 | ((with_reducible refine And.intro ?_ ?_); exact zc; conv => whnf)
 | ((with_reducible refine And.intro (Side.out ?_) ?_); rotate_left; (conv => whnf))
 | ((first | refine retF1 ?_ | refine retF2 ?_) <;> (conv => whnf) <;> repeat' (first
 | exact trivial
 | (with_reducible rfl)
 | ((with_reducible refine And.intro ?_ ?_) <;> conv => whnf)
 | omega
 | rfl
 | (refine congrArg (SV.arr _) ?_)
 | (refine congrArg (Value.int _) ?_)
 | (refine congrArg Value.bool ?_)))); all_goals (try unfold Side)
     all_goals try (repeat' (first | exact zb | with_reducible refine And.intro ?_ ?_))
set_option maxHeartbeats 4000000 in
theorem defended_at {B F : List Nat} {n s : Nat} (h : DS B n) (hF : DS F n) (hn : n ≤ 12) (hs : s < 2 ^ n) : FnAt Try.prog false 59 [.sadr (.agg [I64 n, .arr (.int .u16) (zN B : List Int), .arr (.int .u16) (zN F : List Int)]), .lit (.int .u16 (s : Int))] (.lit (.int .u16 ((defT B F n s : Nat) : Int))) [] := by
 have h2 := two12 hn
 have c1 := attacked_at (F := F) h hn hs
 obtain ⟨t, ht⟩ : ∃ t, t = attT B s := ⟨_, rfl⟩
 have htl : t < 2 ^ n := by rw [ht]; exact attT_lt h
 obtain ⟨p, hp⟩ : ∃ p : Nat → Bool, p = fun i => decide (andN (F.getD i 0) t = 0) := ⟨_, rfl⟩
 have hdf : defT B F n s = setK p n := by rw [hp, ht]; rfl
 rw [← ht] at c1
 rw [hdf]
 have hzf : @List.length (Ty.int .u16).T (zN F) = n := zN_len.trans hF.len
 refine FnAt.of_body tys_ok Try.func59 (by rfl) rfl Try.ntmps59 (by rw [Try.results59]) (by simp) ?_
 repeat' (first
 | refine W.seq ?_
 | refine W.block ?_
 | (refine W.region tys_ok [] ?_; conv => whnf)
 | (refine W.drawAll tys_ok [] mixed rfl ?_; conv => whnf)
 | (refine W.ret ?_; conv => whnf)
 | (refine W.skip ?_; conv => whnf)
 | (refine W.exit ?_; conv => whnf)
 | (refine call_at (al := false) (c1) rfl rfl rfl rfl ?_; conv => whnf)
 | (refine W.cond rfl (fun hb => ?_) (fun hb => ?_) <;> (try simp only [zr, zd, zm, minL, maxL, pickB, zA] at hb) <;> (try (first | (cases hb; done) | exact absurd hb (by decide) | (exfalso; omega) | (omega))))
 | ((with_reducible refine And.intro ?_ ?_); exact zc; conv => whnf)
 | ((with_reducible refine And.intro (Side.out ?_) ?_); rotate_left; (conv => whnf))
 | ((first | refine retF1 ?_ | refine retF2 ?_) <;> (conv => whnf) <;> repeat' (first
 | exact trivial
 | (with_reducible rfl)
 | ((with_reducible refine And.intro ?_ ?_) <;> conv => whnf)
 | omega
 | rfl
 | (refine congrArg (SV.arr _) ?_)
 | (refine congrArg (Value.int _) ?_)
 | (refine congrArg Value.bool ?_)))); all_goals (try unfold Side)
 all_goals try (repeat' (first | exact zb | with_reducible refine And.intro ?_ ?_))
 refine W.loop (fun k : Nat => ⟨[(5, (.lit (.int .u16 ((t : Nat) : Int)))), (6, (.lit (.int .u16 ((setK p k : Nat) : Int)))), (15, .st false (.arr (.int .u16) (zN F : List Int))), (16, (.lit (.int .i64 (n : Int)))), (17, (.lit (.int .i64 (k : Int))))], []⟩) (fun k => k ≤ n) (fun k => n - k) (0) ?_ ?_
 · refine ⟨Nat.zero_le _, ?_⟩
   refine subF.ok ?_ <;> (conv => whnf) <;> repeat' (first
 | exact trivial
 | (with_reducible rfl)
 | ((with_reducible refine And.intro ?_ ?_) <;> conv => whnf)
 | omega
 | rfl
 | (refine congrArg (SV.arr _) ?_)
 | (refine congrArg (Value.int _) ?_)
 | (refine congrArg Value.bool ?_))
   all_goals first | exact congrArg Nat.cast hzf | skip
 · intro k hk
   by_cases hkn : k < n
   · have hg : (zN F).getD k 0 = ((F.getD k 0 : Nat) : Int) := zN_get
     have q1 := hF.lt k
     have c2 := one_at (i := k) (by omega)
     have h2k := two12 (n := k) (by omega)
     have h3 : setK p k < 2 ^ n := setK_lt hk
     have h4 : setK p k ||| 2 ^ k < 2 ^ n := or_lt h3 hkn
     have hal : andN (F.getD k 0) t < 2 ^ n := Nat.xor_lt_two_pow (Nat.and_lt_two_pow _ htl) q1
     have qq : 0 ≤ (zN F).getD k 0 ∧ 0 ≤ (t : Int) ∧ InK .u16 ((zN F).getD k 0) ∧ InK .u16 (t : Int) ∧ InK .u16 ((bitsN .andNot ((zN F).getD k 0).toNat (t : Int).toNat : Nat) : Int) := by
      rw [hg]
      exact ⟨Int.natCast_nonneg _, Int.natCast_nonneg _, inU (by omega), inU (by omega), (inU (by omega) : InK .u16 ((andN (F.getD k 0) t : Nat) : Int))⟩
     have qa : ((bitsN .andNot ((zN F).getD k 0).toNat (t : Int).toNat : Nat) : Int) = ((andN (F.getD k 0) t : Nat) : Int) := by rw [hg]; rfl
     have qo : 0 ≤ ((setK p k : Nat) : Int) ∧ 0 ≤ ((2 ^ k : Nat) : Int) ∧ InK .u16 ((setK p k : Nat) : Int) ∧ InK .u16 ((2 ^ k : Nat) : Int) ∧ InK .u16 ((bitsN .or ((setK p k : Nat) : Int).toNat ((2 ^ k : Nat) : Int).toNat : Nat) : Int) :=
      ⟨Int.natCast_nonneg _, Int.natCast_nonneg _, inU (by omega), inU (by omega), (inU (by omega) : InK .u16 ((setK p k ||| 2 ^ k : Nat) : Int))⟩
     by_cases hz : andN (F.getD k 0) t = 0
     · have hst : setK p (k + 1) = setK p k ||| 2 ^ k := by rw [setK, if_pos (by rw [hp]; exact decide_eq_true hz)]
       have qz : ((bitsN .andNot ((zN F).getD k 0).toNat (t : Int).toNat : Nat) : Int) = 0 := by rw [qa, hz]; rfl
       repeat' (first
 | refine W.seq ?_
 | refine W.block ?_
 | (refine W.region tys_ok [] ?_; conv => whnf)
 | (refine W.drawAll tys_ok [] mixed rfl ?_; conv => whnf)
 | (refine W.ret ?_; conv => whnf)
 | (refine W.skip ?_; conv => whnf)
 | (refine W.exit ?_; conv => whnf)
 | (refine call_at (al := false) (c2) rfl rfl rfl rfl ?_; conv => whnf)
 | (refine W.cond rfl (fun hb => ?_) (fun hb => ?_) <;> (try simp only [zr, zd, zm, minL, maxL, pickB, zA] at hb) <;> (try (first | (cases hb; done) | exact absurd hb (by decide) | (exfalso; omega) | (omega) | ((exact absurd qz hb)))))
 | ((with_reducible refine And.intro ?_ ?_); exact zc; conv => whnf)
 | ((with_reducible refine And.intro (Side.out ?_) ?_); rotate_left; (conv => whnf))
 | ((first | refine retF1 ?_ | refine retF2 ?_) <;> (conv => whnf) <;> repeat' (first
 | exact trivial
 | (with_reducible rfl)
 | ((with_reducible refine And.intro ?_ ?_) <;> conv => whnf)
 | omega
 | rfl
 | (refine congrArg (SV.arr _) ?_)
 | (refine congrArg (Value.int _) ?_)
 | (refine congrArg Value.bool ?_)))); all_goals (try unfold Side)
       all_goals try (repeat' (first | exact zb | with_reducible refine And.intro ?_ ?_))
       all_goals first | exact Path.imp_of qq | exact Path.imp_of qo | skip
       refine ⟨k + 1, ⟨by omega, by omega⟩, ?_⟩
       rw [hst]
       refine subF.ok ?_ <;> (conv => whnf) <;> repeat' (first
 | exact trivial
 | (with_reducible rfl)
 | ((with_reducible refine And.intro ?_ ?_) <;> conv => whnf)
 | omega
 | rfl
 | (refine congrArg (SV.arr _) ?_)
 | (refine congrArg (Value.int _) ?_)
 | (refine congrArg Value.bool ?_))
     · have hst : setK p (k + 1) = setK p k := by rw [setK, if_neg (by rw [hp]; simpa using hz)]
       have qz : ¬ ((bitsN .andNot ((zN F).getD k 0).toNat (t : Int).toNat : Nat) : Int) = 0 := by rw [qa]; omega
       repeat' (first
 | refine W.seq ?_
 | refine W.block ?_
 | (refine W.region tys_ok [] ?_; conv => whnf)
 | (refine W.drawAll tys_ok [] mixed rfl ?_; conv => whnf)
 | (refine W.ret ?_; conv => whnf)
 | (refine W.skip ?_; conv => whnf)
 | (refine W.exit ?_; conv => whnf)
 | (refine call_at (al := false) (c2) rfl rfl rfl rfl ?_; conv => whnf)
 | (refine W.cond rfl (fun hb => ?_) (fun hb => ?_) <;> (try simp only [zr, zd, zm, minL, maxL, pickB, zA] at hb) <;> (try (first | (cases hb; done) | exact absurd hb (by decide) | (exfalso; omega) | (omega) | ((exact absurd hb qz)))))
 | ((with_reducible refine And.intro ?_ ?_); exact zc; conv => whnf)
 | ((with_reducible refine And.intro (Side.out ?_) ?_); rotate_left; (conv => whnf))
 | ((first | refine retF1 ?_ | refine retF2 ?_) <;> (conv => whnf) <;> repeat' (first
 | exact trivial
 | (with_reducible rfl)
 | ((with_reducible refine And.intro ?_ ?_) <;> conv => whnf)
 | omega
 | rfl
 | (refine congrArg (SV.arr _) ?_)
 | (refine congrArg (Value.int _) ?_)
 | (refine congrArg Value.bool ?_)))); all_goals (try unfold Side)
       all_goals try (repeat' (first | exact zb | with_reducible refine And.intro ?_ ?_))
       all_goals first | exact Path.imp_of qq | exact Path.imp_of qo | skip
       refine ⟨k + 1, ⟨by omega, by omega⟩, ?_⟩
       rw [hst]
       refine subF.ok ?_ <;> (conv => whnf) <;> repeat' (first
 | exact trivial
 | (with_reducible rfl)
 | ((with_reducible refine And.intro ?_ ?_) <;> conv => whnf)
 | omega
 | rfl
 | (refine congrArg (SV.arr _) ?_)
 | (refine congrArg (Value.int _) ?_)
 | (refine congrArg Value.bool ?_))
   · have hke : k = n := by omega
     subst hke
     repeat' (first
 | refine W.seq ?_
 | refine W.block ?_
 | (refine W.region tys_ok [] ?_; conv => whnf)
 | (refine W.drawAll tys_ok [] mixed rfl ?_; conv => whnf)
 | (refine W.ret ?_; conv => whnf)
 | (refine W.skip ?_; conv => whnf)
 | (refine W.exit ?_; conv => whnf)
 | (refine W.cond rfl (fun hb => ?_) (fun hb => ?_) <;> (try simp only [zr, zd, zm, minL, maxL, pickB, zA] at hb) <;> (try (first | (cases hb; done) | exact absurd hb (by decide) | (exfalso; omega) | (omega))))
 | ((with_reducible refine And.intro ?_ ?_); exact zc; conv => whnf)
 | ((with_reducible refine And.intro (Side.out ?_) ?_); rotate_left; (conv => whnf))
 | ((first | refine retF1 ?_ | refine retF2 ?_) <;> (conv => whnf) <;> repeat' (first
 | exact trivial
 | (with_reducible rfl)
 | ((with_reducible refine And.intro ?_ ?_) <;> conv => whnf)
 | omega
 | rfl
 | (refine congrArg (SV.arr _) ?_)
 | (refine congrArg (Value.int _) ?_)
 | (refine congrArg Value.bool ?_)))); all_goals (try unfold Side)
     all_goals try (repeat' (first | exact zb | with_reducible refine And.intro ?_ ?_))
def admB (B F : List Nat) (n s : Nat) : Bool := decide (attT B s &&& s = 0) && decide (andN s (defT B F n s) = 0)
end Go.Proofs.Ytckmhlpngolbpaa
