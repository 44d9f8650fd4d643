/- Joined of: Rg4 Rg5 Rc1 Rc2 Rw1 Rw2 Rw3 Ww1 Wr1 K0 Vc34 Vc35 Vc36 Vc40 Vc41 Vc39 Vc46 W1. No condition. -/
import Derived.Test.YtckmhlpngolbpaaDoorJ4
set_option linter.unusedVariables false
set_option linter.unusedSimpArgs false
namespace Go.Rg
variable {n : Nat} {num : Nat → Int} {M : Int} {R : Nat}
def upd {α : Type} (f : Nat → α) (i : Nat) (x : α) : Nat → α := fun j => if j = i then x else f j
structure Net where
 B : Nat → Bool
 S : Nat → PW
 F : Nat → List Nt
 H : Nat → List Nt
 D : Nat → Nat
variable {n : Nat} {num : Nat → Int} {M : Int} {R : Nat}
def delN (n b : Nat) (m : Nt) (rest : List Nt) (t : Net) : Net :=
 { B := t.B, S := upd t.S b (peS (t.S b) m).1, F := upd (upd t.F (prv n b) rest) b (upd t.F (prv n b) rest b ++ (peS (t.S b) m).2), H := upd t.H b (t.H b ++ (peS (t.S b) m).2), D := upd t.D (prv n b) (t.D (prv n b) + 1) }
def rem (n m i : Nat) : Nat := if i < m then m - i else n + m - i
def cs (p : Nt → Int) : List Nt → Int
 | [] => 0
 | x :: r => p x + cs p r
variable {n m0 : Nat} {num : Nat → Int} {M X : Int} {ph : Nat}
abbrev Lt := Int × Int × Bool × Unit
@[reducible] def L0 : Lt := (0, 0, false, ())
def cl (p : Lt → Int) : List Lt → Int
 | [] => 0
 | x :: r => p x + cl p r
structure Wn where
 W : Nat → Bool
 E : Nat → Bool
 P : Nat → Int
 O : Nat → Int
 fl : List Lt
variable {n : Nat} {t : Wn} {Es : List Nat}
variable {n : Nat} {t : Wn} {Es : List Nat}
def pk (x : Lt) : Int := if x.2.2.1 = true then 1 else 3
variable {n : Nat} {t : Wn} {Es : List Nat}
abbrev Hd := Bool × Bool × Int × Int × Unit
@[reducible] def H0 : Hd := (false, false, 0, 0, ())
abbrev Wk := List Hd × List Lt
def go (hs : List Hd) (i : Nat) : Int := (hs.getD i H0).2.2.2.1
variable {n : Nat} {w : Wk}
abbrev Pe := Int × Bool × Int × Int × Int × Bool × Int × Unit
@[reducible] def P0 : Pe := (0, false, 0, 0, 0, false, 0, ())
abbrev We := Int × Int × Int × Int × Bool × Bool × Bool × Unit
@[reducible] def W0 : We := (0, 0, 0, 0, false, false, false, ())
@[reducible] def N0 : Nt := (0, 0, ())
abbrev Rn := List Pe × List (List Nt) × Int
def cv (p : Pe) : We := (p.1, p.2.2.2.1, p.2.2.2.2.1, p.2.2.1, p.2.1, p.2.2.2.2.2.1, decide (p.2.2.2.2.2.2.1 = 2), ())
variable {n : Nat} {pet : Bool} {r : Rn}
end Go.Rg
namespace Go.Proofs.YtckmhlpngolbpaaDoor
open Int renaming reduceToNat → zr, reduceTDiv → zd, reduceTMod → zm
open Go Go.Vc Go.Rg
abbrev HT : Ty := .cons .bool (.cons .bool (.cons (.int .i64) (.cons (.int .i64) .nil)))
abbrev LT : Ty := .cons (.int .i64) (.cons (.int .i64) (.cons .bool .nil))
abbrev NT : Ty := .cons (.int .i64) (.cons (.int .i64) .nil)
abbrev PT : Ty := .cons (.int .i64) (.cons .bool (.cons (.int .i64) (.cons (.int .i64) (.cons (.int .i64) (.cons .bool (.cons (.int .i64) .nil))))))
abbrev WT : Ty := .cons (.int .i64) (.cons (.int .i64) (.cons (.int .i64) (.cons (.int .i64) (.cons .bool (.cons .bool (.cons .bool .nil))))))
abbrev I64 (n : Int) : SV := .lit (.int .i64 n)
theorem app_le {a b N : Nat} (hb : b = 1) (h : a + 1 ≤ N) : a + b ≤ N := by omega
theorem zL : (∀ {α : Type} {a : α} {n : Nat}, (List.replicate n a).length = n) ∧ (∀ {α : Type} {l : List α} {i : Nat} {a : α}, (l.set i a).length = l.length) ∧ (∀ {α : Type} {l m : List α}, (l ++ m).length = l.length + m.length) ∧ (∀ {α : Type} {a : α} {l : List α}, (a :: l).length = l.length + 1) ∧ ∀ {α : Type}, ([] : List α).length = 0 :=
 ⟨List.length_replicate, List.length_set, List.length_append, List.length_cons, List.length_nil⟩
theorem zSH : (∀ (xs : List Hd) (i : Nat), @List.getD HT.T xs i HT.dflt = @List.getD Hd xs i H0) ∧ (∀ (xs : List Hd), @List.length HT.T xs = @List.length Hd xs) ∧
  (∀ (xs : List Lt) (i : Nat), @List.getD LT.T xs i LT.dflt = @List.getD Lt xs i L0) ∧ (∀ (xs : List Lt), @List.length LT.T xs = @List.length Lt xs) ∧
  (∀ (xs : List Nt) (i : Nat), @List.getD NT.T xs i NT.dflt = @List.getD Nt xs i N0) ∧ (∀ (xs : List Nt), @List.length NT.T xs = @List.length Nt xs) ∧
  (∀ (xs : List Pe) (i : Nat), @List.getD PT.T xs i PT.dflt = @List.getD Pe xs i P0) ∧ (∀ (xs : List Pe), @List.length PT.T xs = @List.length Pe xs) ∧
  (∀ (xs : List We) (i : Nat), @List.getD WT.T xs i WT.dflt = @List.getD We xs i W0) ∧ ∀ (xs : List We), @List.length WT.T xs = @List.length We xs :=
 ⟨fun _ _ => rfl, fun _ => rfl, fun _ _ => rfl, fun _ => rfl, fun _ _ => rfl, fun _ => rfl, fun _ _ => rfl, fun _ => rfl, fun _ _ => rfl, fun _ => rfl⟩
theorem zA : (type_of% zHB) ∧ (type_of% zSH) := ⟨zHB, zSH⟩
theorem zb {p : Prop} (h : p := by first | (with_reducible rfl) | omega | rfl | exact Or.inl rfl | exact Or.inr rfl | exact of_decide_eq_true rfl | exact Path.imp_of (of_decide_eq_true rfl) | ((try simp only [zr, zd, zm, minL, maxL, pickB, zA, InK, Path.imp, zL] at *); omega) | (refine app_le rfl ?_; omega) | fail) : p := h
theorem zc {p : Prop} (h : p := by first | (with_reducible rfl) | omega | rfl | ((try simp only [zr, zd, zm, minL, maxL, pickB, zA, InK, Path.imp, zL] at *); omega) | fail) : p := h
theorem zi {p : Prop} (h : p := by first | exact trivial | exact ⟨rfl, trivial⟩ | (refine ⟨?_, trivial⟩; dsimp only; simp only [zr, zd, zm, minL, maxL, pickB, zA]; omega) | (refine ⟨?_, trivial⟩; dsimp only; (try simp only [zr, zd, zm, minL, maxL, pickB, zA]); (simp_all; done)) | (refine ⟨?_, trivial⟩; dsimp only; (simp only [zr, zd, zm, minL, maxL, pickB, zA]; done)) | (refine ⟨?_, trivial⟩; dsimp only; (simp; done)) | fail) : p := h
theorem zj {p : Prop} (h : p := by first | (intro h; have h := h.1; dsimp only at h; first | (exact Bool.noConfusion h) | (simp only [zr, zd, zm, minL, maxL, pickB, zA] at h; omega) | ((try simp only [zr, zd, zm, minL, maxL, pickB, zA] at h); (simp_all; done))) | fail) : p := h
end Go.Proofs.YtckmhlpngolbpaaDoor
namespace Go.Vc
def RegW (P : Program) (n : Nat) (ops : Array Oper) (i : Nat) (Γ : Sy) (Q : Exit → Sy → Prop) : Prop :=
 ∀ (c : Cx) (g : Nat → Value) (a : Act) (w : World), c.n = n → St c Γ g a w → wpOps P ops (fun e a' w' => ∃ Γ' g', Q e Γ' ∧ St c Γ' g' a' w') (List.range' i (ops.size - i)) a w
theorem W.regW {P : Program} {n : Nat} {Q : Exit → Sy → Prop} {Γ : Sy} {id : Nat} {ops : Array Oper} (h : RegW P n ops 0 Γ Q) : W P n (.region id ops false) Γ Q := by
 refine ⟨fun c g a w hn hst => wp_region ?_⟩
 rw [List.range_eq_range']
 exact h c g a w hn hst
theorem RegW.fin {P : Program} {n : Nat} {Q : Exit → Sy → Prop} {Γ : Sy} {T : List (Nat × TE)} (hT : TOk P T) (F Ms : List Nat) {ops : Array Oper} {i : Nat} (h : seqM P T F Ms n ops (ops.toList.drop i) i Γ (Q .normal)) : RegW P n ops i Γ Q := by
 intro c g a w hn hst
 subst hn
 have := seqM_sound (c := c) (ops := ops) (Q := fun e a' w' => ∃ Γ' g', Q e Γ' ∧ St c Γ' g' a' w') hT (fun Γ' g' a' w' h1 h2 => ⟨Γ', g', h1, h2⟩) (ops.toList.drop i) i Γ g a w rfl h hst
 simpa using this
theorem RegW.cut {P : Program} {n : Nat} {Q : Exit → Sy → Prop} {Γ : Sy} {T : List (Nat × TE)} (hT : TOk P T) (F Ms : List Nat) {ops : Array Oper} {i : Nat} (k : Nat) (Γ2 : Sy) (hk : (Nat.ble i k && Nat.ble k ops.size) = true)
  (h : seqM P T F Ms n ops ((ops.toList.drop i).take (k - i)) i Γ fun Γ1 => Leaf (Sub Γ1 Γ2 (mkRen Γ1 Γ2))) (h2 : RegW P n ops k Γ2 Q) : RegW P n ops i Γ Q := by
 intro c g a w hn hst
 subst hn
 rw [Bool.and_eq_true] at hk
 have h3 := Nat.le_of_ble_eq_true hk.1
 have h4 := Nat.le_of_ble_eq_true hk.2
 have hl : ((ops.toList.drop i).take (k - i)).length = k - i := by rw [List.length_take, List.length_drop, Array.length_toList]; omega
 have e : List.range' i (ops.size - i) = List.range' i ((ops.toList.drop i).take (k - i)).length ++ List.range' k (ops.size - k) := by
  rw [hl]
  have := List.range'_append (s := i) (m := k - i) (n := ops.size - k) (step := 1)
  rw [show i + 1 * (k - i) = k by omega, show k - i + (ops.size - k) = ops.size - i by omega] at this
  exact this.symm
 rw [e]
 exact seqM_app (K := fun Γ1 => Leaf (Sub Γ1 Γ2 (mkRen Γ1 Γ2))) hT (fun Γ' g' a' w' h5 h6 => h2 c _ a' w' rfl (Sub.st h5.1 h6)) _ i Γ g a w ⟨(ops.toList.drop i).drop (k - i), (List.take_append_drop _ _).symm⟩ h hst
theorem RegW.go {P : Program} {n : Nat} {Q : Exit → Sy → Prop} {Γ : Sy} {T : List (Nat × TE)} (hT : TOk P T) (F Ms : List Nat) {ops : Array Oper} {i : Nat} (k : Nat) (hk : (Nat.ble i k && Nat.ble k ops.size) = true)
  (h : seqM P T F Ms n ops ((ops.toList.drop i).take (k - i)) i Γ fun Γ1 => RegW P n ops k Γ1 Q) : RegW P n ops i Γ Q := by
 intro c g a w hn hst
 subst hn
 rw [Bool.and_eq_true] at hk
 have h3 := Nat.le_of_ble_eq_true hk.1
 have h4 := Nat.le_of_ble_eq_true hk.2
 have hl : ((ops.toList.drop i).take (k - i)).length = k - i := by rw [List.length_take, List.length_drop, Array.length_toList]; omega
 have e : List.range' i (ops.size - i) = List.range' i ((ops.toList.drop i).take (k - i)).length ++ List.range' k (ops.size - k) := by
  rw [hl]
  have := List.range'_append (s := i) (m := k - i) (n := ops.size - k) (step := 1)
  rw [show i + 1 * (k - i) = k by omega, show k - i + (ops.size - k) = ops.size - i by omega] at this
  exact this.symm
 rw [e]
 exact seqM_app (K := fun Γ1 => RegW P c.n ops k Γ1 Q) hT (fun Γ' g' a' w' h5 h6 => h5 c g' a' w' rfl h6) _ i Γ g a w ⟨(ops.toList.drop i).drop (k - i), (List.take_append_drop _ _).symm⟩ h hst
theorem RegW.skip {P : Program} {n : Nat} {Q : Exit → Sy → Prop} {Γ : Sy} {ops : Array Oper} {i : Nat} {o : Oper} {G : Path} {t : Nat} (ho : ops[i]? = some o) (hG : guardOf (dstsOf ops) Γ o.guard = some G) (hno : ¬ G.ok) (ht : o.dst = some t) (hlt : Nat.blt t n = true) (A : AV)
  (h : RegW P n ops (i + 1) (Γ.putB t (gd' G A)) Q) : RegW P n ops i Γ Q := by
 intro c g a w hn hst
 subst hn
 have hi : i < ops.size := (Array.getElem?_eq_some_iff.1 ho).1
 have e : List.range' i (ops.size - i) = i :: List.range' (i + 1) (ops.size - (i + 1)) := by
  rw [show ops.size - i = ops.size - (i + 1) + 1 by omega, List.range'_succ]
 rw [e, wpOps_cons]
 unfold wpOp
 rw [ho]
 dsimp only
 rw [if_neg (fun h => hno ((guardOf.wanted (ops := ops) hst hG).1 h)), ht]
 refine h c g _ w rfl ((hst.put (Nat.le_of_ble_eq_true hlt) (A := gd' G A) ?_).congr (fun _ => rfl) (fun _ => rfl))
 cases G with
 | nil => exact absurd trivial hno
 | cons x r => exact ⟨fun h => absurd h hno, fun _ => rfl⟩
theorem updg_same {g : Nat → Value} {k : Nat} : updg g k (g k) = g := funext fun j => by
 unfold updg
 split
 · rename_i e; rw [e]
 · rfl
theorem RowOk.nil {w : World} {base e : Nat} {O O0 : Nat → Prop} {τ : Ty} {fr : Bool} : RowOk w base O O0 (.slice none 0 0) e τ fr [] := by
 refine ⟨[], ⟨(Nat.zero_mul _).symm, .inl ⟨rfl, rfl⟩⟩, (fun x hx => by cases hx), fun _ => undef, fun i hi => ?_, fun i x hx => ?_⟩
 · simp at hi
 · simp at hx
def obL : Ob → Option (List AV)
 | .box l => some l
 | .box1 A => some [A]
 | _ => none
theorem OwnOk.cells {w : World} {base : Nat} {O O0 : Nat → Prop} {g : Nat → Value} {v : Value} {o : Ob} {l : List AV} (h : OwnOk w base O O0 g v o) (hl : obL o = some l) :
  ∃ b arr e, v = .pointer (some ⟨b, 0, none⟩) ∧ w.heap[b]? = some (.cells arr e (0, 0)) ∧ arr.size = l.length ∧ ∀ (i : Nat) (B : AV), l[i]? = some B → ∃ x, arr[i]? = some x ∧ x.oneCell' = true ∧ Rp2 w O O0 g x B := by
 cases o with
 | box l' =>
  cases hl
  obtain ⟨b, arr, e, h1, h2, h3, h4, h5⟩ := h
  exact ⟨b, arr, e, h1, h3, h4, h5⟩
 | box1 A =>
  cases hl
  obtain ⟨b, x, e, h1, h2, h3, h4, h5⟩ := h
  refine ⟨b, #[x], e, h1, h3, rfl, fun i B hB => ?_⟩
  cases i with
  | zero => simp at hB; subst hB; exact ⟨x, rfl, h4, h5⟩
  | succ i => simp at hB
 | _ => cases hl
end Go.Vc
namespace Go.Proofs.YtckmhlpngolbpaaDoor
open Int renaming reduceToNat → zr, reduceTDiv → zd, reduceTMod → zm
open Go Go.Vc Go.Rg
abbrev MT : Ty := .cons (.int .i64) (.cons (.int .i64) (.cons (.int .i64) (.cons (.int .i64) .nil)))
abbrev KT : Ty := .cons (.int .i64) (.cons (.int .i64) .nil)
abbrev Mv := Int × Int × Int × Int × Unit
abbrev Jo := Int × Int × Unit
def mvL : List Mv := [(0, 0, 1, 0, ()), (0, 0, -1, 0, ()), (0, 0, 0, 0, ())]
def jlL : List Jo := [(0, 0, ())]
def mvX (k : Nat) : Int := (mvL.getD k (0, 0, 0, 0, ())).2.2.1
theorem small_at {x y : Int} (hx : -5 ≤ x ∧ x ≤ 5) (hy : -5 ≤ y ∧ y ≤ 5) : FnAt Tryd.prog false 41 [I64 x, I64 y] (.lit (.bool true)) [] := by
 have q1 : InK .i64 (-x) := ⟨by omega, by omega⟩
 have q2 : InK .i64 (-y) := ⟨by omega, by omega⟩
 refine FnAt.of_body tys_ok Tryd.func41 (by rfl) rfl Tryd.ntmps41 (by rw [Tryd.results41]) (by simp) ?_
 repeat' (first
 | refine W.seq ?_
 | refine W.block ?_
 | (refine W.region tys_ok [] ?_; conv => whnf)
 | (refine W.drawAll tys_ok [] mixed rfl ?_; conv => whnf)
 | (refine W.ret ?_; conv => whnf)
 | (refine W.skip ?_; conv => whnf)
 | (refine W.exit ?_; conv => whnf)
 | (refine W.cond rfl (fun hb => ?_) (fun hb => ?_) <;> (try simp only [zr, zd, zm, minL, maxL, pickB, zA] at hb) <;> (try (first | (cases hb; done) | exact absurd hb (by decide) | (exfalso; omega) | (omega))))
 | ((with_reducible refine And.intro ?_ ?_); exact zc; conv => whnf)
 | ((with_reducible refine And.intro (Side.out ?_) ?_); rotate_left; (conv => whnf))
 | ((first | refine retF1 ?_ | refine retF2 ?_) <;> (conv => whnf) <;> repeat' (first
 | exact trivial
 | (with_reducible rfl)
 | ((with_reducible refine And.intro ?_ ?_) <;> conv => whnf)
 | omega
 | rfl
 | (refine congrArg (SV.arr _) ?_)
 | (refine congrArg (Value.int _) ?_)
 | (refine congrArg Value.bool ?_)))); all_goals (try unfold Side)
 all_goals try (repeat' (first | exact zb | with_reducible refine And.intro ?_ ?_))
 have e1 : maxL x [-x, y, -y] ≤ 5 := by simp only [maxL]; omega
 have e2 : -5 ≤ minL x [y] := by simp only [minL]; omega
 rw [decide_eq_true e1, decide_eq_true e2]; rfl
theorem mv_ok {k : Nat} (hk : k < 3) : (mvL.getD k (0, 0, 0, 0, ())).1 = 0 ∧ (mvL.getD k (0, 0, 0, 0, ())).2.1 = 0 ∧ (mvL.getD k (0, 0, 0, 0, ())).2.2.2.1 = 0 ∧ -1 ≤ mvX k ∧ mvX k ≤ 1 := by
 have h3 : k = 0 ∨ k = 1 ∨ k = 2 := by omega
 rcases h3 with rfl | rfl | rfl <;> decide
set_option maxHeartbeats 4000000 in
theorem step_at {row : ByteArray} {w x : Int} {k : Nat} (hk : k < 3) (hx : -100 ≤ x ∧ x ≤ 100) : FnAt Tryd.prog false 58 [.sadr (.agg [.arr (.sl .str) ([[row]] : List (List ByteArray)), .arr MT mvL, .arr KT jlL, I64 1, I64 w]), .agg [I64 0, I64 (x : Int), I64 0], I64 k, I64 0] (.strct [(.lit (.int .i64 (0 : Int))), (.lit (.int .i64 ((x + mvX k + 0) : Int))), (.lit (.int .i64 (0 : Int)))]) [] := by
 obtain ⟨m1, m2, m3, m4⟩ := mv_ok hk
 have j1 : (jlL.getD 0 (0, 0, ())).1 = 0 := rfl
 have j2 : (jlL.getD 0 (0, 0, ())).2.1 = 0 := rfl
 have hX : mvX k = (mvL.getD k (0, 0, 0, 0, ())).2.2.1 := rfl
 have q1 : InK .i64 (x + (mvL.getD k (0, 0, 0, 0, ())).2.2.1) := ⟨by omega, by omega⟩
 have q2 : InK .i64 (x + (mvL.getD k (0, 0, 0, 0, ())).2.2.1 + (jlL.getD 0 (0, 0, ())).1) := ⟨by omega, by omega⟩
 have q3 : InK .i64 (0 + (mvL.getD k (0, 0, 0, 0, ())).2.2.2.1) := ⟨by omega, by omega⟩
 have q4 : InK .i64 (0 + (mvL.getD k (0, 0, 0, 0, ())).2.2.2.1 + (jlL.getD 0 (0, 0, ())).2.1) := ⟨by omega, by omega⟩
 have r3 : 0 + (mvL.getD k (0, 0, 0, 0, ())).2.2.2.1 + (jlL.getD 0 (0, 0, ())).2.1 = 0 := by omega
 have hml : mvL.length = 3 := rfl
 have q0 : 0 ≤ (k : Int) ∧ (k : Int).toNat < mvL.length := ⟨by omega, by rw [hml]; omega⟩
 refine FnAt.of_body tys_ok Tryd.func58 (by rfl) rfl Tryd.ntmps58 (by rw [Tryd.results58]) (by simp) ?_
 repeat' (first
 | refine W.seq ?_
 | refine W.block ?_
 | (refine W.drawPh (id := 1) tys_ok [] mixed [0, 1, 2, 4, 8, 0, 48, 64, 0, 256, 512, 1024, 2048, 0, 12288, 16384, 0, 0, 196863, 524287] [([0, 1, 2, 3, 4, 5, 6, 7, 8, 9, 10, 11, 12, 13, 14, 15], 2, 262143), ([], 1, 524287), ([], 1, 1048575)] (by decide +kernel) ?_; conv => whnf)
 | (refine W.region tys_ok [] ?_; conv => whnf)
 | (refine W.drawAll tys_ok [] mixed rfl ?_; conv => whnf)
 | (refine W.ret ?_; conv => whnf)
 | (refine W.skip ?_; conv => whnf)
 | (refine W.exit ?_; conv => whnf)
 | (refine Both.mk ?_ ?_ <;> (conv => whnf))
 | (refine W.cond rfl (fun hb => ?_) (fun hb => ?_) <;> (try simp only [zr, zd, zm, minL, maxL, pickB, zA] at hb) <;> (try (first | (cases hb; done) | exact absurd hb (by decide) | (exfalso; omega) | (omega))))
 | ((with_reducible refine And.intro ?_ ?_); exact zc; conv => whnf)
 | ((with_reducible refine And.intro (Side.out ?_) ?_); rotate_left; (conv => whnf))
 | ((first | refine retF1 ?_ | refine retF2 ?_ | refine subF.leaf ?_ | refine subF.side ?_) <;> (conv => whnf) <;> repeat' (first
 | exact trivial
 | (with_reducible rfl)
 | ((with_reducible refine And.intro ?_ ?_) <;> conv => whnf)
 | omega
 | rfl
 | (refine congrArg (SV.arr _) ?_)
 | (refine congrArg (Value.int _) ?_)
 | (refine congrArg Value.bool ?_)))); all_goals (try unfold Side)
 all_goals try (repeat' (first | exact zb | with_reducible refine And.intro ?_ ?_))
 all_goals first | exact Path.imp_of q0 | exact Path.imp_of q1 | exact Path.imp_of q2 | exact Path.imp_of q3 | exact Path.imp_of q4 | exact m2 | exact r3 | skip
end Go.Proofs.YtckmhlpngolbpaaDoor
