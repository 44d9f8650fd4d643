/- Joined of: Ha6 Ha7 Ha9 Ha10 H1 Vc32 Vc34 Vc35 Vc36 Vc40 Vc41 Vc42 Vc43 Vc38 Vc44 Tp1 Tp2 Ha11 Ha12 Tp3 Tp4 D1 Tp5. No condition. -/
import Derived.Test.YtckmhlpngolbpaaJ4
set_option linter.unusedVariables false
set_option linter.unusedSimpArgs false
namespace Go.Sh
theorem lateI_some {os : List Od} {l : List Jb} {i : Nat} (h : lateI os l = some i) : behindB l os (3, (i : Int), 0, 0, 0, 0, ()) = true := by
 obtain ⟨d, h1, h2, _⟩ := firstK_some h
 split at h2
 · rename_i h3
   cases h2
   show (decide ((0 : Int) = 0 ∧ (0 : Int) = 0 ∧ (0 : Int) = 0 ∧ (0 : Int) = 0) && (decide (0 ≤ (i : Int) ∧ (i : Int) < os.length) && lateT l (os.getD (i : Int).toNat O0))) = true
   rw [Int.toNat_natCast, h3, decide_eq_true (p := 0 ≤ (i : Int) ∧ (i : Int) < os.length) (by omega)]
   rfl
 · cases h2
theorem lateI_none {os : List Od} {l : List Jb} (h : lateI os l = none) : os.any (lateT l) = false := by
 rw [List.any_eq_false]
 intro o ho
 obtain ⟨i, hi, e⟩ := List.getElem_of_mem ho
 have := firstK_none h i hi
 rw [List.getD_eq_getElem?_getD, List.getElem?_eq_getElem hi] at this
 simp only [Option.getD_some, e] at this
 intro hl
 rw [if_pos hl] at this
 cases this
theorem overF_some {P : Int} {l : List Jb} {a b : Nat} (h : overF P l = some (a, b)) : crowdB P l (2, 0, (a : Int), (b : Int), 0, 0, ()) = true := by
 obtain ⟨a', h1, h2, _⟩ := firstK_some h
 obtain ⟨d, h3, h4, _⟩ := firstK_some h2
 split at h4
 · rename_i h5
   cases h4
   show (decide ((0 : Int) = 0 ∧ (0 : Int) = 0 ∧ (0 : Int) = 0) && (decide (0 ≤ (a : Int) ∧ (a : Int) < ((a + 1 + d : Nat) : Int) ∧ ((a + 1 + d : Nat) : Int) ≤ 24) && decide (P * (((a + 1 + d : Nat) : Int) - (a : Int)) < needsT l (a : Int) ((a + 1 + d : Nat) : Int)))) = true
   rw [show ((a + 1 + d : Nat) : Int) = (a : Int) + 1 + d by omega, show (a : Int) + 1 + d - a = (d : Int) + 1 by omega, decide_eq_true h5, decide_eq_true (p := 0 ≤ (a : Int) ∧ (a : Int) < (a : Int) + 1 + d ∧ (a : Int) + 1 + d ≤ 24) (by omega)]
   rfl
 · cases h4
theorem overF_none {P : Int} {l : List Jb} (h : overF P l = none) : overB P l = false := by
 unfold overB
 rw [List.any_eq_false]
 intro a ha
 rw [List.mem_range] at ha
 rw [Bool.not_eq_true, List.any_eq_false]
 intro b hb
 rw [List.mem_range] at hb
 rw [Bool.and_eq_true, decide_eq_true_eq, decide_eq_true_eq]
 rintro ⟨h1, h2⟩
 have h3 := firstK_none (firstK_none h a ha) (b - a - 1) (by omega)
 rw [show ((b - a - 1 : Nat) : Int) + 1 = (b : Int) - a by omega, show (a : Int) + 1 + ((b - a - 1 : Nat) : Int) = b by omega, if_pos h2] at h3
 cases h3
theorem app_get {N : List Nd} {x : Nd} {i : Nat} : (N ++ [x]).getD i N0 = if i < N.length then N.getD i N0 else if i = N.length then x else N0 := by
 rw [List.getD_eq_getElem?_getD, List.getD_eq_getElem?_getD]
 by_cases e : i < N.length
 · rw [if_pos e, List.getElem?_append_left e]
 · rw [if_neg e, List.getElem?_append_right (by omega)]
   by_cases e2 : i = N.length
   · subst e2; simp
   · rw [if_neg e2, List.getElem?_eq_none (by simp; omega)]; rfl
theorem nset_get {N : List Nd} {x : Nd} {i m : Nat} (hm : m < N.length) : (N.set m x).getD i N0 = if i = m then x else N.getD i N0 := by
 rw [List.getD_eq_getElem?_getD, List.getElem?_set, List.getD_eq_getElem?_getD]
 by_cases e : m = i
 · subst e; simp [hm]
 · rw [if_neg e, if_neg (fun h => e h.symm)]
theorem mid_rg {l : List Jb} {j : Nat} (h : 0 < frT l j) : jf l j ≤ midT l j ∧ midT l j < jt l j - jl l j := by
 unfold midT; unfold frT at *; omega
theorem growR_zero {P : Int} {os : List Od} {l : List Jb} {N : List Nd} : growR P os 0 l N = (false, N) := rfl
theorem growR_succ {P : Int} {os : List Od} {k : Nat} {l : List Jb} {N : List Nd} : growR P os (k + 1) l N = growS P os (growR P os k) l N := rfl
theorem growR_tr {P : Int} {os : List Od} {k : Nat} : ∀ {l : List Jb} {N : List Nd}, (growR P os k l N).1 = true →
  N.length < (growR P os k l N).2.length ∧ (∀ i, i < N.length → (growR P os k l N).2.getD i N0 = N.getD i N0) ∧
  ∀ pf : List Nd, (∀ i, N.length ≤ i → i < (growR P os k l N).2.length → pf.getD i N0 = (growR P os k l N).2.getD i N0) → Tr P os pf N.length (growR P os k l N).2.length l := by
 induction k with
 | zero => intro l N h; rw [growR_zero] at h; cases h
 | succ k ih =>
  intro l N h
  rw [growR_succ] at h ⊢
  generalize growR P os k = G at h ⊢ ih
  unfold growS at h ⊢
  split at h
  · cases h
  rename_i hN
  rw [if_neg hN]
  split at h
  · rename_i i hi
    refine ⟨by simp, fun j hj => by dsimp only; rw [app_get, if_pos hj], fun pf hpf => ?_⟩
    have h1 := hpf N.length (Nat.le_refl _) (by simp)
    dsimp only at h1
    rw [app_get, if_neg (by omega), if_pos rfl] at h1
    simp only [List.length_append, List.length_cons, List.length_nil]
    refine .late _ l (by rw [h1]; rfl) ?_
    rw [h1]; exact lateI_some hi
  · split at h
    · rename_i a b hab
      refine ⟨by simp, fun j hj => by dsimp only; rw [app_get, if_pos hj], fun pf hpf => ?_⟩
      have h1 := hpf N.length (Nat.le_refl _) (by simp)
      dsimp only at h1
      rw [app_get, if_neg (by omega), if_pos rfl] at h1
      simp only [List.length_append, List.length_cons, List.length_nil]
      refine .crowd _ l (by rw [h1]; rfl) ?_
      rw [h1]; exact overF_some hab
    · split at h
      · cases h
      · rename_i j hj
        obtain ⟨hjl, hfr⟩ := pickK_some hj
        split at h
        · rename_i hL
          split at h
          · rename_i hR
            rw [if_pos hL, if_pos hR]
            obtain ⟨a1, a2, a3⟩ := ih hL
            obtain ⟨b1, b2, b3⟩ := ih hR
            generalize hN2 : (G (partL l j (midT l j)) (N ++ [N0])).2 = N2 at *
            generalize hN3 : (G (partR l j (midT l j)) N2).2 = N3 at *
            simp only [List.length_append, List.length_cons, List.length_nil] at a1 a2 a3
            rw [List.length_set]
            refine ⟨by omega, fun i hi => ?_, fun pf hpf => ?_⟩
            · rw [nset_get (by omega), if_neg (by omega), b2 i (by omega), a2 i (by omega), app_get, if_pos hi]
            · refine .split _ N2.length _ l j (midT l j) ?_ hjl (mid_rg hfr) (a3 pf fun i h1 h2 => ?_) (b3 pf fun i h1 h2 => ?_)
              · rw [hpf _ (Nat.le_refl _) (by omega), nset_get (by omega), if_pos rfl]
              · rw [hpf i (by omega) (by omega), nset_get (by omega), if_neg (by omega), b2 i (by omega)]
              · rw [hpf i (by omega) (by omega), nset_get (by omega), if_neg (by omega)]
          · cases h
        · cases h
def prodK (f : Nat → Nat) : Nat → Nat
 | 0 => 1
 | k + 1 => prodK f k * f k
theorem prodK_congr {f g : Nat → Nat} : ∀ {k : Nat}, (∀ i, i < k → f i = g i) → prodK f k = prodK g k
 | 0, _ => rfl
 | k + 1, h => by rw [prodK, prodK, prodK_congr fun i hi => h i (by omega), h k (by omega)]
theorem prodK_pos {f : Nat → Nat} : ∀ {k : Nat}, (∀ i, i < k → 1 ≤ f i) → 1 ≤ prodK f k
 | 0, _ => Nat.le_refl _
 | k + 1, h => by
  rw [prodK]
  exact Nat.mul_pos (prodK_pos fun i hi => h i (by omega)) (h k (by omega))
theorem prodK_split {f f1 f2 : Nat → Nat} {j : Nat} (e : f1 j + f2 j = f j) : ∀ {k : Nat}, j < k → (∀ i, i < k → i ≠ j → f1 i = f i ∧ f2 i = f i) → prodK f1 k + prodK f2 k = prodK f k
 | 0, h, _ => by omega
 | k + 1, h, hs => by
  rw [prodK, prodK, prodK]
  by_cases g : j = k
  · subst g
    rw [prodK_congr (f := f1) (g := f) fun i hi => (hs i (by omega) (by omega)).1, prodK_congr (f := f2) (g := f) fun i hi => (hs i (by omega) (by omega)).2, ← Nat.mul_add, e]
  · rw [(hs k (by omega) (fun h => g h.symm)).1, (hs k (by omega) (fun h => g h.symm)).2, ← Nat.add_mul, prodK_split e (by omega) fun i hi hne => hs i (by omega) hne]
def wayT (l : List Jb) (i : Nat) : Nat := (frT l i + 1).toNat
def waysT (l : List Jb) : Nat := prodK (wayT l) l.length
theorem ways_pos {l : List Jb} {os : List Od} (h : Pre l os 0) : 1 ≤ waysT l := prodK_pos fun i hi => by
 have := h.rg i hi
 unfold wayT frT
 omega
theorem part_L {l : List Jb} {os : List Od} {j : Nat} (h : Pre l os 0) (hj : j < l.length) (hf : 0 < frT l j) : Pre (partL l j (midT l j)) os 0 := by
 have hm := mid_rg hf
 unfold partL
 refine ⟨fun m hm => by omega, fun m hml => ?_, fun o ho => by rw [List.length_set]; exact h.od o ho⟩
 rw [List.length_set] at hml
 obtain ⟨e1, e2, e3, e4⟩ := set_job (m := m) (f := jf l j) (t := midT l j + jl l j) hj
 rw [e1, e2, e3, e4]
 have h1 := h.rg m hml
 by_cases e : m = j
 · subst e; rw [if_pos rfl, if_pos rfl]; omega
 · rw [if_neg e, if_neg e]; exact h1
theorem part_R {l : List Jb} {os : List Od} {j : Nat} (h : Pre l os 0) (hj : j < l.length) (hf : 0 < frT l j) : Pre (partR l j (midT l j)) os 0 := by
 have hm := mid_rg hf
 unfold partR
 refine ⟨fun m hm => by omega, fun m hml => ?_, fun o ho => by rw [List.length_set]; exact h.od o ho⟩
 rw [List.length_set] at hml
 obtain ⟨e1, e2, e3, e4⟩ := set_job (m := m) (f := midT l j + 1) (t := jt l j) hj
 rw [e1, e2, e3, e4]
 have h1 := h.rg m hml
 by_cases e : m = j
 · subst e; rw [if_pos rfl, if_pos rfl]; omega
 · rw [if_neg e, if_neg e]; exact h1
theorem ways_part {l : List Jb} {j : Nat} (hj : j < l.length) (hf : 0 < frT l j) : waysT (partL l j (midT l j)) + waysT (partR l j (midT l j)) = waysT l := by
 have hm := mid_rg hf
 unfold waysT
 rw [show (partL l j (midT l j)).length = l.length by simp [partL], show (partR l j (midT l j)).length = l.length by simp [partR]]
 refine prodK_split ?_ hj fun i hi hne => ?_
 · unfold wayT frT partL partR
   obtain ⟨e1, e2, e3, e4⟩ := set_job (m := j) (f := jf l j) (t := midT l j + jl l j) hj
   obtain ⟨d1, d2, d3, d4⟩ := set_job (m := j) (f := midT l j + 1) (t := jt l j) hj
   rw [e1, e2, e3, d1, d2, d3, if_pos rfl, if_pos rfl, if_pos rfl, if_pos rfl]
   unfold frT at hf
   omega
 · unfold wayT frT partL partR
   obtain ⟨e1, e2, e3, e4⟩ := set_job (m := i) (f := jf l j) (t := midT l j + jl l j) hj
   obtain ⟨d1, d2, d3, d4⟩ := set_job (m := i) (f := midT l j + 1) (t := jt l j) hj
   rw [e1, e2, e3, d1, d2, d3, if_neg hne, if_neg hne, if_neg hne, if_neg hne]
   exact ⟨rfl, rfl⟩
end Go.Sh
namespace Go.Proofs.Ytckmhlpngolbpaa
open Int renaming reduceToNat → zr, reduceTDiv → zd, reduceTMod → zm
open Go Go.Vc Go.Sh
abbrev JT : Ty := .cons (.int .i64) (.cons (.int .i64) (.cons (.int .i64) (.cons (.int .i64) .nil)))
abbrev OT : Ty := .cons (.int .i64) (.cons (.int .i64) .nil)
abbrev NT : Ty := .cons (.int .i64) (.cons (.int .i64) (.cons (.int .i64) (.cons (.int .i64) (.cons (.int .i64) (.cons (.int .i64) .nil)))))
abbrev I64 (n : Int) : SV := .lit (.int .i64 n)
theorem app_le {a b N : Nat} (hb : b = 1) (h : a + 1 ≤ N) : a + b ≤ N := by omega
theorem zL : (∀ {α : Type} {a : α} {n : Nat}, (List.replicate n a).length = n) ∧ (∀ {α : Type} {l : List α} {i : Nat} {a : α}, (l.set i a).length = l.length) ∧ (∀ {α : Type} {l m : List α}, (l ++ m).length = l.length + m.length) ∧ (∀ {α : Type} {a : α} {l : List α}, (a :: l).length = l.length + 1) ∧ ∀ {α : Type}, ([] : List α).length = 0 :=
 ⟨List.length_replicate, List.length_set, List.length_append, List.length_cons, List.length_nil⟩
theorem zSH : (∀ (xs : List Jb) (i : Nat), @List.getD JT.T xs i JT.dflt = @List.getD Jb xs i J0) ∧ (∀ (xs : List Jb), @List.length JT.T xs = @List.length Jb xs) ∧
  (∀ (xs : List Od) (i : Nat), @List.getD OT.T xs i OT.dflt = @List.getD Od xs i O0) ∧ (∀ (xs : List Od), @List.length OT.T xs = @List.length Od xs) ∧
  (∀ (xs : List Nd) (i : Nat), @List.getD NT.T xs i NT.dflt = @List.getD Nd xs i N0) ∧ ∀ (xs : List Nd), @List.length NT.T xs = @List.length Nd xs :=
 ⟨fun _ _ => rfl, fun _ => rfl, fun _ _ => rfl, fun _ => rfl, fun _ _ => rfl, fun _ => rfl⟩
structure Bd (l : List Jb) : Prop where
 len : l.length ≤ 100
 rg : ∀ m, m < l.length → (0 ≤ jf l m ∧ jf l m ≤ 100) ∧ (0 ≤ jt l m ∧ jt l m ≤ 100) ∧ (0 ≤ jl l m ∧ jl l m ≤ 100) ∧ 0 ≤ jp l m ∧ jp l m ≤ 100
theorem zA : (type_of% zHB) ∧ (type_of% zSH) := ⟨zHB, zSH⟩
theorem zb {p : Prop} (h : p := by first | (with_reducible rfl) | omega | rfl | exact Or.inl rfl | exact Or.inr rfl | exact of_decide_eq_true rfl | exact Path.imp_of (of_decide_eq_true rfl) | ((try simp only [zr, zd, zm, minL, maxL, pickB, zA, InK, Path.imp, zL] at *); omega) | (refine app_le rfl ?_; omega) | fail) : p := h
theorem zc {p : Prop} (h : p := by first | (with_reducible rfl) | omega | rfl | ((try simp only [zr, zd, zm, minL, maxL, pickB, zA, InK, Path.imp, zL] at *); omega) | fail) : p := h
theorem zi {p : Prop} (h : p := by first | exact trivial | exact ⟨rfl, trivial⟩ | (refine ⟨?_, trivial⟩; dsimp only; simp only [zr, zd, zm, minL, maxL, pickB, zA]; omega) | (refine ⟨?_, trivial⟩; dsimp only; (try simp only [zr, zd, zm, minL, maxL, pickB, zA]); (simp_all; done)) | (refine ⟨?_, trivial⟩; dsimp only; (simp only [zr, zd, zm, minL, maxL, pickB, zA]; done)) | (refine ⟨?_, trivial⟩; dsimp only; (simp; done)) | fail) : p := h
theorem zj {p : Prop} (h : p := by first | (intro h; have h := h.1; dsimp only at h; first | (exact Bool.noConfusion h) | (simp only [zr, zd, zm, minL, maxL, pickB, zA] at h; omega) | ((try simp only [zr, zd, zm, minL, maxL, pickB, zA] at h); (simp_all; done))) | fail) : p := h
theorem nd_rg {f t n p a b : Int} (hn : 0 ≤ n ∧ n ≤ 100) (hp : 0 ≤ p ∧ p ≤ 100) (ha : 0 ≤ a ∧ a ≤ b ∧ b ≤ 100) : 0 ≤ p * ndT f t n a b ∧ p * ndT f t n a b ≤ 10000 := by
 have h0 : 0 ≤ ndT f t n a b ∧ ndT f t n a b ≤ 100 := by unfold ndT; omega
 refine ⟨Int.mul_nonneg hp.1 h0.1, ?_⟩
 have := Int.mul_le_mul hp.2 h0.2 h0.1 (by omega)
 omega
theorem need_at {f t n p a b : Int} (hf : 0 ≤ f ∧ f ≤ 100) (ht : 0 ≤ t ∧ t ≤ 100) (hn : 0 ≤ n ∧ n ≤ 100) (hp : 0 ≤ p ∧ p ≤ 100) (ha : 0 ≤ a ∧ a ≤ b ∧ b ≤ 100) :
  FnAt Try.prog false 66 [.agg [I64 f, I64 t, I64 n, I64 p], I64 a, I64 b] (.lit (.int .i64 (p * ndT f t n a b))) [] := by
 have e : minL n [b - a, maxL 0 [f + n - a], maxL 0 [b - t + n]] = ndT f t n a b := by simp only [minL, maxL, ndT]; omega
 have hr := nd_rg (f := f) (t := t) hn hp ha
 have hik : InK .i64 (p * minL n [b - a, maxL 0 [f + n - a], maxL 0 [b - t + n]]) := by rw [e]; simp only [InK]; omega
 refine FnAt.of_body tys_ok Try.func66 (by rfl) rfl Try.ntmps66 (by rw [Try.results66]) (by simp) ?_
 repeat' (first
 | refine W.seq ?_
 | refine W.block ?_
 | (refine W.region tys_ok [] ?_; conv => whnf)
 | (refine W.drawAll tys_ok [] mixed rfl ?_; conv => whnf)
 | (refine W.ret ?_; conv => whnf)
 | (refine W.skip ?_; conv => whnf)
 | (refine W.exit ?_; conv => whnf)
 | (refine W.cond rfl (fun hb => ?_) (fun hb => ?_) <;> (try simp only [zr, zd, zm, minL, maxL, pickB, zA] at hb) <;> (try (first | (cases hb; done) | exact absurd hb (by decide) | (exfalso; omega))))
 | ((with_reducible refine And.intro ?_ ?_); exact zc; conv => whnf)
 | ((with_reducible refine And.intro (Side.out ?_) ?_); rotate_left; (conv => whnf))
 | ((first | refine retF1 ?_ | refine retF2 ?_) <;> (conv => whnf) <;> repeat' (first
 | exact trivial
 | (with_reducible rfl)
 | ((with_reducible refine And.intro ?_ ?_) <;> conv => whnf)
 | omega
 | rfl
 | (refine congrArg (SV.arr _) ?_)
 | (refine congrArg (Value.int _) ?_)
 | (refine congrArg Value.bool ?_)))); all_goals (try unfold Side)
 all_goals try exact hik
 all_goals try (repeat' (first | exact zb | with_reducible refine And.intro ?_ ?_))
 all_goals rw [e]
end Go.Proofs.Ytckmhlpngolbpaa
namespace Go.Vc
theorem seqM_app {P : Program} {T : List (Nat × TE)} {F Ms : List Nat} (hT : TOk P T) {c : Cx} {ops : Array Oper} {K : Sy → Prop} {Q : Exit → Act → World → Prop} {rest : List Nat}
  (hQ : ∀ Γ' g' a' w', K Γ' → St c Γ' g' a' w' → wpOps P ops Q rest a' w') :
  ∀ (l : List Oper) (i : Nat) (Γ : Sy) (g : Nat → Value) (a : Act) (w : World), (∃ z, ops.toList.drop i = l ++ z) → seqM P T F Ms c.n ops l i Γ K → St c Γ g a w → wpOps P ops Q (List.range' i l.length ++ rest) a w
 | [], i, Γ, g, a, w, _, h, hst => hQ Γ g a w h hst
 | o :: r, i, Γ, g, a, w, ⟨z, hl⟩, h, hst => by
  have hoi : ops[i]? = some o := by
   have : ops.toList[i]? = some o := by
    have := congrArg (fun l => l[0]?) hl
    simpa [List.getElem?_drop] using this
   simpa using this
  have hr : ops.toList.drop (i + 1) = r ++ z := by
   have := congrArg List.tail hl
   simpa [List.tail_drop] using this
  obtain ⟨Γ', h1, h2⟩ := step_sound hT hoi h
  rw [List.length_cons, List.range'_succ, List.cons_append, wpOps_cons]
  exact h1 Q g a w _ hst fun g' a' w' hs' => seqM_app hT hQ r (i + 1) Γ' g' a' w' ⟨z, hr⟩ h2 hs'
def RegW (P : Program) (n : Nat) (ops : Array Oper) (i : Nat) (Γ : Sy) (Q : Exit → Sy → Prop) : Prop :=
 ∀ (c : Cx) (g : Nat → Value) (a : Act) (w : World), c.n = n → St c Γ g a w → wpOps P ops (fun e a' w' => ∃ Γ' g', Q e Γ' ∧ St c Γ' g' a' w') (List.range' i (ops.size - i)) a w
theorem RegW.fin {P : Program} {n : Nat} {Q : Exit → Sy → Prop} {Γ : Sy} {T : List (Nat × TE)} (hT : TOk P T) (F Ms : List Nat) {ops : Array Oper} {i : Nat} (h : seqM P T F Ms n ops (ops.toList.drop i) i Γ (Q .normal)) : RegW P n ops i Γ Q := by
 intro c g a w hn hst
 subst hn
 have := seqM_sound (c := c) (ops := ops) (Q := fun e a' w' => ∃ Γ' g', Q e Γ' ∧ St c Γ' g' a' w') hT (fun Γ' g' a' w' h1 h2 => ⟨Γ', g', h1, h2⟩) (ops.toList.drop i) i Γ g a w rfl h hst
 simpa using this
theorem RegW.go {P : Program} {n : Nat} {Q : Exit → Sy → Prop} {Γ : Sy} {T : List (Nat × TE)} (hT : TOk P T) (F Ms : List Nat) {ops : Array Oper} {i : Nat} (k : Nat) (hk : (Nat.ble i k && Nat.ble k ops.size) = true)
  (h : seqM P T F Ms n ops ((ops.toList.drop i).take (k - i)) i Γ fun Γ1 => RegW P n ops k Γ1 Q) : RegW P n ops i Γ Q := by
 intro c g a w hn hst
 subst hn
 rw [Bool.and_eq_true] at hk
 have h3 := Nat.le_of_ble_eq_true hk.1
 have h4 := Nat.le_of_ble_eq_true hk.2
 have hl : ((ops.toList.drop i).take (k - i)).length = k - i := by rw [List.length_take, List.length_drop, Array.length_toList]; omega
 have e : List.range' i (ops.size - i) = List.range' i ((ops.toList.drop i).take (k - i)).length ++ List.range' k (ops.size - k) := by
  rw [hl]
  have := List.range'_append (s := i) (m := k - i) (n := ops.size - k) (step := 1)
  rw [show i + 1 * (k - i) = k by omega, show k - i + (ops.size - k) = ops.size - i by omega] at this
  exact this.symm
 rw [e]
 exact seqM_app (K := fun Γ1 => RegW P c.n ops k Γ1 Q) hT (fun Γ' g' a' w' h5 h6 => h5 c g' a' w' rfl h6) _ i Γ g a w ⟨(ops.toList.drop i).drop (k - i), (List.take_append_drop _ _).symm⟩ h hst
theorem RegW.skip {P : Program} {n : Nat} {Q : Exit → Sy → Prop} {Γ : Sy} {ops : Array Oper} {i : Nat} {o : Oper} {G : Path} {t : Nat} (ho : ops[i]? = some o) (hG : guardOf (dstsOf ops) Γ o.guard = some G) (hno : ¬ G.ok) (ht : o.dst = some t) (hlt : Nat.blt t n = true) (A : AV)
  (h : RegW P n ops (i + 1) (Γ.putB t (gd' G A)) Q) : RegW P n ops i Γ Q := by
 intro c g a w hn hst
 subst hn
 have hi : i < ops.size := (Array.getElem?_eq_some_iff.1 ho).1
 have e : List.range' i (ops.size - i) = i :: List.range' (i + 1) (ops.size - (i + 1)) := by
  rw [show ops.size - i = ops.size - (i + 1) + 1 by omega, List.range'_succ]
 rw [e, wpOps_cons]
 unfold wpOp
 rw [ho]
 dsimp only
 rw [if_neg (fun h => hno ((guardOf.wanted (ops := ops) hst hG).1 h)), ht]
 refine h c g _ w rfl ((hst.put (Nat.le_of_ble_eq_true hlt) (A := gd' G A) ?_).congr (fun _ => rfl) (fun _ => rfl))
 cases G with
 | nil => exact absurd trivial hno
 | cons x r => exact ⟨fun h => absurd h hno, fun _ => rfl⟩
abbrev Phc := List (List Nat × Nat × Nat × Option Sy)
def plainPh : Phc → List (List Nat × Nat × Nat)
 | [] => []
 | x :: r => (x.1, x.2.1, x.2.2.1) :: plainPh r
noncomputable def phC (P : Program) (T : List (Nat × TE)) (F Ms : List Nat) (n : Nat) (ops : Array Oper) (E : List Nat) (l : Phc) : Nat → Sy → (Sy → Prop) → Prop :=
 List.rec (motive := fun _ => Nat → Sy → (Sy → Prop) → Prop) (fun _ Γ K => K Γ) (fun x _ ih done Γ K => match x.2.2.2 with
  | none => floatVC T n ops x.1 Γ fun Γ1 => treeM P T F Ms n ops E x.2.1 (addM done x.1) Γ1 fun d' Γ' => ck (Nat.beq d' x.2.2.1) (ih x.2.2.1 Γ' K)
  | some Γ2 => Both (floatVC T n ops x.1 Γ fun Γ1 => treeM P T F Ms n ops E x.2.1 (addM done x.1) Γ1 fun d' Γ' => ck (Nat.beq d' x.2.2.1) (Leaf (Sub Γ' Γ2 (mkRen Γ' Γ2)))) (ih x.2.2.1 Γ2 K)) l
theorem phC_sound {P : Program} {T : List (Nat × TE)} {F Ms : List Nat} (hT : TOk P T) {ops : Array Oper} {E : List Nat} (hE : dirms ops = E) {K : Sy → Prop} {Q : Exit → Act → World → Prop} (hs : Region.noSelect ops = true) (hQp : ∀ x a w, ¬ Q (.panic x) a w)
    (hed : ∀ j o, ops[j]? = some o → ∀ e ∈ o.after, Region.binds .any e = true → e.on < j) (c0 : Cx) (hQ : ∀ Γ' g' a' w' K', K Γ' → (∀ b x, c0.K b = some x → K' b = some x) → St { c0 with K := K' } Γ' g' a' w' → Q .normal a' w') :
    ∀ (ph : Phc) (K0 : Nat → Option (Array Value × TypeId × (Nat × Nat))) (listed : Array Bool) (done : Nat) (Γ : Sy) (g : Nat → Value) (a : Act) (w : World), (∀ b x, c0.K b = some x → K0 b = some x) → listed.size = ops.size →
      (∀ j, j < ops.size → listed[j]? = some (done.testBit j)) → phOk ops (plainPh ph) done = true → phC P T F Ms c0.n ops E ph done Γ K → St { c0 with K := K0 } Γ g a w → wpAnyH P .any ops Q (Cx.S { c0 with K := K0 }) (cnt listed) listed a w
  | [], K0, listed, done, Γ, g, a, w, hK0, hsz, hd, hok, h, hst => by
    have hall : ∀ i, i < listed.size → listed[i]? = some true := fun i hi => by
      have := allBelow_get hok i (by omega)
      rw [hd i (by omega), this]
    have hc : cnt listed = 0 := by
      refine Classical.byContradiction fun hne => ?_
      obtain ⟨i, h1, _⟩ := cnt_pos (listed := listed) (by omega)
      have hi := (Array.getElem?_eq_some_iff.1 h1).1
      rw [hall i hi] at h1
      cases h1
    rw [hc]
    refine ⟨List.eq_nil_iff_forall_not_mem.2 fun i hi => ?_, hQ Γ g a w K0 h hK0 hst⟩
    obtain ⟨h1, h2, _⟩ := ready_mem.1 hi
    have := hall i (by omega)
    simp [Array.getD_eq_getD_getElem?, this] at h2
  | (L, k, d, cut) :: r, K0, listed, done, Γ, g, a, w, hK0, hsz, hd, hok, h, hst => by
    simp only [plainPh, phOk, Bool.and_eq_true] at hok
    obtain ⟨⟨⟨⟨hf, honce⟩, hnew⟩, hle⟩, hrest⟩ := hok
    have harr := arrOf_eq hsz hd
    rw [← harr] at hf hle
    have hle := Nat.le_of_ble_eq_true hle
    obtain ⟨K1, hK1, hK2⟩ := keepAll w (Oset Γ.own g)
    have hsub : ∀ b x, K0 b = some x → K1 b = some x := fun b x hb => hK2 b _ _ _ (hst.kept b x hb).1 (hst.kept b x hb).2
    have hst1 : St { c0 with K := K1 } Γ g a w := ⟨hst.defers, hst.size, hst.keep, hst.o0, hst.tmps, hK1, hst.hp, hst.low, hst.pin⟩
    refine wpAnyH_sub (S' := Cx.S { c0 with K := K1 }) (fun w' h' b x hb => h' b x (hsub b x hb)) _ _ _ _ ?_
    have hun : ∀ i, memN i L = true → listed[i]? = some false := fun i hi => by
      have hlt := listOnce_lt honce i hi
      have h1 := allBelow_get hnew i hlt
      rw [hd i hlt]
      simp only [hi, Bool.true_and, Bool.not_eq_true'] at h1
      rw [h1]
    have hcn := cnt_listAll (L := L) (l := listed) honce hsz hun
    -- the phase, and what is known behind it
    obtain ⟨K2, hph, hnext⟩ : ∃ K2 : Sy → Prop, (floatVC T c0.n ops L Γ fun Γ1 => treeM P T F Ms c0.n ops E k (addM done L) Γ1 fun d' Γ' => ck (Nat.beq d' d) (K2 Γ')) ∧
        ∀ Γ' g' a' w', K2 Γ' → St { c0 with K := K1 } Γ' g' a' w' → ∃ Γ'' g'', phC P T F Ms c0.n ops E r d Γ'' K ∧ St { c0 with K := K1 } Γ'' g'' a' w' := by
      cases cut with
      | none => exact ⟨fun Γ' => phC P T F Ms c0.n ops E r d Γ' K, h, fun Γ' g' a' w' h1 h2 => ⟨Γ', g', h1, h2⟩⟩
      | some Γ2 =>
        obtain ⟨ha, hb⟩ := h
        exact ⟨fun Γ' => Leaf (Sub Γ' Γ2 (mkRen Γ' Γ2)), ha, fun Γ' g' a' w' h1 h2 => ⟨Γ2, _, hb, Sub.st h1.1 h2⟩⟩
    have hgo := floats (P := P) (c := { c0 with K := K1 }) (w := w) (Q := Q) hT hs hQp hK2 L listed Γ a (cnt (listAll L listed)) rfl hf hph hst1
    rw [hcn] at hgo
    refine hgo fun Γ1 a1 h1 hst2 => ?_
    obtain ⟨m, hm⟩ : ∃ m, cnt (listAll L listed) = k + m := ⟨cnt (listAll L listed) - k, by omega⟩
    rw [hm]
    refine treeM_sound (c := { c0 with K := K1 }) hT hE (m := m) (fun listed' done' Γ' g' a' w' hsz' hc' hd' hk' hst' => ?_) hed k _ (addM done L) Γ1 g a1 _ (by rw [listAll_size]; exact hsz) hm (fun j hj => ?_) h1 hst2
    · obtain ⟨h2, h3⟩ := ck_ok hk'
      have h2 := Nat.eq_of_beq_eq_true h2
      rw [h2] at hd'
      obtain ⟨Γ'', g'', h4, h5⟩ := hnext Γ' g' a' w' h3 hst'
      have := phC_sound hT hE hs hQp hed c0 hQ r K1 listed' d Γ'' g'' a' w' (fun b x hb => hsub b x (hK0 b x hb)) hsz' hd' hrest h4 h5
      rw [hc'] at this
      exact this
    · rw [listAll_get (by omega), addM_bit]
      cases hmm : memN j L with
      | true => simp
      | false => simp [hd j hj]
theorem W.drawCK {P : Program} {n : Nat} {Q : Exit → Sy → Prop} {Γ : Sy} {T : List (Nat × TE)} (hT : TOk P T) (F Ms : List Nat) (hmx : P.follows .mixedOrders = true) (E : List Nat) (ph : Phc) {id : Nat} {ops : Array Oper} {K : Sy → Prop}
  (hK : ∀ c Γ' g' a' w', K Γ' → St c Γ' g' a' w' → ∃ Γ'' g'', Q .normal Γ'' ∧ St c Γ'' g'' a' w')
  (hd : (allBelow ops.size (fun j => match ops[j]? with
   | none => false
   | some o => edgesLt j o.after.toList) && (dirms ops == E) && phOk ops (plainPh ph) 0 && Region.noSelect ops) = true)
  (h : phC P T F Ms n ops E ph 0 Γ K) : W P n (.region id ops true) Γ Q := by
 simp only [Bool.and_eq_true] at hd
 obtain ⟨⟨⟨hall, hE⟩, hok⟩, hsel⟩ := hd
 have hE : dirms ops = E := by simpa using hE
 have hed : ∀ j o, ops[j]? = some o → ∀ e ∈ o.after, Region.binds .any e = true → e.on < j := by
  intro j o ho
  have hlt := (Array.getElem?_eq_some_iff.1 ho).1
  have h1 := allBelow_get hall j hlt
  rw [ho] at h1
  exact fun e he hb => edgesLt_get h1 (by simpa using he) hb
 refine ⟨fun c g a w hn hst => ?_⟩
 have key : (Code.region id ops true).wp P (fun e a' w' => match e with | .normal => ∃ Γ' g', K Γ' ∧ St c Γ' g' a' w' | _ => False) a w := by
  refine wp_region_held (S := c.S) hmx ?_
  have hcr : cnt (Array.replicate ops.size false) = ops.size := by simp [cnt, List.filter_replicate]
  have hmain := phC_sound (K := K) (Q := fun e a' w' => match e with | .normal => ∃ Γ' g', K Γ' ∧ St c Γ' g' a' w' | _ => False) hT hE hsel (fun _ _ _ h => h) hed c (fun Γ' g' a' w' K' hq hK' hst' =>
   ⟨Γ', g', hq, hst'.defers, hst'.size, hst'.keep, hst'.o0, hst'.tmps, fun b x hb => hst'.kept b x (hK' b x hb), hst'.hp, hst'.low, hst'.pin⟩) ph c.K (Array.replicate ops.size false) 0 Γ g a { w with drawn := w.drawn + 1 } (fun _ _ h => h) (by simp) (fun j hj => by simp [hj]) hok (by rw [hn]; exact h) (hst.keepW (Keep.drew w))
  rw [hcr] at hmain
  exact hmain
 refine wp_mono key fun e a' w' hq => ?_
 cases e with
 | normal =>
  obtain ⟨Γ', g', h1, h2⟩ := hq
  exact hK c Γ' g' a' w' h1 h2
 | _ => exact hq.elim
theorem W.drawC {P : Program} {n : Nat} {Q : Exit → Sy → Prop} {Γ : Sy} {T : List (Nat × TE)} (hT : TOk P T) (F Ms : List Nat) (hmx : P.follows .mixedOrders = true) (E : List Nat) (ph : Phc) {id : Nat} {ops : Array Oper}
  (hd : (allBelow ops.size (fun j => match ops[j]? with
   | none => false
   | some o => edgesLt j o.after.toList) && (dirms ops == E) && phOk ops (plainPh ph) 0 && Region.noSelect ops) = true)
  (h : phC P T F Ms n ops E ph 0 Γ fun Γ' => Q .normal Γ') : W P n (.region id ops true) Γ Q :=
 W.drawCK hT F Ms hmx E ph (K := fun Γ' => Q .normal Γ') (fun c Γ' g' a' w' h1 h2 => ⟨Γ', g', h1, h2⟩) hd h
def Own1 (Γ : Sy) (g : Nat → Value) (k b : Nat) : Prop := (∃ o, get? Γ.own k = some o) ∧ Blk (g k) b
def Sy.merge (Γ : Sy) (k k2 : Nat) (o' : Ob) : Sy := ⟨((Γ.only k).drop k2).tmps, (k, o') :: ((Γ.only k).drop k2).own⟩
theorem St.merge {c : Cx} {Γ : Sy} {g : Nat → Value} {a : Act} {w w' : World} (h : St c Γ g a w) {k k2 : Nat} {o' : Ob} {v' : Value} (hlow : k % PK2 < PK)
  (h1 : w'.os = w.os) (h2 : w'.tape = w.tape) (h3 : w'.output = w.output) (h4 : w.heap.size ≤ w'.heap.size) (hw : ∀ b, b < w.heap.size → ¬ Own1 Γ g k b → w'.heap[b]? = w.heap[b]?)
  (hv : ∀ b, Blk v' b → Own1 Γ g k b ∨ Own1 Γ g k2 b ∨ w.heap.size ≤ b)
  (ho : OwnOk w' 0 (Oset (Γ.merge k k2 o').own (updg g k v')) c.O0 (updg g k v') v' o') : St c (Γ.merge k k2 o') (updg g k v') a w' := by
 have hs := h.only k
 have own1 : ∀ j o, get? (Γ.only k).own j = some o → ∃ o0, get? Γ.own j = some o0 ∧ o = o0.purge k := fun j o hj => by
  simp only [Sy.only, get?_mapv] at hj
  obtain ⟨o0, q1, q2⟩ := Option.map_eq_some_iff.1 hj
  exact ⟨o0, q1, q2.symm⟩
 have own1' : ∀ j o, get? Γ.own j = some o → get? (Γ.only k).own j = some (o.purge k) := fun j o hj => by
  simp only [Sy.only, get?_mapv, hj, Option.map_some]
 have own2 : ∀ j o, get? (Γ.merge k k2 o').own j = some o → (j = k ∧ o = o') ∨ (j ≠ k ∧ j ≠ k2 ∧ ∃ o0, get? (Γ.only k).own j = some o0 ∧ o = o0.purge k2) := fun j o hj => by
  simp only [Sy.merge, get?] at hj
  split at hj
  · rename_i hb
    cases hj
    exact .inl ⟨(Nat.eq_of_beq_eq_true hb).symm, rfl⟩
  · rename_i hb
    have hjk : j ≠ k := fun e => by rw [e, Nat.beq_refl] at hb; cases hb
    simp only [Sy.drop, get?_mapv, get?_del] at hj
    split at hj
    · cases hj
    · rename_i hne
      obtain ⟨o0, q1, q2⟩ := Option.map_eq_some_iff.1 hj
      exact .inr ⟨hjk, hne, o0, q1, q2.symm⟩
 have one_set : ∀ j b, Own1 Γ g j b → Oset (Γ.only k).own g b := fun j b hb => by
  obtain ⟨⟨o, q1⟩, q2⟩ := hb
  exact ⟨j, _, own1' j o q1, q2⟩
 have hO : ∀ b, b < w.heap.size → Oset (Γ.merge k k2 o').own (updg g k v') b → Oset (Γ.only k).own g b := by
  rintro b hlt ⟨j, o, q1, q2⟩
  rcases own2 j o q1 with ⟨rfl, rfl⟩ | ⟨hj, _, o0, q3, _⟩
  · simp only [updg, if_true] at q2
    rcases hv b q2 with q | q | q
    · exact one_set _ b q
    · exact one_set _ b q
    · omega
  · simp only [updg, hj, if_false] at q2
    exact ⟨j, o0, q3, q2⟩
 have hmono : ∀ b x e fz, w.heap[b]? = some (.cells x e fz) → ¬ Oset (Γ.only k).own g b → w'.heap[b]? = some (.cells x e fz) ∧ ¬ Oset (Γ.merge k k2 o').own (updg g k v') b := fun b x e fz hb hn =>
  ⟨(hw b (heap_lt hb) fun q => hn (one_set _ b q)).trans hb, fun h' => hn (hO b (heap_lt hb) h')⟩
 refine hs.change ⟨h1.trans hs.keep.os, h2.trans hs.keep.tape, h3.trans hs.keep.output, Nat.le_trans hs.keep.size h4, fun b hb hn => ?_⟩ hmono (fun t A' hA => ?_) ⟨fun j o hj => ?_, fun j j' o1 o2 b hj hj' hb hb' => ?_⟩ (fun b hb => ?_) (fun j hj => ?_)
 · have hlt : b < w.heap.size := Nat.lt_of_lt_of_le hb hs.keep.size
   rw [hw b hlt fun q => ?_]
   · exact hs.keep.b b hb hn
   · rcases hs.low b (one_set _ b q) with q2 | q2
     · omega
     · exact hn q2
 · simp only [Sy.merge, Sy.drop, get?_mapv] at hA
   obtain ⟨A0, q1, rfl⟩ := Option.map_eq_some_iff.1 hA
   rcases AV.purge_key k2 A0 with q | ⟨q, _⟩
   · exact .inl q
   · rw [q]
     refine .inr ⟨q1, fun j hj => ?_⟩
     simp only [Sy.only, get?_mapv] at q1
     obtain ⟨A1, _, rfl⟩ := Option.map_eq_some_iff.1 q1
     rcases AV.purge_key k A1 with p | ⟨p, p2⟩
     · rw [p] at hj; cases hj
     · rw [p] at hj
       unfold updg
       split
       · rename_i e; rw [e, p2] at hj; cases hj
       · rfl
 · rcases own2 j o hj with ⟨rfl, rfl⟩ | ⟨hjk, hj2, o0, q3, rfl⟩
   · simp only [updg, if_true]; exact ho
   · have e : updg g k v' j = g j := by simp only [updg, hjk, if_false]
     rw [e]
     have hok := hs.hp.ok j o0 q3
     refine (hok.mono hmono (fun _ _ _ _ _ _ h => h) (fun b hb => hw b (hok.lt hb).2 fun q => ?_) fun i hi => ?_).purge
     · obtain ⟨⟨oo, p1⟩, p2⟩ := q
       exact hjk (hs.hp.inj j k _ _ b q3 (own1' k oo p1) hb p2)
     · obtain ⟨o00, _, rfl⟩ := own1 j o0 q3
       unfold updg
       split
       · rename_i e; rw [e, Ob.purge_no] at hi; cases hi
       · rfl
 · rcases own2 j o1 hj with ⟨rfl, rfl⟩ | ⟨hjk, hj2, p1, q3, rfl⟩ <;> rcases own2 j' o2 hj' with ⟨rfl, rfl⟩ | ⟨hjk', hj2', p2, q4, rfl⟩
   · rfl
   · simp only [updg, if_true] at hb
     simp only [updg, hjk', if_false] at hb'
     rcases hv b hb with q | q | q
     · obtain ⟨⟨oo, r1⟩, r2⟩ := q
       exact absurd (hs.hp.inj j' _ _ _ b q4 (own1' _ oo r1) hb' r2) hjk'
     · obtain ⟨⟨oo, r1⟩, r2⟩ := q
       exact absurd (hs.hp.inj j' _ _ _ b q4 (own1' _ oo r1) hb' r2) hj2'
     · have := ((hs.hp.ok j' _ q4).lt hb').2
       omega
   · simp only [updg, if_true] at hb'
     simp only [updg, hjk, if_false] at hb
     rcases hv b hb' with q | q | q
     · obtain ⟨⟨oo, r1⟩, r2⟩ := q
       exact absurd (hs.hp.inj j _ _ _ b q3 (own1' _ oo r1) hb r2) hjk
     · obtain ⟨⟨oo, r1⟩, r2⟩ := q
       exact absurd (hs.hp.inj j _ _ _ b q3 (own1' _ oo r1) hb r2) hj2
     · have := ((hs.hp.ok j _ q3).lt hb).2
       omega
   · simp only [updg, hjk, if_false] at hb
     simp only [updg, hjk', if_false] at hb'
     exact hs.hp.inj j j' _ _ b q3 q4 hb hb'
 · by_cases hlt : b < w.heap.size
   · exact .inl (hO b hlt hb)
   · exact .inr (Nat.le_trans hs.keep.size (by omega))
 · unfold updg
   split
   · rename_i e; rw [e] at hj; omega
   · rfl
theorem run_lit1 {P : Program} {t e : TypeId} {te : TE} (hu : P.underlying t = some (.slice e)) (he : te.ok P e) (h1 : te.size = 1) {zv : Value} (hz : te.zero.cells.size = 1) {v : Value} (hv : v.oneCell' = true) (w : World) :
  (Instr.buildSlice t 1 #[(0, v)]).run P w = .ok (.slice (some ⟨w.heap.size, 0, none⟩) 1 1) (w.alloc (.cells #[v] e)) := by
 obtain ⟨i0, hi, hzz, hs, hb⟩ := he.info
 have hsz : i0.size = 1 := by rw [hs]; exact h1
 have hvc : v.cells = #[v] := cells_one hv
 let cells0 : Array Value := (Array.range (1 * i0.size)).map fun k => (if 1 * i0.size = 0 then (#[] : Array Value) else te.zero.cells)[k % (if 1 * i0.size = 0 then (#[] : Array Value) else te.zero.cells).size]!
 have hc0 : cells0.size = 1 := by simp [cells0, hsz]
 obtain ⟨res, hr1, hr2, _, hr3⟩ := fill_seq 1 [v] 0 cells0 (fun u hu => by rw [List.mem_singleton] at hu; rw [hu, hvc]; rfl) (by rw [hc0]; simp)
 have hres : res = #[v] := by
  have q := hr3 0 v 0 rfl (by decide)
  rw [hvc] at q
  have q2 : res[0]? = some v := by simpa using q
  have q3 : res.size = 1 := by rw [hr2, hc0]
  apply Array.ext
  · rw [q3]; rfl
  · intro i h1 h2
    have hi0 : i = 0 := by omega
    subst hi0
    rw [Array.getElem?_eq_getElem h1] at q2
    simpa using q2
 have hfill : Instr.fill (fun i => some (i * i0.size, i0.size)) cells0 (#[((0 : Nat), v)] : Array (Nat × Value)).toList = some res := by rw [hsz]; exact hr1
 have hz0 : ¬ (1 * i0.size = 0) := by rw [hsz]; decide
 have hble : ¬ (1 * i0.size > 2 ^ 24) := by rw [hsz]; decide
 unfold Instr.buildSlice
 simp only [cells0, hz0, if_false] at hfill
 simp only [Sem.run_bind, run_underlying hu, Result.andThen_ok, sizeOf, typeInfo, run_program, hi, Sem.run_pure, hble, hz0, if_false, zeroValue, hzz]
 rw [hfill]
 simp [newRow, hres]
theorem RowOk.nil {w : World} {base e : Nat} {O O0 : Nat → Prop} {τ : Ty} {fr : Bool} : RowOk w base O O0 (.slice none 0 0) e τ fr [] := by
 refine ⟨[], ⟨(Nat.zero_mul _).symm, .inl ⟨rfl, rfl⟩⟩, (fun x hx => by cases hx), fun _ => undef, fun i hi => ?_, fun i x hx => ?_⟩
 · simp at hi
 · simp at hx
def mlitVC (T : List (Nat × TE)) (Γ : Sy) (n : Nat) (d : Nat) (t : TypeId) (k2 D : Nat) (K : Sy → Prop) : Prop := match get? T t with
  | some { kind := .sl e, .. } => match get? T e with
    | some te => match get? (Γ.drop d).own k2 with
      | some (.row e' τ fr xs) => (Nat.beq te.size 1 && Nat.beq te.zero.cells.size 1 && Nat.blt (d % PK2) PK && Nat.blt D n) = true ∧
          K ⟨set ((Γ.drop d).merge d k2 (.mat e e' τ fr [xs] none)).tmps D (.mown d), ((Γ.drop d).merge d k2 (.mat e e' τ fr [xs] none)).own⟩
      | _ => False
    | none => False
  | _ => False
theorem mlitVC.sound {P : Program} {T : List (Nat × TE)} (hT : TOk P T) {c : Cx} {o : Oper} {Γ : Sy} {d : Nat} {t : TypeId} {x : Operand} {k2 D : Nat} {K : Sy → Prop}
    (ho : o.op = .buildSlice t 1 #[(0, x)]) (hd : o.dst = some D) (hx : Ev c Γ [] x (.own k2)) (h : mlitVC T Γ c.n d t k2 D K) : ∃ Γ', Seq P c o Γ Γ' ∧ K Γ' := by
  unfold mlitVC at h
  split at h
  · rename_i e sz by_ ze ty ht
    have hu := (hT _ _ ht).sl rfl
    split at h
    · rename_i te hte
      have he := hT _ _ hte
      split at h
      · rename_i e' τ fr xs hk
        obtain ⟨hc, hK⟩ := h
        simp only [Bool.and_eq_true] at hc
        obtain ⟨⟨⟨c1, c2⟩, c3⟩, c4⟩ := hc
        refine ⟨_, ?_, hK⟩
        intro g a w next Q hst hkk
        have hv : a.eval x = g k2 := hx trivial Γ g a w rfl hst
        have hs1 := hst.drop d
        have hrow := hs1.hp.ok k2 _ hk
        have hone : (g k2).oneCell' = true := by
          obtain ⟨zs, ⟨_, hr⟩, _⟩ := hrow
          rcases hr with ⟨q, _⟩ | ⟨b, cap, cur, q, _⟩ <;> rw [q] <;> rfl
        have hrun := run_lit1 (P := P) hu he (Nat.eq_of_beq_eq_true c1) (zv := te.zero) (Nat.eq_of_beq_eq_true c2) hone w
        obtain ⟨v', hv'⟩ : ∃ v', v' = Value.tuple #[.slice (some ⟨w.heap.size, 0, none⟩) 1 1, g k2] := ⟨_, rfl⟩
        have hhd : Go.Vc.hd v' = .slice (some ⟨w.heap.size, 0, none⟩) 1 1 := by rw [hv']; rfl
        have hs0 : sub v' 0 = g k2 := by rw [hv']; rfl
        have hsn : ∀ i, i ≠ 0 → sub v' i = .slice none 0 0 := fun i hi => by
          rw [hv']
          show Array.getD _ (i + 1) _ = _
          rw [Array.getD_eq_getD_getElem?, Array.getElem?_eq_none (by simp; omega)]; rfl
        have hdk : k2 ≠ d := fun e => by
          rw [e] at hk
          have := (Γ.drop_free d (Nat.le_of_ble_eq_true c3)).2.2.1
          rw [this] at hk; cases hk
        have hbb : ∀ b, Blk v' b → b = w.heap.size ∨ Blk (g k2) b := by
          rintro b (q | ⟨i, q⟩)
          · rw [hhd] at q; cases q; exact .inl rfl
          · by_cases hi : i = 0
            · rw [hi, hs0] at q; exact .inr (.of q)
            · rw [hsn i hi] at q; cases q
        have hO : ∀ b, b < w.heap.size → Oset ((Γ.drop d).merge d k2 (.mat e e' τ fr [xs] none)).own (updg g d v') b → Oset (Γ.drop d).own g b := by
          rintro b hlt ⟨j, o', q1, q2⟩
          simp only [Sy.merge, get?] at q1
          split at q1
          · rename_i hb
            have hb := Nat.eq_of_beq_eq_true hb
            subst hb
            simp only [updg, if_true] at q2
            rcases hbb b q2 with q | q
            · omega
            · exact ⟨k2, _, hk, q⟩
          · rename_i hb
            have hjd : j ≠ d := fun e => by rw [e, Nat.beq_refl] at hb; cases hb
            simp only [updg, hjd, if_false] at q2
            simp only [Sy.drop, get?_mapv, get?_del] at q1
            split at q1
            · cases q1
            · obtain ⟨o0, q3, _⟩ := Option.map_eq_some_iff.1 q1
              simp only [Sy.only, get?_mapv] at q3
              obtain ⟨o1, q4, _⟩ := Option.map_eq_some_iff.1 q3
              refine ⟨j, o1, ?_, q2⟩
              simp only [Sy.drop, get?_mapv, get?_del] at q4 ⊢
              exact q4
        have key := hs1.merge (w' := w.alloc (.cells #[g k2] e)) (k := d) (k2 := k2) (o' := .mat e e' τ fr [xs] none) (v' := v') (Nat.le_of_ble_eq_true c3) rfl rfl rfl (Keep.alloc w _).size (fun b hb _ => (Keep.alloc w _).b b hb) (fun b hb => by
            rcases hbb b hb with q | q
            · exact .inr (.inr (by omega))
            · exact .inr (.inl ⟨⟨_, hk⟩, q⟩)) ?_
        · unfold Oper.wp
          have hex : (execOp a.eval o).run P w = .ok (.value (.slice (some ⟨w.heap.size, 0, none⟩) 1 1)) (w.alloc (.cells #[g k2] e)) := by
            rw [← hv] at hrun
            simp only [execOp, ho, Sem.run_bind]
            have : ((#[(0, x)] : Array (Nat × Operand)).map fun (i, x) => (i, a.eval x)) = #[(0, a.eval x)] := by simp
            rw [this, hrun]
            rw [hv]; rfl
          rw [hex]
          refine hkk (updg g d v') (a.put o.dst (.slice (some ⟨w.heap.size, 0, none⟩) 1 1)) _ ?_
          rw [hd]
          exact key.put (t := D) (A := .mown d) (Nat.le_of_ble_eq_true c4) (show _ = Go.Vc.hd (updg g d v' d) by simp [updg, hhd])
        · have hmono : ∀ b x e0 fz, w.heap[b]? = some (.cells x e0 fz) → ¬ Oset (Γ.drop d).own g b → (w.alloc (.cells #[g k2] e)).heap[b]? = some (.cells x e0 fz) ∧ ¬ Oset ((Γ.drop d).merge d k2 (.mat e e' τ fr [xs] none)).own (updg g d v') b := fun b x e0 fz hb hn =>
            ⟨((Keep.alloc w _).b b (heap_lt hb)).trans hb, fun h' => hn (hO b (heap_lt hb) h')⟩
          refine ⟨⟨[g k2], ?_, fun x hx => by rw [List.mem_singleton] at hx; rw [hx]; exact hone, fun i hi _ => ?_⟩, fun i => ?_, fun i j b q1 q2 => ?_, fun i b q1 q2 => ?_⟩
          · rw [hhd]
            refine ⟨rfl, .inr ⟨w.heap.size, 1, #[g k2], rfl, Nat.zero_le _, heap_alloc_new w _, Nat.le_refl _, by unfold maxLen; omega, rfl, rfl⟩⟩
          · have hi0 : i = 0 := by have hi : i < 1 := hi; omega
            subst hi0
            rw [hs0]; rfl
          · by_cases hi : i = 0
            · subst hi
              rw [hs0]
              exact RowOk.mono hmono (fun _ _ _ _ _ _ h => h) (fun b hb => (Keep.alloc w _).b b ((hs1.hp.ok k2 _ hk).lt (.of hb)).2) hrow
            · rw [hsn i hi]
              have : ([xs] : List (List τ.T)).getD i [] = [] := by
                cases i with
                | zero => exact absurd rfl hi
                | succ i => rfl
              rw [this]
              exact RowOk.nil
          · by_cases hi : i = 0
            · by_cases hj : j = 0
              · rw [hi, hj]
              · rw [hsn j hj] at q2; cases q2
            · rw [hsn i hi] at q1; cases q1
          · rw [hhd] at q2
            cases q2
            by_cases hi : i = 0
            · rw [hi, hs0] at q1
              exact absurd (OwnOk.lt hrow (.of q1)).2 (Nat.lt_irrefl _)
            · rw [hsn i hi] at q1; cases q1
      · exact h.elim
    · exact h.elim
  · exact h.elim
theorem merge_set {Γ : Sy} {g : Nat → Value} {w : World} {k k2 : Nat} {o' : Ob} {v' : Value} (hv : ∀ b, Blk v' b → Own1 Γ g k b ∨ Own1 Γ g k2 b ∨ w.heap.size ≤ b) {b : Nat} (hlt : b < w.heap.size)
  (h : Oset (Γ.merge k k2 o').own (updg g k v') b) : Oset Γ.own g b := by
 obtain ⟨j, o, q1, q2⟩ := h
 simp only [Sy.merge, get?] at q1
 split at q1
 · rename_i hb
   have hb := Nat.eq_of_beq_eq_true hb
   subst hb
   simp only [updg, if_true] at q2
   rcases hv b q2 with q | q | q
   · obtain ⟨⟨oo, r1⟩, r2⟩ := q; exact ⟨_, oo, r1, r2⟩
   · obtain ⟨⟨oo, r1⟩, r2⟩ := q; exact ⟨_, oo, r1, r2⟩
   · omega
 · rename_i hb
   have hjk : j ≠ k := fun e => by rw [e, Nat.beq_refl] at hb; cases hb
   simp only [updg, hjk, if_false] at q2
   simp only [Sy.drop, get?_mapv, get?_del] at q1
   split at q1
   · cases q1
   · obtain ⟨o0, q3, _⟩ := Option.map_eq_some_iff.1 q1
     simp only [Sy.only, get?_mapv] at q3
     obtain ⟨o1, q4, _⟩ := Option.map_eq_some_iff.1 q3
     exact ⟨j, o1, q4, q2⟩
theorem mkTup (v1 : Value) (n : Nat) (f : Nat → Value) : ∃ v', Go.Vc.hd v' = v1 ∧ (∀ i, i < n → sub v' i = f i) ∧ ∀ i, n ≤ i → sub v' i = .slice none 0 0 := by
 refine ⟨.tuple (#[v1] ++ (Array.range n).map f), ?_, fun i hi => ?_, fun i hi => ?_⟩
 · have h1 : ∀ (x : Value) (l : Array Value), Go.Vc.hd (.tuple (#[x] ++ l)) = x := fun x l => by
    simp [Go.Vc.hd, Array.getD_eq_getD_getElem?, Array.getElem?_append]
   exact h1 _ _
 · simp [sub, Array.getD_eq_getD_getElem?, Array.getElem?_append, hi]
 · show Array.getD _ (i + 1) _ = _
   rw [Array.getD_eq_getD_getElem?, Array.getElem?_append_right (by simp)]
   simp only [List.size_toArray, List.length_cons, List.length_nil, Nat.zero_add, Nat.add_sub_cancel, Array.getElem?_map]
   rw [Array.getElem?_eq_none (by simp; omega)]
   rfl
def matSrc (own : List (Nat × Ob)) (τ : Ty) (k2 : Nat) : Option (Nat × Nat × List (List τ.T)) := match get? own k2 with
 | some (.mat e e' τ' true ys none) => match decEq τ' τ with
  | isTrue h => some (e, e', h ▸ ys)
  | isFalse _ => none
 | _ => none
theorem matSrc_ok {own : List (Nat × Ob)} {τ : Ty} {k2 e e' : Nat} {ys : List (List τ.T)} (h : matSrc own τ k2 = some (e, e', ys)) : get? own k2 = some (.mat e e' τ true ys none) := by
 unfold matSrc at h
 split at h
 · rename_i hk
   split at h
   · rename_i hh _
     subst hh
     simp at h
     obtain ⟨rfl, rfl, rfl⟩ := h
     exact hk
   · cases h
 · cases h
def mappVC (T : List (Nat × TE)) (Γ : Sy) (n : Nat) (t : TypeId) (k k2 D : Nat) (K : Sy → Prop) : Prop := match get? T t with
  | some { kind := .sl e, .. } => match get? T e with
    | some { ty := some (.sl _), size := sz, .. } => match get? Γ.own k with
      | some (.mat e1 e2 τ true xs none) => match matSrc Γ.own τ k2 with
        | some (e3, e4, ys) => ((e1 = e ∧ e3 = e ∧ e4 = e2) ∧ (Nat.beq sz 1 && Nat.blt (k % PK2) PK && Nat.blt D n && !Nat.beq k k2) = true ∧ 0 < ys.length ∧ xs.length + ys.length ≤ 4294967296) ∧
            K ⟨set (Γ.merge k k2 (.mat e e2 τ true (xs ++ ys) none)).tmps D (.mown k), (Γ.merge k k2 (.mat e e2 τ true (xs ++ ys) none)).own⟩
        | none => False
      | _ => False
    | _ => False
  | _ => False
theorem mappVC.sound {P : Program} {T : List (Nat × TE)} (hT : TOk P T) {c : Cx} {o : Oper} {Γ : Sy} {t : TypeId} {s x : Operand} {k k2 D : Nat} {K : Sy → Prop}
  (ho : o.op = .call { callee := .builtin .append, args := #[s, x], argTypes := #[t, t] }) (hd : o.dst = some D) (hs : Ev c Γ [] s (.mown k)) (hx : Ev c Γ [] x (.mown k2)) (h : mappVC T Γ c.n t k k2 D K) : ∃ Γ', Seq P c o Γ Γ' ∧ K Γ' := by
 unfold mappVC at h
 split at h
 · rename_i e sz0 by_ ze ty ht
   have hu := (hT _ _ ht).sl rfl
   split at h
   · rename_i kk0 sz be zz τ0 hte
     have he := hT _ _ hte
     split at h
     · rename_i e1 e2 τ xs hk
       split at h
       · rename_i e3 e4 ys hsrc
         obtain ⟨⟨⟨rfl, rfl, rfl⟩, hc, hy0, hlen⟩, hK⟩ := h
         simp only [Bool.and_eq_true, Bool.not_eq_true'] at hc
         obtain ⟨⟨⟨c1, c2⟩, c3⟩, c4⟩ := hc
         have hkk : k ≠ k2 := fun e => by rw [e, Nat.beq_refl] at c4; cases c4
         have hk2 := matSrc_ok hsrc
         refine ⟨_, ?_, hK⟩
         intro g a w next Q hst hkn
         have hA : a.eval s = Go.Vc.hd (g k) := hs trivial Γ g a w rfl hst
         have hB : a.eval x = Go.Vc.hd (g k2) := hx trivial Γ g a w rfl hst
         obtain ⟨⟨cells, o1, o2, o3⟩, oin, odist, odo⟩ := hst.hp.ok k _ hk
         obtain ⟨⟨cells2, p1, p2, p3⟩, pin, pdist, pdo⟩ := hst.hp.ok k2 _ hk2
         obtain ⟨i0, hi0, hz0, hsz0, hb0⟩ := he.info
         obtain ⟨q1, q2, q3, q4, q5, q6⟩ := he.2.2.1 _ rfl
         dsimp only at q1 q2 q5 hz0 hsz0 hb0
         have hsz1 : sz = 1 := Nat.eq_of_beq_eq_true c1
         rcases p1.2 with ⟨_, p5⟩ | ⟨b2, cap2, cur2, p5, p6, p7, p8, p9, p10, p11⟩
         · omega
         have hl2 : cells2.length = ys.length := by rw [p1.1, Nat.mul_one]
         have hl1 : cells.length = xs.length := by rw [o1.1, Nat.mul_one]
         have hnews : ∀ j u, cells2[j]? = some u → w.cell? ((⟨b2, 0, none⟩ : Addr).add j) = some u := fun j u hj => by
          rw [Addr.add_lit, Nat.zero_add, cell_of_row w b2 j cur2 e3 (0, 0) p7]
          rw [← p11, List.getElem?_take] at hj
          split at hj
          · simpa using hj
          · cases hj
         have hzs : zz.cells.size = 1 := by
          have : zz.cells.toList.length = [Value.slice none 0 0].length := congrArg List.length q1
          simpa using this
         obtain ⟨v1, w', r1, r2, r3, r4⟩ := run_append_blk (P := P) w 0 t o.type e3 i0 zz 1 be hu hi0 hz0 (by rw [hsz0]; exact hsz1) hb0 hzs (by decide) (Go.Vc.hd (g k)) xs.length cells o1 ⟨b2, 0, none⟩ ys.length cap2 cells2 (by rw [hl2, Nat.mul_one]) hnews p2 (by unfold maxLen; omega) (by
          have : (xs.length + ys.length) * be ≤ 4294967296 * 4096 := Nat.mul_le_mul hlen q5
          omega) (Nat.zero_le _)
         obtain ⟨v', t1, t2, t3⟩ := mkTup v1 (xs.length + ys.length) fun i => if i < xs.length then sub (g k) i else sub (g k2) (i - xs.length)
         have ta : ∀ i, i < xs.length → sub v' i = sub (g k) i := fun i hi => by rw [t2 i (by omega), if_pos hi]
         have tb : ∀ i, ¬ i < xs.length → i < xs.length + ys.length → sub v' i = sub (g k2) (i - xs.length) := fun i hi hi2 => by rw [t2 i hi2, if_neg hi]
         have hown1 : Own1 Γ g k = Blk (g k) := funext fun b => propext ⟨fun q => q.2, fun q => ⟨⟨_, hk⟩, q⟩⟩
         have hown2 : Own1 Γ g k2 = Blk (g k2) := funext fun b => propext ⟨fun q => q.2, fun q => ⟨⟨_, hk2⟩, q⟩⟩
         have hv : ∀ b, Blk v' b → Own1 Γ g k b ∨ Own1 Γ g k2 b ∨ w.heap.size ≤ b := by
          rw [hown1, hown2]
          rintro b (u | ⟨i, u⟩)
          · rw [t1] at u
            rcases r4 b u with u2 | u2
            · exact .inl (.inl u2)
            · exact .inr (.inr u2)
          · by_cases hi : i < xs.length
            · rw [ta i hi] at u; exact .inl (.inr ⟨i, u⟩)
            · by_cases hi2 : i < xs.length + ys.length
              · rw [tb i hi hi2] at u; exact .inr (.inl (.inr ⟨_, u⟩))
              · rw [t3 i (by omega)] at u; cases u
         have hmono : ∀ b x e0 fz, w.heap[b]? = some (.cells x e0 fz) → ¬ Oset Γ.own g b → w'.heap[b]? = some (.cells x e0 fz) ∧ ¬ Oset (Γ.merge k k2 (.mat e3 e4 τ true (xs ++ ys) none)).own (updg g k v') b := fun b x e0 fz hb hn =>
          ⟨(r3.block b (heap_lt hb) fun u => hn ⟨k, _, hk, .inl u.symm⟩).trans hb, fun h' => hn (merge_set hv (heap_lt hb) h')⟩
         have apart : ∀ b, Blk (g k) b → Blk (g k2) b → False := fun b u1 u2 => hkk (hst.hp.inj k k2 _ _ b hk hk2 u1 u2)
         have key := hst.merge (w' := w') (k := k) (k2 := k2) (o' := .mat e3 e4 τ true (xs ++ ys) none) (v' := v') (Nat.le_of_ble_eq_true c2) r3.os r3.tape r3.output r3.size (fun b hb hn => r3.block b hb fun u => hn ⟨⟨_, hk⟩, .inl u.symm⟩) hv ?_
         · unfold Oper.wp
           have hrun : (execOp a.eval o).run P w = .ok (.value v1) w' := by
            rw [← hA, ← p5, ← hB] at r1
            simp [execOp, ho, resolve, invoke, builtin, r1]
           rw [hrun]
           refine hkn (updg g k v') (a.put o.dst v1) w' ?_
           rw [hd]
           exact key.put (t := D) (A := .mown k) (Nat.le_of_ble_eq_true c3) (show v1 = Go.Vc.hd (updg g k v' k) by simp [updg, t1])
         · refine ⟨⟨cells ++ cells2, ?_, fun u hu => (List.mem_append.1 hu).elim (o2 u) (p2 u), fun i hi _ => ?_⟩, fun i => ?_, fun i j b u1 u2 => ?_, fun i b u1 u2 => ?_⟩
           · rw [t1, List.length_append]; exact r2
           · rw [List.length_append] at hi
             by_cases h1 : i < xs.length
             · rw [ta i h1, List.getElem?_append_left (by omega)]; exact o3 i h1 (by simp)
             · rw [tb i h1 hi, List.getElem?_append_right (by omega), hl1]; exact p3 (i - xs.length) (by omega) (by simp)
           · by_cases h1 : i < xs.length
             · rw [ta i h1]
               have e0 : (xs ++ ys).getD i [] = xs.getD i [] := by
                rw [List.getD_eq_getElem?_getD, List.getElem?_append_left h1, List.getD_eq_getElem?_getD]
               rw [e0]
               refine RowOk.mono hmono (fun _ _ _ _ _ _ h => h) (fun b u => ?_) (oin i)
               obtain ⟨zs, hz, _⟩ := oin i
               exact r3.block b (ownsRow_lt hz u).2 fun u2 => odo i b u u2.symm
             · by_cases h2 : i < xs.length + ys.length
               · rw [tb i h1 h2]
                 have e0 : (xs ++ ys).getD i [] = ys.getD (i - xs.length) [] := by
                  rw [List.getD_eq_getElem?_getD, List.getElem?_append_right (by omega), List.getD_eq_getElem?_getD]
                 rw [e0]
                 refine RowOk.mono hmono (fun _ _ _ _ _ _ h => h) (fun b u => ?_) (pin (i - xs.length))
                 obtain ⟨zs, hz, _⟩ := pin (i - xs.length)
                 exact r3.block b (ownsRow_lt hz u).2 fun u2 => apart b (.inl u2.symm) (.inr ⟨_, u⟩)
               · rw [t3 i (by omega)]
                 have e0 : (xs ++ ys).getD i [] = [] := by
                  rw [List.getD_eq_getElem?_getD, List.getElem?_eq_none (by rw [List.length_append]; omega)]; rfl
                 rw [e0]
                 exact RowOk.nil
           · by_cases i1 : i < xs.length
             · rw [ta i i1] at u1
               by_cases j1 : j < xs.length
               · rw [ta j j1] at u2; exact odist i j b u1 u2
               · by_cases j2 : j < xs.length + ys.length
                 · rw [tb j j1 j2] at u2; exact (apart b (.inr ⟨_, u1⟩) (.inr ⟨_, u2⟩)).elim
                 · rw [t3 j (by omega)] at u2; cases u2
             · by_cases i2 : i < xs.length + ys.length
               · rw [tb i i1 i2] at u1
                 by_cases j1 : j < xs.length
                 · rw [ta j j1] at u2; exact (apart b (.inr ⟨_, u2⟩) (.inr ⟨_, u1⟩)).elim
                 · by_cases j2 : j < xs.length + ys.length
                   · rw [tb j j1 j2] at u2
                     have := pdist _ _ b u1 u2
                     omega
                   · rw [t3 j (by omega)] at u2; cases u2
               · rw [t3 i (by omega)] at u1; cases u1
           · rw [t1] at u2
             have hlt : ∀ b, blk (sub v' i) = some b → b < w.heap.size := fun b u => by
              by_cases i1 : i < xs.length
              · rw [ta i i1] at u
                obtain ⟨zs, hz, _⟩ := oin i
                exact (ownsRow_lt hz u).2
              · by_cases i2 : i < xs.length + ys.length
                · rw [tb i i1 i2] at u
                  obtain ⟨zs, hz, _⟩ := pin (i - xs.length)
                  exact (ownsRow_lt hz u).2
                · rw [t3 i (by omega)] at u; cases u
             have hb := hlt b u1
             rcases r4 b u2 with u3 | u3
             · by_cases i1 : i < xs.length
               · rw [ta i i1] at u1; exact odo i b u1 u3
               · by_cases i2 : i < xs.length + ys.length
                 · rw [tb i i1 i2] at u1; exact apart b (.inl u3) (.inr ⟨_, u1⟩)
                 · rw [t3 i (by omega)] at u1; cases u1
             · omega
       · exact h.elim
     · exact h.elim
   · exact h.elim
 · exact h.elim
def vindexVC (T : List (Nat × TE)) (Γ : Sy) (n : Nat) (t : TypeId) (A I : AV) (D : Nat) (K : Sy → Prop) : Prop := match A, I with
 | .st fr (.vec l), .lit (.int _ i) => match get? T t with
  | some { kind := .sl e, .. } => match get? T e with
   | some te => match l[i.toNat]? with
    | some B => (Nat.beq te.size 1 && Nat.blt D n && !B.isAgg) = true ∧ 0 ≤ i ∧ K (Γ.putB D (.st fr (.sadr B)))
    | none => False
   | none => False
  | _ => False
 | _, _ => False
theorem RpS.vec_elem {w : World} {O : Nat → Prop} {v : Value} {l : List SV} (h : RpS w O v (.vec l)) {i : Nat} {B : SV} (hB : l[i]? = some B) (ha : B.isAgg = false) :
  ∃ b off cp, v = .slice (some ⟨b, off, none⟩) l.length cp ∧ RpS w O (.pointer (some ⟨b, off + i, none⟩)) (.sadr B) := by
 cases h with
 | vec b off cap n _ arr e fz f hb hO hn hc hf hr =>
  subst hn
  have hi := (List.getElem?_eq_some_iff.1 hB).1
  have hr1 := hr i B hB
  refine ⟨b, off, cap, rfl, .sadr b _ _ (f i) arr e fz hb hO (fun j hj => ?_) hr1⟩
  have hc1 := hr1.cells1 ha
  rw [hc1] at hj ⊢
  have hj0 : j = 0 := by simpa using hj
  subst hj0
  rw [Nat.add_zero, (hf i hi).1]; rfl
theorem vindexVC.sound {P : Program} {T : List (Nat × TE)} (hT : TOk P T) {c : Cx} {o : Oper} {Γ : Sy} {t : TypeId} {x y : Operand} {A I : AV} {D : Nat} {K : Sy → Prop} (ho : o.op = .indexAddr t x y) (hd : o.dst = some D)
  (hx : Ev c Γ [] x A) (hy : Ev c Γ [] y I) (h : vindexVC T Γ c.n t A I D K) : ∃ Γ', Seq P c o Γ Γ' ∧ K Γ' := by
 unfold vindexVC at h
 split at h
 · rename_i fr l ki i
   split at h
   · rename_i e sz by_ ze ty ht
     have hu := (hT _ _ ht).sl rfl
     split at h
     · rename_i te hte
       have he := hT _ _ hte
       split at h
       · rename_i B hB
         obtain ⟨hc, h0, hK⟩ := h
         simp only [Bool.and_eq_true, Bool.not_eq_true'] at hc
         obtain ⟨⟨c1, c2⟩, c3⟩ := hc
         refine ⟨_, ?_, hK⟩
         intro g a w next Q hst hkn
         have hA : RpS w (Av (Oset Γ.own g) c.O0 fr) (a.eval x) (.vec l) := hx trivial Γ g a w rfl hst
         have hI := hy trivial Γ g a w rfl hst
         simp only [Rp2, Rp1] at hI
         obtain ⟨b, off, cp, e1, e2⟩ := hA.vec_elem hB c3
         have hlt := (List.getElem?_eq_some_iff.1 hB).1
         have hr := run_indexAt (P := P) (w := w) (b := b) (off := off) (n := l.length) (cp := cp) (k := ki) hu he h0 hlt
         rw [Nat.eq_of_beq_eq_true c1, Nat.mul_one] at hr
         unfold Oper.wp
         have hrun : (execOp a.eval o).run P w = .ok (.value (.pointer (some ⟨b, off + i.toNat, none⟩))) w := by
          simp [execOp, ho, hI.1, e1, hr]
         rw [hrun]
         refine hkn g _ w ?_
         rw [hd]
         exact hst.put (Nat.le_of_ble_eq_true c2) (A := .st fr (.sadr B)) e2
       · exact h.elim
     · exact h.elim
   · exact h.elim
 · exact h.elim
def stL : List AV → Option (List SV)
 | [] => some []
 | .lit v :: r => match stL r with
  | some l => some (.lit v :: l)
  | none => none
 | .st false B :: r => match B.isAgg, stL r with
  | false, some l => some (B :: l)
  | _, _ => none
 | _ :: _ => none
theorem stL_ok : ∀ {l : List AV} {s : List SV}, stL l = some s → s.length = l.length ∧ ∀ (i : Nat) (B : SV), s[i]? = some B → ∃ A, l[i]? = some A ∧ ∀ (w : World) (O O0 : Nat → Prop) (g : Nat → Value) (v : Value), Rp2 w O O0 g v A → RpS w (Av O O0 false) v B ∧ v.oneCell' = true
 | [], s, h => by cases h; exact ⟨rfl, fun i B h => by simp at h⟩
 | A :: r, s, h => by
  cases A <;> (try simp only [stL] at h) <;> first | (cases h; done) | skip
  · rename_i v
    split at h
    · rename_i l hl
      cases h
      obtain ⟨h1, h2⟩ := stL_ok hl
      refine ⟨by rw [List.length_cons, List.length_cons, h1], fun i B hB => ?_⟩
      cases i with
      | zero => simp at hB; subst hB; exact ⟨_, rfl, fun w O O0 g u hu => ⟨by obtain ⟨rfl, q⟩ := hu; exact .lit _ q, by obtain ⟨rfl, q⟩ := hu; exact q⟩⟩
      | succ i =>
       obtain ⟨A, q1, q2⟩ := h2 i B (by simpa using hB)
       exact ⟨A, by simpa using q1, q2⟩
    · cases h
  · rename_i fr S
    cases fr <;> simp only [stL] at h
    · split at h
      · rename_i l ha hl
        cases h
        obtain ⟨h1, h2⟩ := stL_ok hl
        refine ⟨by rw [List.length_cons, List.length_cons, h1], fun i B hB => ?_⟩
        cases i with
        | zero =>
         simp at hB
         subst hB
         exact ⟨_, rfl, fun w O O0 g u hu => ⟨hu, RpS.one hu ha⟩⟩
        | succ i =>
         obtain ⟨A, q1, q2⟩ := h2 i B (by simpa using hB)
         exact ⟨A, by simpa using q1, q2⟩
      · cases h
    · cases h
theorem run_litN {P : Program} {t e : TypeId} {te : TE} (hu : P.underlying t = some (.slice e)) (he : te.ok P e) (h1 : te.size = 1) (hz : te.zero.cells.size = 1) {len : Nat} {parts : Array (Nat × Operand)} {ev : Operand → Value} (hseq : seqIdx 0 parts.toList = true) (hlen : len = parts.toList.length)
  (hone : ∀ x : Nat × Operand, x ∈ parts.toList → (ev x.2).oneCell' = true) (h0 : 0 < len) (hsm : len ≤ 16777216) (w : World) :
  ∃ res : Array Value, (Instr.buildSlice t len (parts.map fun x => (x.1, ev x.2))).run P w = .ok (.slice (some ⟨w.heap.size, 0, none⟩) len len) (w.alloc (.cells res e)) ∧ res.size = len ∧ ∀ (i : Nat) (x : Nat × Operand), parts.toList[i]? = some x → res[i]? = some (ev x.2) := by
 obtain ⟨i0, hi, hzz, hs, hb⟩ := he.info
 have hsz : i0.size = 1 := by rw [hs]; exact h1
 let vs := parts.toList.map fun x => ev x.2
 have hvsz : ∀ v ∈ vs, v.cells.size = 1 := fun v hv => by
  obtain ⟨x, hx, rfl⟩ := List.mem_map.1 hv
  rw [cells_one (hone x hx)]; rfl
 have hvl : vs.length = len := by simp [vs, hlen]
 let cells0 : Array Value := (Array.range (len * i0.size)).map fun k => (if len * i0.size = 0 then (#[] : Array Value) else te.zero.cells)[k % (if len * i0.size = 0 then (#[] : Array Value) else te.zero.cells).size]!
 have hc0 : cells0.size = len := by simp [cells0, hsz]
 obtain ⟨res, hr1, hr2, _, hr3⟩ := fill_seq 1 vs 0 cells0 hvsz (by rw [hc0, hvl]; simp)
 have hparts : (parts.map fun x => (x.1, ev x.2)).toList = (vs.zipIdx 0).map fun x => (x.2, x.1) := by
  rw [Array.toList_map]
  exact seqIdx_eq ev parts.toList 0 hseq
 refine ⟨res, ?_, by rw [hr2, hc0], fun i x hx => ?_⟩
 · have hfill : Instr.fill (fun i => some (i * i0.size, i0.size)) cells0 (parts.map fun x => (x.1, ev x.2)).toList = some res := by rw [hsz, hparts]; exact hr1
   have hz0 : ¬ (len * i0.size = 0) := by rw [hsz]; omega
   have hble : ¬ (len * i0.size > 2 ^ 24) := by rw [hsz]; omega
   unfold Instr.buildSlice
   simp only [cells0, hz0, if_false] at hfill
   simp only [Sem.run_bind, run_underlying hu, Result.andThen_ok, sizeOf, typeInfo, run_program, hi, Sem.run_pure, hble, hz0, if_false, zeroValue, hzz]
   rw [hfill]
   simp [newRow]
 · have hv : vs[i]? = some (ev x.2) := by simp [vs, hx]
   have q := hr3 i (ev x.2) 0 hv (by decide)
   rw [cells_one (hone x (List.mem_of_getElem? hx))] at q
   simpa using q
def vlitVC (T : List (Nat × TE)) (Γ : Sy) (n : Nat) (t : TypeId) (len : Nat) (parts : List (Nat × Operand)) (l : List AV) (D : Nat) (K : Sy → Prop) : Prop := match get? T t with
 | some { kind := .sl e, .. } => match get? T e with
  | some te => match stL l with
   | some s => (seqIdx 0 parts && Nat.beq len parts.length && Nat.blt 0 len && Nat.ble len 16777216 && Nat.beq te.size 1 && Nat.beq te.zero.cells.size 1 && Nat.blt D n) = true ∧ K (Γ.putB D (.st false (.vec s)))
   | none => False
  | none => False
 | _ => False
theorem vlitVC.sound {P : Program} {T : List (Nat × TE)} (hT : TOk P T) {c : Cx} {o : Oper} {Γ : Sy} {t : TypeId} {len : Nat} {parts : Array (Nat × Operand)} {l : List AV} {D : Nat} {K : Sy → Prop} (ho : o.op = .buildSlice t len parts) (hd : o.dst = some D)
  (hl : l.length = parts.toList.length) (hx : ∀ (i : Nat) (x : Operand) (A : AV), (parts.toList.map (·.2))[i]? = some x → l[i]? = some A → Ev c Γ [] x A) (h : vlitVC T Γ c.n t len parts.toList l D K) : ∃ Γ', Seq P c o Γ Γ' ∧ K Γ' := by
 unfold vlitVC at h
 split at h
 · rename_i e sz by_ ze ty ht
   have hu := (hT _ _ ht).sl rfl
   split at h
   · rename_i te hte
     have he := hT _ _ hte
     split at h
     · rename_i s hs
       obtain ⟨hc, hK⟩ := h
       simp only [Bool.and_eq_true] at hc
       obtain ⟨⟨⟨⟨⟨⟨c1, c2⟩, c3⟩, c4⟩, c5⟩, c6⟩, c7⟩ := hc
       obtain ⟨s1, s2⟩ := stL_ok hs
       refine ⟨_, ?_, hK⟩
       intro g a w next Q hst hkn
       have hlen := Nat.eq_of_beq_eq_true c2
       have each : ∀ (i : Nat) (x : Nat × Operand), parts.toList[i]? = some x → ∃ B, s[i]? = some B ∧ RpS w (Av (Oset Γ.own g) c.O0 false) (a.eval x.2) B ∧ (a.eval x.2).oneCell' = true := fun i x hi => by
        have hlt := (List.getElem?_eq_some_iff.1 hi).1
        have hB : s[i]? = some s[i] := List.getElem?_eq_getElem (by omega)
        obtain ⟨A, q1, q2⟩ := s2 i _ hB
        have q3 := hx i x.2 A (by rw [List.getElem?_map, hi]; rfl) q1 trivial Γ g a w rfl hst
        obtain ⟨q4, q5⟩ := q2 _ _ _ _ _ q3
        exact ⟨_, hB, q4, q5⟩
       obtain ⟨res, r1, r2, r3⟩ := run_litN (P := P) hu he (Nat.eq_of_beq_eq_true c5) (Nat.eq_of_beq_eq_true c6) (ev := a.eval) c1 hlen (fun x hx => by
        obtain ⟨i, hi⟩ := List.getElem?_of_mem hx
        obtain ⟨_, _, _, q⟩ := each i x hi
        exact q) (Nat.le_of_ble_eq_true c3) (Nat.le_of_ble_eq_true c4) w
       unfold Oper.wp
       have hrun : (execOp a.eval o).run P w = .ok (.value (.slice (some ⟨w.heap.size, 0, none⟩) len len)) (w.alloc (.cells res e)) := by
        simp only [execOp, ho, Sem.run_bind]
        have : (parts.map fun (i, x) => (i, a.eval x)) = parts.map fun x => (x.1, a.eval x.2) := rfl
        rw [this, r1]
        rfl
       rw [hrun]
       refine hkn g _ _ ?_
       rw [hd]
       have hst2 := hst.keepW (Keep.alloc w (.cells res e))
       refine hst2.put (Nat.le_of_ble_eq_true c7) (A := .st false (.vec s)) ?_
       show RpS _ _ _ _
       have hsl : len = s.length := by omega
       refine RpS.vec w.heap.size 0 len len s res e (0, 0) (fun i => res.getD i undef) (heap_alloc_new w _) (fun hO => ?_) hsl (Nat.le_refl _) (fun i hi => ?_) (fun i B hB => ?_)
       · rcases hO with hO | ⟨hO, _⟩
         · exact absurd (hst.hp.lt hO).2 (Nat.lt_irrefl _)
         · cases hO
       · have hp : parts.toList[i]? = some parts.toList[i] := List.getElem?_eq_getElem (by omega)
         obtain ⟨_, _, _, q⟩ := each i _ hp
         rw [Nat.zero_add, Array.getD_eq_getD_getElem?, r3 i _ hp]
         exact ⟨rfl, q⟩
       · have hi := (List.getElem?_eq_some_iff.1 hB).1
         have hp : parts.toList[i]? = some parts.toList[i] := List.getElem?_eq_getElem (by omega)
         obtain ⟨B', q1, q2, _⟩ := each i _ hp
         rw [hB] at q1
         cases q1
         rw [Array.getD_eq_getD_getElem?, r3 i _ hp]
         exact q2.mono fun b x e0 fz hb hn => ⟨((Keep.alloc w _).b b (heap_lt hb)).trans hb, hn⟩
     · exact h.elim
   · exact h.elim
 · exact h.elim
def Sy.frz (Γ : Sy) (t k : Nat) (s : List SV) : Sy := ⟨(t, .st false (.sadr (.agg s))) :: (Γ.drop k).tmps, (Γ.drop k).own⟩
end Go.Vc
namespace Go.Tp
def sumN (f : Nat → Nat) : Nat → Nat
 | 0 => 0
 | k + 1 => sumN f k + f k
theorem sumN_pos {f : Nat → Nat} : ∀ {k : Nat}, 0 < sumN f k ↔ ∃ j, j < k ∧ 0 < f j
 | 0 => by simp [sumN]
 | k + 1 => by
  rw [sumN]
  constructor
  · intro h
    by_cases h1 : 0 < f k
    · exact ⟨k, by omega, h1⟩
    · obtain ⟨j, hj, h2⟩ := sumN_pos.1 (show 0 < sumN f k by omega)
      exact ⟨j, by omega, h2⟩
  · rintro ⟨j, hj, h⟩
    by_cases e : j = k
    · subst e; omega
    · have := sumN_pos.2 ⟨j, (by omega : j < k), h⟩
      omega
def Wy (al : Nat → Nat → Bool) (n : Nat) : Nat → Nat → Nat
 | 0, _ => 1
 | f + 1, u => sumN (fun j => if !u.testBit j && al (n - (f + 1)) j then Wy al n f (u ||| 2 ^ j) else 0) n
def Comp (al : Nat → Nat → Bool) (n : Nat) : Nat → Nat → List Nat → Prop
 | 0, _, l => l = []
 | f + 1, u, l => ∃ j r, l = j :: r ∧ j < n ∧ u.testBit j = false ∧ al (n - (f + 1)) j = true ∧ Comp al n f (u ||| 2 ^ j) r
variable {al : Nat → Nat → Bool} {n : Nat}
theorem Wy_pos : ∀ {f u : Nat}, 0 < Wy al n f u ↔ ∃ l, Comp al n f u l
 | 0, u => ⟨fun _ => ⟨[], rfl⟩, fun _ => Nat.one_pos⟩
 | f + 1, u => by
  rw [Wy, sumN_pos]
  constructor
  · rintro ⟨j, hj, h⟩
    split at h
    · rename_i hc
      rw [Bool.and_eq_true, Bool.not_eq_true'] at hc
      obtain ⟨l, hl⟩ := Wy_pos.1 h
      exact ⟨j :: l, j, l, rfl, hj, hc.1, hc.2, hl⟩
    · omega
  · rintro ⟨l, j, r, rfl, hj, h1, h2, h3⟩
    refine ⟨j, hj, ?_⟩
    rw [if_pos (by rw [h1, h2]; rfl)]
    exact Wy_pos.2 ⟨r, h3⟩
def fstJ (p : Nat → Bool) : Nat → Nat → Option Nat
 | 0, _ => none
 | k + 1, j => if p j = true then some j else fstJ p k (j + 1)
theorem fstJ_some {p : Nat → Bool} {a : Nat} : ∀ {k j : Nat}, fstJ p k j = some a → j ≤ a ∧ a < j + k ∧ p a = true ∧ ∀ i, j ≤ i → i < a → p i = false
 | 0, j, h => by cases h
 | k + 1, j, h => by
  rw [fstJ] at h
  split at h
  · rename_i hp
    injection h with h
    subst h
    exact ⟨Nat.le_refl _, by omega, hp, fun i h1 h2 => by omega⟩
  · rename_i hp
    obtain ⟨h1, h2, h3, h4⟩ := fstJ_some h
    refine ⟨by omega, by omega, h3, fun i h5 h6 => ?_⟩
    by_cases e : i = j
    · subst e; simpa using hp
    · exact h4 i (by omega) h6
theorem fstJ_none {p : Nat → Bool} : ∀ {k j : Nat}, fstJ p k j = none → ∀ i, j ≤ i → i < j + k → p i = false
 | 0, j, _, i, h1, h2 => by omega
 | k + 1, j, h, i, h1, h2 => by
  rw [fstJ] at h
  split at h
  · cases h
  · rename_i hp
    by_cases e : i = j
    · subst e; simpa using hp
    · exact fstJ_none h i (by omega) (by omega)
def takeB (al : Nat → Nat → Bool) (n f u j : Nat) : Bool := !u.testBit j && al (n - (f + 1)) j && decide (0 < Wy al n f (u ||| 2 ^ j))
def gl (al : Nat → Nat → Bool) (n : Nat) : Nat → Nat → List Nat
 | 0, _ => []
 | f + 1, u => match fstJ (takeB al n f u) n 0 with
  | some j => j :: gl al n f (u ||| 2 ^ j)
  | none => []
theorem take_yes {f u j : Nat} : takeB al n f u j = true ↔ u.testBit j = false ∧ al (n - (f + 1)) j = true ∧ 0 < Wy al n f (u ||| 2 ^ j) := by
 unfold takeB
 rw [Bool.and_eq_true, Bool.and_eq_true, Bool.not_eq_true', decide_eq_true_iff]
 exact ⟨fun h => ⟨h.1.1, h.1.2, h.2⟩, fun h => ⟨⟨h.1, h.2.1⟩, h.2.2⟩⟩
theorem take_some {f u : Nat} (h : 0 < Wy al n (f + 1) u) : ∃ j, fstJ (takeB al n f u) n 0 = some j := by
 cases e : fstJ (takeB al n f u) n 0 with
 | some j => exact ⟨j, rfl⟩
 | none =>
  obtain ⟨l, j, r, _, hj, h1, h2, h3⟩ := Wy_pos.1 h
  have := fstJ_none e j (Nat.zero_le _) (by omega)
  rw [take_yes.2 ⟨h1, h2, Wy_pos.2 ⟨r, h3⟩⟩] at this
  cases this
def lexN (a b : List Nat) : Prop := a = b ∨ ∃ i, i < a.length ∧ (∀ j, j < i → a.getD j 0 = b.getD j 0) ∧ a.getD i 0 < b.getD i 0
theorem gl_ok : ∀ {f u : Nat}, 0 < Wy al n f u → Comp al n f u (gl al n f u) ∧ ∀ l, Comp al n f u l → lexN (gl al n f u) l
 | 0, u, _ => ⟨rfl, fun l h => .inl h.symm⟩
 | f + 1, u, h => by
  obtain ⟨j, hj⟩ := take_some h
  obtain ⟨_, h1, h2, h3⟩ := fstJ_some hj
  obtain ⟨h4, h5, h6⟩ := take_yes.1 h2
  obtain ⟨h7, h8⟩ := gl_ok h6
  rw [gl, hj]
  dsimp only
  refine ⟨⟨j, _, rfl, by omega, h4, h5, h7⟩, ?_⟩
  rintro l ⟨j', r, rfl, hj', h9, h10, h11⟩
  have hle : j ≤ j' := by
   apply Nat.le_of_not_lt
   intro hlt
   have := h3 j' (Nat.zero_le _) hlt
   rw [take_yes.2 ⟨h9, h10, Wy_pos.2 ⟨r, h11⟩⟩] at this
   cases this
  by_cases e : j = j'
  · subst e
    rcases h8 r h11 with h12 | ⟨i, hi, hb, hc⟩
    · exact .inl (by rw [h12])
    · refine .inr ⟨i + 1, by simp; exact hi, fun m hm => ?_, by simpa using hc⟩
      cases m with
      | zero => rfl
      | succ m => simpa using hb m (by omega)
  · exact .inr ⟨0, by simp, fun m hm => by omega, by simp; omega⟩
theorem comp_len : ∀ {f u : Nat} {l : List Nat}, Comp al n f u l → l.length = f
 | 0, u, l, h => by rw [show l = [] from h]; rfl
 | f + 1, u, l, h => by
  obtain ⟨j, r, rfl, _, _, _, h⟩ := h
  rw [List.length_cons, comp_len h]
theorem bit_or {u j k : Nat} : (u ||| 2 ^ j).testBit k = (u.testBit k || decide (j = k)) := by
 rw [Nat.testBit_or, Nat.testBit_two_pow]
theorem comp_iff : ∀ {f u : Nat} {l : List Nat}, f ≤ n → (Comp al n f u l ↔ l.length = f ∧ (∀ i, i < f → l.getD i 0 < n ∧ u.testBit (l.getD i 0) = false ∧ al (n - f + i) (l.getD i 0) = true) ∧ ∀ i i', i < f → i' < f → l.getD i 0 = l.getD i' 0 → i = i')
 | 0, u, l, _ => by
  constructor
  · intro h; rw [show l = [] from h]; exact ⟨rfl, fun i hi => by omega, fun i i' hi => by omega⟩
  · rintro ⟨h, _⟩; exact List.eq_nil_of_length_eq_zero h
 | f + 1, u, l, hf => by
  constructor
  · rintro ⟨j, r, rfl, hj, h1, h2, h3⟩
    obtain ⟨h4, h5, h6⟩ := (comp_iff (by omega)).1 h3
    have hne : ∀ i, i < f → r.getD i 0 ≠ j := fun i hi e => by
     have := (h5 i hi).2.1
     rw [bit_or, e] at this
     simp at this
    refine ⟨by rw [List.length_cons, h4], fun i hi => ?_, fun i i' hi hi' e => ?_⟩
    · cases i with
      | zero => exact ⟨hj, h1, by simpa using h2⟩
      | succ i =>
       obtain ⟨a, b, c⟩ := h5 i (by omega)
       rw [bit_or, Bool.or_eq_false_iff] at b
       refine ⟨by simpa using a, by simpa using b.1, ?_⟩
       rw [show n - (f + 1) + (i + 1) = n - f + i by omega]
       simpa using c
    · cases i with
      | zero =>
       cases i' with
       | zero => rfl
       | succ i' => exact absurd (by simpa using e.symm) (hne i' (by omega))
      | succ i =>
       cases i' with
       | zero => exact absurd (by simpa using e) (hne i (by omega))
       | succ i' => have := h6 i i' (by omega) (by omega) (by simpa using e); omega
  · rintro ⟨hl, h1, h2⟩
    match l, hl with
    | j :: r, hl =>
     have hl : r.length = f := by simpa using hl
     obtain ⟨a, b, c⟩ := h1 0 (by omega)
     refine ⟨j, r, rfl, by simpa using a, by simpa using b, by simpa using c, (comp_iff (by omega)).2 ⟨hl, fun i hi => ?_, fun i i' hi hi' e => ?_⟩⟩
     · obtain ⟨a', b', c'⟩ := h1 (i + 1) (by omega)
       refine ⟨by simpa using a', ?_, ?_⟩
       · rw [bit_or, Bool.or_eq_false_iff]
         refine ⟨by simpa using b', decide_eq_false fun e => ?_⟩
         have := h2 0 (i + 1) (by omega) (by omega) (by simpa using e)
         omega
       · rw [show n - (f + 1) + (i + 1) = n - f + i by omega] at c'
         simpa using c'
     · have := h2 (i + 1) (i' + 1) (by omega) (by omega) (by simpa using e)
       omega
def pop (u : Nat) : Nat → Nat
 | 0 => 0
 | k + 1 => pop u k + if u.testBit k then 1 else 0
theorem pop_le (u : Nat) : ∀ k, pop u k ≤ k
 | 0 => Nat.le_refl _
 | k + 1 => by rw [pop]; have := pop_le u k; split <;> omega
theorem pop_or {u j : Nat} (h : u.testBit j = false) : ∀ {k : Nat}, pop (u ||| 2 ^ j) k = pop u k + if j < k then 1 else 0
 | 0 => by simp [pop]
 | k + 1 => by
  rw [pop, pop, pop_or h, bit_or]
  by_cases e : j = k
  · subst e
    simp [h]
  · have e1 : decide (j = k) = false := decide_eq_false e
    rw [e1, Bool.or_false]
    have e2 : (j < k + 1) ↔ (j < k) := by omega
    simp only [e2]
    omega
theorem pop_all {u : Nat} : ∀ {k : Nat}, pop u k = k → ∀ j, j < k → u.testBit j = true
 | k + 1, h, j, hj => by
  rw [pop] at h
  have := pop_le u k
  split at h
  · rename_i hb
    by_cases e : j = k
    · subst e; exact hb
    · exact pop_all (k := k) (by omega) j (by omega)
  · omega
def way (al : Nat → Nat → Bool) (n u : Nat) : Nat := Wy al n (n - pop u n) u
theorem way_step {u : Nat} (h : pop u n < n) : way al n u = sumN (fun j => if !u.testBit j && al (pop u n) j then way al n (u ||| 2 ^ j) else 0) n := by
 unfold way
 obtain ⟨f, hf⟩ : ∃ f, n - pop u n = f + 1 := ⟨n - pop u n - 1, by omega⟩
 have aux : ∀ k, k ≤ n → sumN (fun j => if !u.testBit j && al (n - (f + 1)) j then Wy al n f (u ||| 2 ^ j) else 0) k = sumN (fun j => if !u.testBit j && al (pop u n) j then Wy al n (n - pop (u ||| 2 ^ j) n) (u ||| 2 ^ j) else 0) k := by
  intro k
  induction k with
  | zero => intro _; rfl
  | succ k ih =>
   intro hk
   rw [sumN, sumN, ih (by omega)]
   congr 1
   rw [show n - (f + 1) = pop u n by omega]
   cases hb : u.testBit k with
   | true => rfl
   | false =>
    rw [pop_or hb, if_pos (show k < n by omega), show n - (pop u n + 1) = f by omega]
 rw [hf, Wy, aux n (Nat.le_refl _)]
def nb (al : Nat → Nat → Bool) (R : List Nat) (p : Nat → Bool) (c : Nat) : Bool := R.any fun i => p i && al i c
def Hal (al : Nat → Nat → Bool) (R C : List Nat) : Prop := ∀ p : Nat → Bool, R.countP p ≤ C.countP (nb al R p)
theorem countP_split (l : List Nat) (p q : Nat → Bool) : l.countP q = l.countP (fun x => p x && q x) + l.countP (fun x => !p x && q x) := by
 induction l with
 | nil => rfl
 | cons a r ih =>
  simp only [List.countP_cons, ih]
  cases p a <;> cases q a <;> simp <;> omega
theorem countP_mono' (l : List Nat) {p q : Nat → Bool} (h : ∀ x, x ∈ l → p x = true → q x = true) : l.countP p ≤ l.countP q := by
 induction l with
 | nil => simp
 | cons a r ih =>
  simp only [List.countP_cons]
  have h1 := ih fun x hx => h x (by simp [hx])
  have h2 := h a (by simp)
  cases hp : p a with
  | true => rw [h2 hp]; simp; exact h1
  | false => simp; omega
theorem countP_eq' (l : List Nat) {p q : Nat → Bool} (h : ∀ x, x ∈ l → p x = q x) : l.countP p = l.countP q :=
 Nat.le_antisymm (countP_mono' l fun x hx hp => by rw [← h x hx]; exact hp) (countP_mono' l fun x hx hp => by rw [h x hx]; exact hp)
theorem countP_pos' {l : List Nat} {p : Nat → Bool} (h : 0 < l.countP p) : ∃ x, x ∈ l ∧ p x = true := List.countP_pos_iff.1 h
theorem countP_filter' (l : List Nat) (p q : Nat → Bool) : (l.filter p).countP q = l.countP (fun x => p x && q x) := by
 induction l with
 | nil => rfl
 | cons a r ih =>
  rw [List.filter_cons]
  split
  · rename_i hp
    simp only [List.countP_cons, ih, hp, Bool.true_and]
  · rename_i hp
    have hp : p a = false := by simpa using hp
    simp only [List.countP_cons, ih, hp, Bool.false_and]
    simp
theorem nb_iff {al : Nat → Nat → Bool} {R : List Nat} {p : Nat → Bool} {c : Nat} : nb al R p c = true ↔ ∃ i, i ∈ R ∧ p i = true ∧ al i c = true := by
 unfold nb
 rw [List.any_eq_true]
 simp only [Bool.and_eq_true]
def Mat (al : Nat → Nat → Bool) (R C : List Nat) (m : Nat → Nat) : Prop := (∀ i, i ∈ R → m i ∈ C ∧ al i (m i) = true) ∧ ∀ i j, i ∈ R → j ∈ R → m i = m j → i = j
theorem hall {al : Nat → Nat → Bool} : ∀ (k : Nat) (R C : List Nat), R.length ≤ k → R.Nodup → C.Nodup → Hal al R C → ∃ m, Mat al R C m
 | 0, R, C, hk, _, _, _ => by
  have : R = [] := List.eq_nil_of_length_eq_zero (by omega)
  subst this
  exact ⟨fun _ => 0, fun i hi => by simp at hi, fun i j hi => by simp at hi⟩
 | k + 1, R, C, hk, hR, hC, hH => by
  classical
  match R, hk, hR, hH with
  | [], _, _, _ => exact ⟨fun _ => 0, fun i hi => by simp at hi, fun i j hi => by simp at hi⟩
  | x :: T, hk, hR, hH =>
   by_cases hB : ∃ p : Nat → Bool, 0 < (x :: T).countP p ∧ (x :: T).countP p < (x :: T).length ∧ C.countP (nb al (x :: T) p) ≤ (x :: T).countP p
   · obtain ⟨p, h0, h1, h2⟩ := hB
     obtain ⟨R, hRd⟩ : ∃ R, R = x :: T := ⟨_, rfl⟩
     rw [← hRd] at h0 h1 h2 hR hH ⊢
     have hk' : R.length ≤ k + 1 := by rw [hRd]; exact hk
     have hsum : R.countP p + R.countP (fun i => !p i) = R.length := by
      have := countP_split R p (fun _ => true)
      simp only [Bool.and_true] at this
      rw [← this]
      simp
     have hl1 : (R.filter p).length ≤ k := by rw [← List.countP_eq_length_filter]; omega
     have hl2 : (R.filter fun i => !p i).length ≤ k := by rw [← List.countP_eq_length_filter]; omega
     obtain ⟨m1, a1, b1⟩ := hall (al := al) k (R.filter p) (C.filter (nb al R p)) hl1 (hR.filter _) (hC.filter _) (fun q => by
      rw [countP_filter', countP_filter']
      refine Nat.le_trans (hH fun i => p i && q i) (countP_mono' C fun c hc h => ?_)
      obtain ⟨i, hi, hp, ha⟩ := nb_iff.1 h
      rw [Bool.and_eq_true] at hp
      rw [Bool.and_eq_true]
      exact ⟨nb_iff.2 ⟨i, hi, hp.1, ha⟩, nb_iff.2 ⟨i, List.mem_filter.2 ⟨hi, hp.1⟩, hp.2, ha⟩⟩)
     obtain ⟨m2, a2, b2⟩ := hall (al := al) k (R.filter fun i => !p i) (C.filter fun c => !nb al R p c) hl2 (hR.filter _) (hC.filter _) (fun q => by
      rw [countP_filter', countP_filter']
      have e1 := hH fun i => p i || q i
      have e2 := countP_split R p (fun i => p i || q i)
      have e3 := countP_split C (nb al R p) (nb al R fun i => p i || q i)
      have e4 : R.countP (fun i => p i && (p i || q i)) = R.countP p := countP_eq' R fun i _ => by cases p i <;> simp
      have e5 : R.countP (fun i => !p i && (p i || q i)) = R.countP (fun i => !p i && q i) := countP_eq' R fun i _ => by cases p i <;> simp
      have e6 : C.countP (fun c => nb al R p c && nb al R (fun i => p i || q i) c) ≤ C.countP (nb al R p) := countP_mono' C fun c _ h => (Bool.and_eq_true _ _ ▸ h).1
      have e7 : C.countP (fun c => !nb al R p c && nb al R (fun i => p i || q i) c) ≤ C.countP (fun c => !nb al R p c && nb al (R.filter fun i => !p i) q c) := countP_mono' C fun c _ h => by
       rw [Bool.and_eq_true] at h ⊢
       refine ⟨h.1, ?_⟩
       obtain ⟨i, hi, hp, ha⟩ := nb_iff.1 h.2
       have hn : p i = false := by
        cases e : p i with
        | false => rfl
        | true =>
         have := nb_iff.2 ⟨i, hi, e, ha⟩
         rw [this] at h
         simp at h
       rw [hn, Bool.false_or] at hp
       exact nb_iff.2 ⟨i, List.mem_filter.2 ⟨hi, by rw [hn]; rfl⟩, hp, ha⟩
      omega)
     refine ⟨fun i => if p i = true then m1 i else m2 i, fun i hi => ?_, fun i j hi hj e => ?_⟩
     · cases hp : p i with
       | true =>
        simp only [hp, if_true]
        obtain ⟨c1, c2⟩ := a1 i (List.mem_filter.2 ⟨hi, hp⟩)
        exact ⟨(List.mem_filter.1 c1).1, c2⟩
       | false =>
        simp only [hp, Bool.false_eq_true, if_false]
        obtain ⟨c1, c2⟩ := a2 i (List.mem_filter.2 ⟨hi, by rw [hp]; rfl⟩)
        exact ⟨(List.mem_filter.1 c1).1, c2⟩
     · cases hp : p i with
       | true =>
        cases hq : p j with
        | true =>
         simp only [hp, hq, if_true] at e
         exact b1 i j (List.mem_filter.2 ⟨hi, hp⟩) (List.mem_filter.2 ⟨hj, hq⟩) e
        | false =>
         simp only [hp, hq, if_true] at e
         have c1 := (List.mem_filter.1 (a1 i (List.mem_filter.2 ⟨hi, hp⟩)).1).2
         have c2 := (List.mem_filter.1 (a2 j (List.mem_filter.2 ⟨hj, by rw [hq]; rfl⟩)).1).2
         simp only [Bool.false_eq_true, if_false] at e
         rw [e] at c1
         rw [c1] at c2
         cases c2
       | false =>
        cases hq : p j with
        | true =>
         simp only [hp, hq, if_true, Bool.false_eq_true, if_false] at e
         have c1 := (List.mem_filter.1 (a1 j (List.mem_filter.2 ⟨hj, hq⟩)).1).2
         have c2 := (List.mem_filter.1 (a2 i (List.mem_filter.2 ⟨hi, by rw [hp]; rfl⟩)).1).2
         rw [e] at c2
         rw [c1] at c2
         cases c2
        | false =>
         simp only [hp, hq, Bool.false_eq_true, if_false] at e
         exact b2 i j (List.mem_filter.2 ⟨hi, by rw [hp]; rfl⟩) (List.mem_filter.2 ⟨hj, by rw [hq]; rfl⟩) e
   · have hx : x ∉ T := (List.nodup_cons.1 hR).1
     have hT : T.Nodup := (List.nodup_cons.1 hR).2
     have h1 := hH fun i => i == x
     have h2 : 0 < (x :: T).countP (fun i => i == x) := List.countP_pos_iff.2 ⟨x, by simp, by simp⟩
     obtain ⟨y, hy, hny⟩ := countP_pos' (Nat.lt_of_lt_of_le h2 h1)
     obtain ⟨i, _, hix, hal⟩ := nb_iff.1 hny
     have hix : i = x := by simpa using hix
     subst hix
     have hcy : C.countP (fun c => c == y) ≤ 1 := by
      have := List.nodup_iff_count.1 hC y
      exact this
     obtain ⟨m, a, b⟩ := hall (al := al) k T (C.filter fun c => !(c == y)) (by simpa using hk) hT (hC.filter _) (fun q => by
      rw [countP_filter']
      by_cases hq : 0 < T.countP q
      · obtain ⟨p, hp⟩ : ∃ p : Nat → Bool, p = fun j => !(j == i) && q j := ⟨_, rfl⟩
        have e1 : (i :: T).countP p = T.countP q := by
         rw [List.countP_cons, hp]
         simp only [beq_self_eq_true, Bool.not_true, Bool.false_and, Bool.false_eq_true, if_false, Nat.add_zero]
         exact countP_eq' T fun j hj => by
          have : (j == i) = false := beq_eq_false_iff_ne.2 fun e => hx (e ▸ hj)
          rw [this]; rfl
        have e2 : T.countP q ≤ T.length := List.countP_le_length
        have e3 : ¬ C.countP (nb al (i :: T) p) ≤ (i :: T).countP p := fun h => hB ⟨p, by omega, by rw [e1, List.length_cons]; omega, h⟩
        have e4 := countP_split C (fun c => c == y) (nb al (i :: T) p)
        have e5 : C.countP (fun c => c == y && nb al (i :: T) p c) ≤ C.countP (fun c => c == y) := countP_mono' C fun c _ h => (Bool.and_eq_true _ _ ▸ h).1
        have e6 : C.countP (fun c => !(c == y) && nb al (i :: T) p c) ≤ C.countP (fun c => !(c == y) && nb al T q c) := countP_mono' C fun c _ h => by
         rw [Bool.and_eq_true] at h ⊢
         refine ⟨h.1, ?_⟩
         obtain ⟨j, hj, hpj, ha⟩ := nb_iff.1 h.2
         rw [hp] at hpj
         simp only [Bool.and_eq_true, Bool.not_eq_true', beq_eq_false_iff_ne, ne_eq] at hpj
         exact nb_iff.2 ⟨j, (List.mem_cons.1 hj).resolve_left hpj.1, hpj.2, ha⟩
        omega
      · omega)
     refine ⟨fun j => if j = i then y else m j, fun j hj => ?_, fun j j' hj hj' e => ?_⟩
     · by_cases e : j = i
       · simp only [e, if_true]; exact ⟨hy, hal⟩
       · simp only [e, if_false]
         obtain ⟨c1, c2⟩ := a j ((List.mem_cons.1 hj).resolve_left e)
         exact ⟨(List.mem_filter.1 c1).1, c2⟩
     · by_cases e1 : j = i
       · by_cases e2 : j' = i
         · rw [e1, e2]
         · simp only [e1, e2, if_true, if_false] at e
           have := (List.mem_filter.1 (a j' ((List.mem_cons.1 hj').resolve_left e2)).1).2
           rw [← e] at this
           simp at this
       · by_cases e2 : j' = i
         · simp only [e1, e2, if_true, if_false] at e
           have := (List.mem_filter.1 (a j ((List.mem_cons.1 hj).resolve_left e1)).1).2
           rw [e] at this
           simp at this
         · simp only [e1, e2, if_false] at e
           exact b j j' ((List.mem_cons.1 hj).resolve_left e1) ((List.mem_cons.1 hj').resolve_left e2) e
end Go.Tp
namespace Go.Sh
theorem firstK_hit {α : Type} {f : Nat → Option α} {r : α} {d : Nat} (h0 : f d = some r) (h1 : ∀ e, e < d → f e = none) : ∀ {k : Nat}, d < k → firstK f k = some r
 | 0, h => by omega
 | k + 1, h => by
  rw [firstK]
  by_cases e : d = k
  · subst e; rw [firstK_of h1]; exact h0
  · rw [firstK_hit h0 h1 (by omega)]
def ovC (P : Int) (l : List Jb) (a d : Nat) : Prop := P * ((d : Int) + 1) < needsT l a ((a : Int) + 1 + d)
theorem over_hit {P : Int} {l : List Jb} {a d : Nat} (ha : a < 24) (hd : d < 24 - a) (h : ovC P l a d) (h1 : ∀ e, e < d → ¬ ovC P l a e) (h2 : ∀ b, b < a → ∀ e, e < 24 - b → ¬ ovC P l b e) : overF P l = some (a, a + 1 + d) := by
 unfold overF
 refine firstK_hit (d := a) ?_ ?_ ha
 · exact firstK_hit (d := d) (if_pos h) (fun e he => if_neg (h1 e he)) hd
 · exact fun b hb => firstK_of fun e he => if_neg (h2 b hb e he)
theorem over_miss {P : Int} {l : List Jb} (h2 : ∀ b, b < 24 → ∀ e, e < 24 - b → ¬ ovC P l b e) : overF P l = none :=
 firstK_of fun b hb => firstK_of fun e he => if_neg (h2 b hb e he)
def ovA (P : Int) (l : List Jb) : Int := match overF P l with
 | some r => (r.1 : Int)
 | none => 0
def ovE (P : Int) (l : List Jb) : Int := match overF P l with
 | some r => (r.2 : Int)
 | none => 0
def ovB (P : Int) (l : List Jb) : Bool := match overF P l with
 | some _ => true
 | none => false
theorem ovB_over {P : Int} {l : List Jb} : ovB P l = overB P l := by
 unfold ovB
 cases h : overF P l with
 | none => rw [overF_none h]
 | some r =>
  obtain ⟨a, b⟩ := r
  have h1 := overF_some h
  unfold crowdB at h1
  simp only [Bool.and_eq_true, decide_eq_true_eq] at h1
  obtain ⟨_, ⟨a0, a1, a2⟩, h3⟩ := h1
  have a1 : (a : Int) < (b : Int) := a1
  have a2 : (b : Int) ≤ 24 := a2
  have h3 : P * ((b : Int) - a) < needsT l a b := h3
  show true = overB P l
  unfold overB
  refine (List.any_eq_true.2 ⟨a, List.mem_range.2 (by omega), List.any_eq_true.2 ⟨b, List.mem_range.2 (by omega), ?_⟩⟩).symm
  rw [decide_eq_true (by omega), decide_eq_true h3]; rfl
def JobOk (j : Jb) : Prop := 0 ≤ j.1 ∧ j.2.1 ≤ 24 ∧ 1 ≤ j.2.2.1 ∧ j.2.2.1 ≤ j.2.1 - j.1 ∧ 1 ≤ j.2.2.2.1 ∧ j.2.2.2.1 ≤ 20
def OrdOk (n : Nat) (o : Od) : Prop := 0 ≤ o.1 ∧ o.1 < n ∧ 0 ≤ o.2.1 ∧ o.2.1 < n ∧ o.1 ≠ o.2.1
structure VS (P : Int) (l : List Jb) (os : List Od) : Prop where
 pw : 1 ≤ P ∧ P ≤ 20
 ln : 1 ≤ l.length ∧ l.length ≤ 6
 lo : os.length ≤ 20
 rg : ∀ m, m < l.length → JobOk (l.getD m J0)
 od : ∀ m, m < os.length → OrdOk l.length (os.getD m O0)
noncomputable def validB (P : Int) (l : List Jb) (os : List Od) : Bool := open Classical in decide (VS P l os)
theorem validB_yes {P : Int} {l : List Jb} {os : List Od} (h : VS P l os) : validB P l os = true := by classical exact decide_eq_true h
theorem validB_no {P : Int} {l : List Jb} {os : List Od} (h : ¬ VS P l os) : validB P l os = false := by classical exact decide_eq_false h
theorem VS.pre {P : Int} {l : List Jb} {os : List Od} (h : VS P l os) : Pre l os 0 := by
 refine ⟨fun m hm => by omega, fun m hm => ?_, fun o ho => ?_⟩
 · have := h.rg m hm
   unfold JobOk at this
   unfold jf jt jl jp
   omega
 · obtain ⟨i, hi, e⟩ := List.getElem_of_mem ho
   have := h.od i hi
   rw [List.getD_eq_getElem?_getD, List.getElem?_eq_getElem hi, Option.getD_some, e] at this
   unfold OrdOk at this
   omega
def cutJ (e : Int) (j : Jb) : Jb := (j.1, min j.2.1 e, j.2.2.1, j.2.2.2.1, ())
def cutK (l : List Jb) (e : Int) (i : Nat) : List Jb := (l.take i).map (cutJ e) ++ l.drop i
theorem cutK_len {l : List Jb} {e : Int} {i : Nat} : (cutK l e i).length = l.length := by
 simp only [cutK, List.length_append, List.length_map, List.length_take, List.length_drop]; omega
theorem cutK_zero {l : List Jb} {e : Int} : cutK l e 0 = l := by simp [cutK]
theorem cutK_end {l : List Jb} {e : Int} : cutK l e l.length = cutT l e := by unfold cutK cutT; rw [List.take_length, List.drop_length, List.append_nil]; rfl
theorem cutK_get {l : List Jb} {e : Int} {i : Nat} (hi : i < l.length) : (cutK l e i).getD i J0 = l.getD i J0 := by
 unfold cutK
 rw [List.getD_eq_getElem?_getD, List.getElem?_append_right (by simp; omega), List.getElem?_drop]
 simp only [List.length_map, List.length_take, List.getD_eq_getElem?_getD]
 congr 2; omega
theorem cutK_step {l : List Jb} {e : Int} {i : Nat} (hi : i < l.length) : (cutK l e i).set i (cutJ e (l.getD i J0)) = cutK l e (i + 1) := by
 unfold cutK
 have h1 : ((l.take i).map (cutJ e)).length = i := by simp; omega
 rw [List.set_append_right _ _ (by omega), h1, Nat.sub_self, List.drop_eq_getElem_cons hi, List.set_cons_zero, List.take_succ_eq_append_getElem hi, List.map_append, List.append_assoc]
 congr 1
 rw [List.getD_eq_getElem?_getD, List.getElem?_eq_getElem hi]
 rfl
noncomputable def okK (l : List Jb) (e : Int) (i : Nat) : Bool := open Classical in decide (∀ m, m < i → jf l m + jl l m ≤ min (jt l m) e)
theorem okK_zero {l : List Jb} {e : Int} : okK l e 0 = true := by classical exact decide_eq_true (by omega)
theorem okK_step {l : List Jb} {e : Int} {i : Nat} : okK l e (i + 1) = (okK l e i && decide (jf l i + jl l i ≤ min (jt l i) e)) := by
 classical
 unfold okK
 rw [Bool.eq_iff_iff]
 simp only [Bool.and_eq_true, decide_eq_true_eq]
 constructor
 · exact fun h => ⟨fun m hm => h m (by omega), h i (by omega)⟩
 · rintro ⟨h1, h2⟩ m hm
   by_cases g : m = i
   · subst g; exact h2
   · exact h1 m (by omega)
theorem okK_end {l : List Jb} {e : Int} : okK l e l.length = true ↔ okE l e := by
 classical
 unfold okK okE
 rw [decide_eq_true_eq]
theorem cut_vs {P : Int} {l : List Jb} {os : List Od} {e : Int} (h : VS P l os) (he : okE l e) : VS P (cutT l e) os := by
 refine ⟨h.pw, by rw [cut_len]; exact h.ln, h.lo, fun m hm => ?_, fun m hm => by rw [cut_len]; exact h.od m hm⟩
 rw [cut_len] at hm
 rw [cut_get hm]
 have h1 := h.rg m hm
 have h2 := he m hm
 unfold JobOk at h1 ⊢
 unfold jf jt jl jp at *
 dsimp only
 omega
theorem shortK_more {P : Int} {l : List Jb} {os : List Od} {r : Nat × List Int} {k : Nat} (h : shortK P l os k = some r) : ∀ {m : Nat}, k ≤ m → shortK P l os m = some r
  | 0, hm => by have : k = 0 := by omega
                subst this; exact h
  | m + 1, hm => by
    by_cases e : k = m + 1
    · subst e; exact h
    · rw [shortK, shortK_more h (m := m) (by omega)]
theorem shortK_hit {P : Int} {l : List Jb} {os : List Od} {k : Nat} {r : List Int} (h0 : shortK P l os k = none) (h1 : atE P l os ((k + 1 : Nat) : Int) = some r) (hk : k < 24) : shortK P l os 24 = some (k + 1, r) := by
 refine shortK_more (k := k + 1) ?_ (by omega)
 rw [shortK, h0]
 dsimp only
 rw [h1]; rfl
theorem shortK_miss {P : Int} {l : List Jb} {os : List Od} {k : Nat} (h0 : shortK P l os k = none) (h1 : atE P l os ((k + 1 : Nat) : Int) = none) : shortK P l os (k + 1) = none := by
 rw [shortK, h0]
 dsimp only
 rw [h1]; rfl
noncomputable def shT (P : Int) (l : List Jb) (os : List Od) : List Int := match shortK P l os 24 with
 | some r => r.2
 | none => []
noncomputable def shE (P : Int) (l : List Jb) (os : List Od) : Int := match shortK P l os 24 with
 | some r => (r.1 : Int)
 | none => 0
open Go.Tp
structure TJ (l : List Jb) : Prop where
 n1 : 1 ≤ l.length
 n6 : l.length ≤ 6
 rg : ∀ i, i < l.length → 0 ≤ jf l i ∧ jf l i < jt l i ∧ jt l i ≤ l.length ∧ jl l i = 1 ∧ jp l i = 1
def alJ (l : List Jb) (i j : Nat) : Bool := decide (jf l i ≤ j ∧ (j : Int) < jt l i)
def zN (c : List Nat) : List Int := c.map (fun x : Nat => (x : Int))
theorem zN_len {c : List Nat} : (zN c).length = c.length := by simp [zN]
theorem zN_get {c : List Nat} {i : Nat} : (zN c).getD i 0 = ((c.getD i 0 : Nat) : Int) := by
 unfold zN
 rw [List.getD_eq_getElem?_getD, List.getElem?_map, List.getD_eq_getElem?_getD]
 cases c[i]? <;> rfl
theorem sum_two {f : Nat → Int} (h0 : ∀ i, 0 ≤ f i) {a b : Nat} (hab : a < b) : ∀ {k : Nat}, b < k → f a + f b ≤ sumZ f k
 | k + 1, h => by
  rw [sumZ]
  by_cases e : b = k
  · subst e
    have : f a ≤ sumZ f b := by
     have one : ∀ {k : Nat}, a < k → f a ≤ sumZ f k := by
      intro k
      induction k with
      | zero => intro h; omega
      | succ k ih =>
       intro h
       rw [sumZ]
       have h2 := h0 k
       by_cases e : a = k
       · subst e
         have : 0 ≤ sumZ f a := by
          clear ih h h2 hab
          induction a with
          | zero => simp [sumZ]
          | succ a ih => rw [sumZ]; have := h0 a; omega
         omega
       · have := ih (by omega); omega
     exact one hab
    omega
  · have := sum_two h0 hab (k := k) (by omega)
    have := h0 k
    omega
theorem sum_one {f : Nat → Int} (h : ∀ i, f i = 0 ∨ f i = 1) : ∀ {k : Nat}, (∀ i j, i < k → j < k → f i = 1 → f j = 1 → i = j) → sumZ f k ≤ 1 ∧ ((∀ i, i < k → f i = 0) → sumZ f k = 0)
 | 0, _ => by simp [sumZ]
 | k + 1, hu => by
  obtain ⟨h1, h2⟩ := sum_one h (k := k) fun i j hi hj => hu i j (by omega) (by omega)
  rw [sumZ]
  refine ⟨?_, fun hz => by rw [h2 fun i hi => hz i (by omega), hz k (by omega)]; rfl⟩
  rcases h k with e | e
  · omega
  · have : sumZ f k = 0 := h2 fun i hi => by
     rcases h i with e2 | e2
     · exact e2
     · have := hu i k (by omega) (by omega) e2 e; omega
    omega
variable {l : List Jb}
theorem TJ.vs (h : TJ l) : VS 1 l [] := by
 refine ⟨by omega, ⟨h.n1, h.n6⟩, by simp, fun m hm => ?_, fun m hm => by simp at hm⟩
 have h1 := h.rg m hm
 have h2 := h.n6
 unfold JobOk
 unfold jf jt jl jp at h1
 omega
theorem TJ.on (h : TJ l) {s : List Int} (hl : s.length = l.length) (t : Int) : loadT l s t = sumZ (fun i => if i < l.length ∧ s.getD i 0 = t then 1 else 0) l.length := by
 unfold loadT
 rw [hl]
 refine sumZ_congr fun i hi => ?_
 obtain ⟨_, _, _, h1, h2⟩ := h.rg i hi
 rw [h1, h2]
 unfold onT
 by_cases e : s.getD i 0 = t
 · rw [if_pos (by omega), if_pos ⟨hi, e⟩]; rfl
 · rw [if_neg (by omega), if_neg fun h => e h.2]; rfl
theorem TJ.fit (h : TJ l) {s : List Int} : Fit 1 l [] s ↔ ∃ c, s = zN c ∧ Comp (alJ l) l.length l.length 0 c := by
 constructor
 · intro hf
   have hl := hf.len
   have hr : ∀ i, i < l.length → 0 ≤ s.getD i 0 ∧ jf l i ≤ s.getD i 0 ∧ s.getD i 0 < jt l i ∧ s.getD i 0 < l.length := fun i hi => by
    have h1 := hf.rg i hi
    have h2 := h.rg i hi
    omega
   have hz : s = zN (s.map Int.toNat) := by
    refine ext_get (by rw [zN_len, List.length_map]) fun i hi => ?_
    rw [zN_get]
    have h1 := (hr i (by omega)).1
    rw [List.getD_eq_getElem?_getD, List.getD_eq_getElem?_getD, List.getElem?_map, List.getElem?_eq_getElem hi]
    rw [List.getD_eq_getElem?_getD, List.getElem?_eq_getElem hi] at h1
    simp only [Option.getD_some, Option.map_some] at h1 ⊢
    omega
   obtain ⟨c, hc⟩ : ∃ c, c = s.map Int.toNat := ⟨_, rfl⟩
   rw [← hc] at hz
   have hcl : c.length = l.length := by rw [hc, List.length_map, hl]
   have hg : ∀ i, s.getD i 0 = ((c.getD i 0 : Nat) : Int) := fun i => by rw [hz, zN_get]
   refine ⟨c, hz, (comp_iff (Nat.le_refl _)).2 ⟨hcl, fun i hi => ?_, fun i i' hi hi' e => ?_⟩⟩
   · have h1 := hr i hi
     rw [hg] at h1
     refine ⟨by omega, Nat.zero_testBit _, ?_⟩
     unfold alJ
     rw [Nat.sub_self, Nat.zero_add]
     exact decide_eq_true ⟨h1.2.1, h1.2.2.1⟩
   · apply Classical.byContradiction
     intro hne
     have key : ∀ a b, a < b → b < l.length → c.getD a 0 = c.getD b 0 → False := fun a b hab hb e => by
      have h1 := (hr a (by omega))
      have h2 := hf.load (c.getD a 0) (by have h6 := h.n6; rw [hg] at h1; omega)
      rw [h.on hl] at h2
      have h3 := sum_two (f := fun i => if i < l.length ∧ s.getD i 0 = ((c.getD a 0 : Nat) : Int) then 1 else 0) (fun i => by split <;> omega) hab hb
      rw [if_pos ⟨by omega, hg a⟩, if_pos ⟨hb, by rw [hg b, e]⟩] at h3
      omega
     rcases Nat.lt_or_gt_of_ne hne with h1 | h1
     · exact key i i' h1 hi' e
     · exact key i' i h1 hi e.symm
 · rintro ⟨c, rfl, hc⟩
   obtain ⟨h1, h2, h3⟩ := (comp_iff (Nat.le_refl _)).1 hc
   refine ⟨by rw [zN_len, h1], fun i hi => ?_, fun t ht => ?_, fun o ho => by simp at ho⟩
   · obtain ⟨_, _, h4⟩ := h2 i hi
     have h5 := h.rg i hi
     rw [Nat.sub_self, Nat.zero_add] at h4
     have h6 := of_decide_eq_true h4
     rw [zN_get]
     omega
   · rw [h.on (by rw [zN_len, h1])]
     refine (sum_one (fun i => ?_) fun i j hi hj e1 e2 => ?_).1
     · split
       · exact .inr rfl
       · exact .inl rfl
     · split at e1
       · rename_i a
         split at e2
         · rename_i b
           have := a.2.trans b.2.symm
           rw [zN_get, zN_get] at this
           exact h3 i j hi hj (by omega)
         · omega
       · omega
theorem comp_all {al : Nat → Nat → Bool} {n : Nat} : ∀ {f u : Nat} {c : List Nat}, Comp al n f u c → ∃ v, pop v n = pop u n + f ∧ ∀ j, v.testBit j = true → u.testBit j = true ∨ j ∈ c
 | 0, u, c, _ => ⟨u, rfl, fun j h => .inl h⟩
 | f + 1, u, c, h => by
  obtain ⟨j, r, rfl, hj, h1, _, h2⟩ := h
  obtain ⟨v, h3, h4⟩ := comp_all h2
  refine ⟨v, by rw [h3, pop_or h1, if_pos hj]; omega, fun i hi => ?_⟩
  rcases h4 i hi with h5 | h5
  · rw [bit_or, Bool.or_eq_true] at h5
    rcases h5 with h5 | h5
    · exact .inl h5
    · exact .inr (by rw [← of_decide_eq_true h5]; simp)
  · exact .inr (by simp [h5])
theorem pop_zero : ∀ k, pop 0 k = 0
 | 0 => rfl
 | k + 1 => by rw [pop, pop_zero, Nat.zero_testBit]; rfl
theorem TJ.end' (h : TJ l) {s : List Int} (hs : Fit 1 l [] s) : endT l s = l.length := by
 obtain ⟨c, rfl, hc⟩ := h.fit.1 hs
 obtain ⟨v, h1, h2⟩ := comp_all hc
 rw [pop_zero, Nat.zero_add] at h1
 have h3 := h2 (l.length - 1) (pop_all h1 _ (by have := h.n1; omega))
 have h3 : l.length - 1 ∈ c := by
  rcases h3 with h3 | h3
  · rw [Nat.zero_testBit] at h3; cases h3
  · exact h3
 obtain ⟨i, hi, he⟩ := List.getElem_of_mem h3
 have hcl := comp_len hc
 have hle : endT l (zN c) ≤ l.length := by
  unfold endT
  rw [endK_le]
  refine ⟨by omega, fun m hm => ?_⟩
  rw [zN_len] at hm
  have h4 := hs.rg m (by omega)
  have h5 := h.rg m (by omega)
  omega
 have hge : (l.length : Int) ≤ endT l (zN c) := by
  have := (endK_le (l := l) (s := zN c) (e := endT l (zN c)) (k := (zN c).length)).1 (Int.le_refl _)
  have h4 := this.2 i (by rw [zN_len]; exact hi)
  have h5 := h.rg i (by omega)
  rw [zN_get, List.getD_eq_getElem?_getD, List.getElem?_eq_getElem hi] at h4
  simp only [Option.getD_some] at h4
  have := h.n1
  omega
 omega
end Go.Sh
namespace Go.Tp
open Go.Sh
def hdl (al : Nat → Nat → Bool) (S : List Nat) (k : Nat) : Nat := sumN (fun j => if S.any (fun i => al i j) = true then 1 else 0) k
def dfc (al : Nat → Nat → Bool) (n : Nat) (S : List Nat) : Bool := decide (hdl al S n < S.length)
def growS (al : Nat → Nat → Bool) (n : Nat) : Nat → List Nat → Nat → Option (List Nat)
 | 0, S, _ => if dfc al n S = true then some S else none
 | f + 1, S, a => firstK (fun d => growS al n f (S ++ [a + d]) (a + d + 1)) (n - f - a)
def lackT (al : Nat → Nat → Bool) (n : Nat) : Option (List Nat) := firstK (fun d => growS al n (d + 1) [] 0) n
def Asc (n : Nat) : Nat → List Nat → Prop
 | _, [] => True
 | a, x :: r => a ≤ x ∧ x < n ∧ Asc n (x + 1) r
variable {al : Nat → Nat → Bool} {n : Nat}
theorem asc_len : ∀ {a : Nat} {T : List Nat}, Asc n a T → T.length ≤ n - a
 | _, [], _ => Nat.zero_le _
 | a, x :: r, h => by
  have := asc_len h.2.2
  rw [List.length_cons]
  have h1 := h.1
  have h2 := h.2.1
  omega
theorem growS_none : ∀ {f : Nat} {S : List Nat} {a : Nat}, growS al n f S a = none → ∀ T, T.length = f → Asc n a T → dfc al n (S ++ T) = false
 | 0, S, a, h, T, hT, _ => by
  rw [List.eq_nil_of_length_eq_zero hT, List.append_nil]
  rw [growS] at h
  split at h
  · cases h
  · rename_i e; simpa using e
 | f + 1, S, a, h, T, hT, hA => by
  match T, hT, hA with
  | x :: r, hT, hA =>
   have hr : r.length = f := by simpa using hT
   have h1 := asc_len hA.2.2
   have h2 := hA.1
   have h3 := hA.2.1
   have h4 := firstK_none h (x - a) (by omega)
   rw [show a + (x - a) = x by omega] at h4
   have := growS_none h4 r hr hA.2.2
   rwa [List.append_assoc] at this
theorem growS_some : ∀ {f : Nat} {S : List Nat} {a : Nat} {S' : List Nat}, growS al n f S a = some S' → ∃ T, S' = S ++ T ∧ T.length = f ∧ Asc n a T ∧ dfc al n S' = true
 | 0, S, a, S', h => by
  rw [growS] at h
  split at h
  · rename_i e
    injection h with h
    subst h
    exact ⟨[], by simp, rfl, trivial, e⟩
  · cases h
 | f + 1, S, a, S', h => by
  rw [growS] at h
  obtain ⟨d, hd, h1, _⟩ := firstK_some h
  obtain ⟨T, rfl, h2, h3, h4⟩ := growS_some h1
  exact ⟨(a + d) :: T, by simp, by simp [h2], ⟨by omega, by omega, h3⟩, h4⟩
theorem sum_count {p : Nat → Bool} : ∀ k, sumN (fun j => if p j = true then 1 else 0) k = (List.range k).countP p
 | 0 => rfl
 | k + 1 => by
  rw [sumN, sum_count k, List.range_succ, List.countP_append, List.countP_singleton]
theorem asc_range' (p : Nat → Bool) : ∀ (k a : Nat), Asc (a + k) a ((List.range' a k).filter p)
 | 0, a => trivial
 | k + 1, a => by
  rw [List.range'_succ, List.filter_cons]
  have h := asc_range' p k (a + 1)
  rw [show a + 1 + k = a + (k + 1) by omega] at h
  split
  · exact ⟨Nat.le_refl _, by omega, h⟩
  · have weak : ∀ {m a b : Nat} {T : List Nat}, a ≤ b → Asc m b T → Asc m a T := by
     intro m a b T hab h
     cases T with
     | nil => trivial
     | cons x r => exact ⟨Nat.le_trans hab h.1, h.2⟩
    exact weak (Nat.le_succ _) h
theorem asc_filter (p : Nat → Bool) : Asc n 0 ((List.range n).filter p) := by
 have := asc_range' p n 0
 rw [Nat.zero_add] at this
 rwa [List.range_eq_range']
theorem lack_none (h : lackT al n = none) : Hal al (List.range n) (List.range n) := fun p => by
 obtain ⟨T, hT⟩ : ∃ T, T = (List.range n).filter p := ⟨_, rfl⟩
 have hl : (List.range n).countP p = T.length := by rw [hT, List.countP_eq_length_filter]
 rw [hl]
 by_cases h0 : T.length = 0
 · omega
 · have hA : Asc n 0 T := by rw [hT]; exact asc_filter p
   have hn := asc_len hA
   have h1 := firstK_none h (T.length - 1) (by omega)
   have h2 := growS_none h1 T (by omega) hA
   rw [List.nil_append] at h2
   have h3 := of_decide_eq_false h2
   unfold hdl at h3
   rw [sum_count] at h3
   refine Nat.le_trans (Nat.le_of_not_lt h3) (countP_mono' _ fun j _ hj => ?_)
   obtain ⟨i, hi, ha⟩ := List.any_eq_true.1 hj
   rw [hT, List.mem_filter] at hi
   exact nb_iff.2 ⟨i, hi.1, hi.2, ha⟩
theorem nodup_count {n : Nat} : ∀ {L : List Nat} {q : Nat → Bool}, L.Nodup → (∀ x, x ∈ L → x < n ∧ q x = true) → L.length ≤ (List.range n).countP q
 | [], _, _, _ => Nat.zero_le _
 | x :: r, q, hn, h => by
  have h1 := nodup_count (L := r) (q := fun y => !(y == x) && q y) (List.nodup_cons.1 hn).2 (fun y hy => by
   have h2 := h y (by simp [hy])
   refine ⟨h2.1, ?_⟩
   have : (y == x) = false := beq_eq_false_iff_ne.2 fun e => (List.nodup_cons.1 hn).1 (e ▸ hy)
   rw [this, h2.2]; rfl)
  have h2 := countP_split (List.range n) (fun y => y == x) q
  have h3 := h x (by simp)
  have h4 : 0 < (List.range n).countP (fun y => y == x && q y) := List.countP_pos_iff.2 ⟨x, List.mem_range.2 h3.1, by simp [h3.2]⟩
  rw [List.length_cons]
  omega
theorem asc_nodup : ∀ {a : Nat} {T : List Nat}, Asc n a T → T.Nodup ∧ ∀ x, x ∈ T → a ≤ x ∧ x < n
 | _, [], _ => ⟨List.nodup_nil, fun x hx => by simp at hx⟩
 | a, x :: r, h => by
  obtain ⟨h1, h2⟩ := asc_nodup h.2.2
  refine ⟨List.nodup_cons.2 ⟨fun hx => by have := (h2 x hx).1; omega, h1⟩, fun y hy => ?_⟩
  rcases List.mem_cons.1 hy with rfl | hy
  · exact ⟨h.1, h.2.1⟩
  · have := h2 y hy
    have := h.1
    omega
theorem comp_full {c : List Nat} (hc : Comp al n n 0 c) {S : List Nat} (hS : Asc n 0 S) : dfc al n S = false := by
 obtain ⟨h1, h2, h3⟩ := (comp_iff (Nat.le_refl _)).1 hc
 obtain ⟨h4, h5⟩ := asc_nodup hS
 refine decide_eq_false (Nat.not_lt.2 ?_)
 unfold hdl
 rw [sum_count]
 have h6 := nodup_count (n := n) (L := S.map fun i => c.getD i 0) (q := fun j => S.any fun i => al i j) (by
  refine (List.pairwise_map.2 ?_)
  refine h4.imp_of_mem fun {a b} ha hb hne e => hne (h3 a b (h5 a ha).2 (h5 b hb).2 e)) (fun x hx => by
  obtain ⟨i, hi, rfl⟩ := List.mem_map.1 hx
  obtain ⟨a, b, d⟩ := h2 i (h5 i hi).2
  rw [Nat.sub_self, Nat.zero_add] at d
  exact ⟨a, List.any_eq_true.2 ⟨i, hi, d⟩⟩)
 rwa [List.length_map] at h6
theorem lack_some {S : List Nat} (h : lackT al n = some S) : S ≠ [] ∧ ∀ c, ¬ Comp al n n 0 c := by
 obtain ⟨d, hd, h1, _⟩ := firstK_some h
 obtain ⟨T, h2, h3, h4, h5⟩ := growS_some h1
 rw [List.nil_append] at h2
 subst h2
 refine ⟨fun e => by rw [e] at h3; simp at h3, fun c hc => ?_⟩
 rw [comp_full hc h4] at h5
 cases h5
theorem lack_iff : lackT al n = none ↔ 0 < Wy al n n 0 := by
 rw [Wy_pos]
 constructor
 · intro h
   obtain ⟨m, h1, h2⟩ := hall n (List.range n) (List.range n) (by simp) List.nodup_range List.nodup_range (lack_none h)
   have hg : ∀ i, i < n → ((List.range n).map m).getD i 0 = m i := fun i hi => by
    rw [List.getD_eq_getElem?_getD, List.getElem?_map, List.getElem?_range hi]; rfl
   refine ⟨(List.range n).map m, (comp_iff (Nat.le_refl _)).2 ⟨by simp, fun i hi => ?_, fun i i' hi hi' e => ?_⟩⟩
   · obtain ⟨a, b⟩ := h1 i (List.mem_range.2 hi)
     rw [hg i hi, Nat.sub_self, Nat.zero_add]
     exact ⟨List.mem_range.1 a, Nat.zero_testBit _, b⟩
   · rw [hg i hi, hg i' hi'] at e
     exact h2 i i' (List.mem_range.2 hi) (List.mem_range.2 hi') e
 · rintro ⟨c, hc⟩
   cases e : lackT al n with
   | none => rfl
   | some S => exact absurd hc ((lack_some e).2 c)
end Go.Tp
namespace Go.Proofs.Ytckmhlpngolbpaa
open Int renaming reduceToNat → zr, reduceTDiv → zd, reduceTMod → zm
open Go Go.Vc Go.Sh Go.Tp
def mnK (l : List Int) : Nat → Int
 | 0 => l.getD 0 0
 | k + 1 => min (mnK l k) (l.getD (k + 1) 0)
def mxK (l : List Int) : Nat → Int
 | 0 => l.getD 0 0
 | k + 1 => max (mxK l k) (l.getD (k + 1) 0)
theorem mnK_ge {l : List Int} {a : Int} : ∀ {k : Nat}, (∀ i, i ≤ k → a ≤ l.getD i 0) → a ≤ mnK l k
 | 0, h => h 0 (Nat.le_refl _)
 | k + 1, h => by
  have h1 := mnK_ge (l := l) (k := k) fun i hi => h i (by omega)
  have h2 := h (k + 1) (Nat.le_refl _)
  rw [mnK]; omega
theorem mxK_le {l : List Int} {a : Int} : ∀ {k : Nat}, (∀ i, i ≤ k → l.getD i 0 ≤ a) → mxK l k ≤ a
 | 0, h => h 0 (Nat.le_refl _)
 | k + 1, h => by
  have h1 := mxK_le (l := l) (k := k) fun i hi => h i (by omega)
  have h2 := h (k + 1) (Nat.le_refl _)
  rw [mxK]; omega
theorem min_at {l : List Int} {m : Int} (h1 : 1 ≤ l.length) (h2 : l.length ≤ 1000) (hm : m = mnK l (l.length - 1)) : FnAt Try.prog false 43 [.arr (.int .i64) l] (.lit (.int .i64 (m : Int))) [] := by
 have hl : @List.length (Ty.int .i64).T l = l.length := rfl
 refine FnAt.of_body tys_ok Try.func43 (by rfl) rfl Try.ntmps43 (by rw [Try.results43]) (by simp) ?_
 repeat' (first
 | refine W.seq ?_
 | refine W.block ?_
 | (refine W.region tys_ok [] ?_; conv => whnf)
 | (refine W.drawAll tys_ok [] mixed rfl ?_; conv => whnf)
 | (refine W.ret ?_; conv => whnf)
 | (refine W.skip ?_; conv => whnf)
 | (refine W.exit ?_; conv => whnf)
 | (refine W.cond rfl (fun hb => ?_) (fun hb => ?_) <;> (try simp only [zr, zd, zm, minL, maxL, pickB, zA] at hb) <;> (try (first | (cases hb; done) | exact absurd hb (by decide) | (exfalso; omega) | (omega))))
 | ((with_reducible refine And.intro ?_ ?_); exact zc; conv => whnf)
 | ((with_reducible refine And.intro (Side.out ?_) ?_); rotate_left; (conv => whnf))
 | ((first | refine retF1 ?_ | refine retF2 ?_) <;> (conv => whnf) <;> repeat' (first
 | exact trivial
 | (with_reducible rfl)
 | ((with_reducible refine And.intro ?_ ?_) <;> conv => whnf)
 | omega
 | rfl
 | (refine congrArg (SV.arr _) ?_)
 | (refine congrArg (Value.int _) ?_)
 | (refine congrArg Value.bool ?_)))); all_goals (try unfold Side)
 all_goals try (repeat' (first | exact zb | with_reducible refine And.intro ?_ ?_))
 refine W.loop (fun i : Nat => ⟨[(0, .st false (.arr (.int .i64) l)), (3, (.lit (.int .i64 (mnK l i : Int)))), (4, (.lit (.int .i64 ((i + 1 : Nat) : Int))))], []⟩) (fun i => i + 1 ≤ l.length) (fun i => l.length - i) (0) ?_ ?_
 · refine ⟨h1, ?_⟩
   refine subF.ok ?_ <;> (conv => whnf) <;> repeat' (first
 | exact trivial
 | (with_reducible rfl)
 | ((with_reducible refine And.intro ?_ ?_) <;> conv => whnf)
 | omega
 | rfl
 | (refine congrArg (SV.arr _) ?_)
 | (refine congrArg (Value.int _) ?_)
 | (refine congrArg Value.bool ?_))
 · rintro i hi
   by_cases hil : i + 1 < l.length
   · repeat' (first
 | refine W.seq ?_
 | refine W.block ?_
 | (refine W.region tys_ok [] ?_; conv => whnf)
 | (refine W.drawAll tys_ok [] mixed rfl ?_; conv => whnf)
 | (refine W.ret ?_; conv => whnf)
 | (refine W.skip ?_; conv => whnf)
 | (refine W.exit ?_; conv => whnf)
 | (refine W.cond rfl (fun hb => ?_) (fun hb => ?_) <;> (try simp only [zr, zd, zm, minL, maxL, pickB, zA] at hb) <;> (try (first | (cases hb; done) | exact absurd hb (by decide) | (exfalso; omega) | (omega))))
 | ((with_reducible refine And.intro ?_ ?_); exact zc; conv => whnf)
 | ((with_reducible refine And.intro (Side.out ?_) ?_); rotate_left; (conv => whnf))
 | ((first | refine retF1 ?_ | refine retF2 ?_) <;> (conv => whnf) <;> repeat' (first
 | exact trivial
 | (with_reducible rfl)
 | ((with_reducible refine And.intro ?_ ?_) <;> conv => whnf)
 | omega
 | rfl
 | (refine congrArg (SV.arr _) ?_)
 | (refine congrArg (Value.int _) ?_)
 | (refine congrArg Value.bool ?_)))); all_goals (try unfold Side)
     all_goals try (repeat' (first | exact zb | with_reducible refine And.intro ?_ ?_))
     refine ⟨i + 1, ⟨by omega, by omega⟩, ?_⟩
     refine subF.ok ?_ <;> (conv => whnf) <;> repeat' (first
 | exact trivial
 | (with_reducible rfl)
 | ((with_reducible refine And.intro ?_ ?_) <;> conv => whnf)
 | omega
 | rfl
 | (refine congrArg (SV.arr _) ?_)
 | (refine congrArg (Value.int _) ?_)
 | (refine congrArg Value.bool ?_))
   · repeat' (first
 | refine W.seq ?_
 | refine W.block ?_
 | (refine W.region tys_ok [] ?_; conv => whnf)
 | (refine W.drawAll tys_ok [] mixed rfl ?_; conv => whnf)
 | (refine W.ret ?_; conv => whnf)
 | (refine W.skip ?_; conv => whnf)
 | (refine W.exit ?_; conv => whnf)
 | (refine W.cond rfl (fun hb => ?_) (fun hb => ?_) <;> (try simp only [zr, zd, zm, minL, maxL, pickB, zA] at hb) <;> (try (first | (cases hb; done) | exact absurd hb (by decide) | (exfalso; omega) | (omega))))
 | ((with_reducible refine And.intro ?_ ?_); exact zc; conv => whnf)
 | ((with_reducible refine And.intro (Side.out ?_) ?_); rotate_left; (conv => whnf))
 | ((first | refine retF1 ?_ | refine retF2 ?_) <;> (conv => whnf) <;> repeat' (first
 | exact trivial
 | (with_reducible rfl)
 | ((with_reducible refine And.intro ?_ ?_) <;> conv => whnf)
 | omega
 | rfl
 | (refine congrArg (SV.arr _) ?_)
 | (refine congrArg (Value.int _) ?_)
 | (refine congrArg Value.bool ?_)))); all_goals (try unfold Side)
     all_goals try (repeat' (first | exact zb | with_reducible refine And.intro ?_ ?_))
     all_goals (rw [hm, show l.length - 1 = i by omega])
theorem max_at {l : List Int} {m : Int} (h1 : 1 ≤ l.length) (h2 : l.length ≤ 1000) (hm : m = mxK l (l.length - 1)) : FnAt Try.prog false 44 [.arr (.int .i64) l] (.lit (.int .i64 (m : Int))) [] := by
 have hl : @List.length (Ty.int .i64).T l = l.length := rfl
 refine FnAt.of_body tys_ok Try.func44 (by rfl) rfl Try.ntmps44 (by rw [Try.results44]) (by simp) ?_
 repeat' (first
 | refine W.seq ?_
 | refine W.block ?_
 | (refine W.region tys_ok [] ?_; conv => whnf)
 | (refine W.drawAll tys_ok [] mixed rfl ?_; conv => whnf)
 | (refine W.ret ?_; conv => whnf)
 | (refine W.skip ?_; conv => whnf)
 | (refine W.exit ?_; conv => whnf)
 | (refine W.cond rfl (fun hb => ?_) (fun hb => ?_) <;> (try simp only [zr, zd, zm, minL, maxL, pickB, zA] at hb) <;> (try (first | (cases hb; done) | exact absurd hb (by decide) | (exfalso; omega) | (omega))))
 | ((with_reducible refine And.intro ?_ ?_); exact zc; conv => whnf)
 | ((with_reducible refine And.intro (Side.out ?_) ?_); rotate_left; (conv => whnf))
 | ((first | refine retF1 ?_ | refine retF2 ?_) <;> (conv => whnf) <;> repeat' (first
 | exact trivial
 | (with_reducible rfl)
 | ((with_reducible refine And.intro ?_ ?_) <;> conv => whnf)
 | omega
 | rfl
 | (refine congrArg (SV.arr _) ?_)
 | (refine congrArg (Value.int _) ?_)
 | (refine congrArg Value.bool ?_)))); all_goals (try unfold Side)
 all_goals try (repeat' (first | exact zb | with_reducible refine And.intro ?_ ?_))
 refine W.loop (fun i : Nat => ⟨[(0, .st false (.arr (.int .i64) l)), (3, (.lit (.int .i64 (mxK l i : Int)))), (4, (.lit (.int .i64 ((i + 1 : Nat) : Int))))], []⟩) (fun i => i + 1 ≤ l.length) (fun i => l.length - i) (0) ?_ ?_
 · refine ⟨h1, ?_⟩
   refine subF.ok ?_ <;> (conv => whnf) <;> repeat' (first
 | exact trivial
 | (with_reducible rfl)
 | ((with_reducible refine And.intro ?_ ?_) <;> conv => whnf)
 | omega
 | rfl
 | (refine congrArg (SV.arr _) ?_)
 | (refine congrArg (Value.int _) ?_)
 | (refine congrArg Value.bool ?_))
 · rintro i hi
   by_cases hil : i + 1 < l.length
   · repeat' (first
 | refine W.seq ?_
 | refine W.block ?_
 | (refine W.region tys_ok [] ?_; conv => whnf)
 | (refine W.drawAll tys_ok [] mixed rfl ?_; conv => whnf)
 | (refine W.ret ?_; conv => whnf)
 | (refine W.skip ?_; conv => whnf)
 | (refine W.exit ?_; conv => whnf)
 | (refine W.cond rfl (fun hb => ?_) (fun hb => ?_) <;> (try simp only [zr, zd, zm, minL, maxL, pickB, zA] at hb) <;> (try (first | (cases hb; done) | exact absurd hb (by decide) | (exfalso; omega) | (omega))))
 | ((with_reducible refine And.intro ?_ ?_); exact zc; conv => whnf)
 | ((with_reducible refine And.intro (Side.out ?_) ?_); rotate_left; (conv => whnf))
 | ((first | refine retF1 ?_ | refine retF2 ?_) <;> (conv => whnf) <;> repeat' (first
 | exact trivial
 | (with_reducible rfl)
 | ((with_reducible refine And.intro ?_ ?_) <;> conv => whnf)
 | omega
 | rfl
 | (refine congrArg (SV.arr _) ?_)
 | (refine congrArg (Value.int _) ?_)
 | (refine congrArg Value.bool ?_)))); all_goals (try unfold Side)
     all_goals try (repeat' (first | exact zb | with_reducible refine And.intro ?_ ?_))
     refine ⟨i + 1, ⟨by omega, by omega⟩, ?_⟩
     refine subF.ok ?_ <;> (conv => whnf) <;> repeat' (first
 | exact trivial
 | (with_reducible rfl)
 | ((with_reducible refine And.intro ?_ ?_) <;> conv => whnf)
 | omega
 | rfl
 | (refine congrArg (SV.arr _) ?_)
 | (refine congrArg (Value.int _) ?_)
 | (refine congrArg Value.bool ?_))
   · repeat' (first
 | refine W.seq ?_
 | refine W.block ?_
 | (refine W.region tys_ok [] ?_; conv => whnf)
 | (refine W.drawAll tys_ok [] mixed rfl ?_; conv => whnf)
 | (refine W.ret ?_; conv => whnf)
 | (refine W.skip ?_; conv => whnf)
 | (refine W.exit ?_; conv => whnf)
 | (refine W.cond rfl (fun hb => ?_) (fun hb => ?_) <;> (try simp only [zr, zd, zm, minL, maxL, pickB, zA] at hb) <;> (try (first | (cases hb; done) | exact absurd hb (by decide) | (exfalso; omega) | (omega))))
 | ((with_reducible refine And.intro ?_ ?_); exact zc; conv => whnf)
 | ((with_reducible refine And.intro (Side.out ?_) ?_); rotate_left; (conv => whnf))
 | ((first | refine retF1 ?_ | refine retF2 ?_) <;> (conv => whnf) <;> repeat' (first
 | exact trivial
 | (with_reducible rfl)
 | ((with_reducible refine And.intro ?_ ?_) <;> conv => whnf)
 | omega
 | rfl
 | (refine congrArg (SV.arr _) ?_)
 | (refine congrArg (Value.int _) ?_)
 | (refine congrArg Value.bool ?_)))); all_goals (try unfold Side)
     all_goals try (repeat' (first | exact zb | with_reducible refine And.intro ?_ ?_))
     all_goals (rw [hm, show l.length - 1 = i by omega])
structure CO (C : List (List Int)) (n : Nat) : Prop where
 len : C.length = n
 n1 : 1 ≤ n
 n6 : n ≤ 6
 row : ∀ i, i < n → (C.getD i []).length = n
 val : ∀ i j, i < n → j < n → 0 ≤ (C.getD i []).getD j 0 ∧ (C.getD i []).getD j 0 ≤ 1
def alC (C : List (List Int)) (i j : Nat) : Bool := decide ((C.getD i []).getD j 0 ≤ 0)
theorem pvalid_at {C : List (List Int)} {n : Nat} (h : CO C n) : FnAt Try.prog false 18 [.arr (.sl (.int .i64)) (C : List (List Int))] (.lit (.bool true)) [] := by
 have hl : @List.length (Ty.sl (.int .i64)).T C = n := h.len
 have hn1 := h.n1
 have hn6 := h.n6
 refine FnAt.of_body tys_ok Try.func18 (by rfl) rfl Try.ntmps18 (by rw [Try.results18]) (by simp) ?_
 repeat' (first
 | refine W.seq ?_
 | refine W.block ?_
 | (refine W.region tys_ok [] ?_; conv => whnf)
 | (refine W.drawAll tys_ok [] mixed rfl ?_; conv => whnf)
 | (refine W.ret ?_; conv => whnf)
 | (refine W.skip ?_; conv => whnf)
 | (refine W.exit ?_; conv => whnf)
 | (refine W.cond rfl (fun hb => ?_) (fun hb => ?_) <;> (try simp only [zr, zd, zm, minL, maxL, pickB, zA] at hb) <;> (try (first | (cases hb; done) | exact absurd hb (by decide) | (exfalso; omega) | (omega) | ((simp [pickB] at hb; omega)))))
 | ((with_reducible refine And.intro ?_ ?_); exact zc; conv => whnf)
 | ((with_reducible refine And.intro (Side.out ?_) ?_); rotate_left; (conv => whnf))
 | ((first | refine retF1 ?_ | refine retF2 ?_) <;> (conv => whnf) <;> repeat' (first
 | exact trivial
 | (with_reducible rfl)
 | ((with_reducible refine And.intro ?_ ?_) <;> conv => whnf)
 | omega
 | rfl
 | (refine congrArg (SV.arr _) ?_)
 | (refine congrArg (Value.int _) ?_)
 | (refine congrArg Value.bool ?_)))); all_goals (try unfold Side)
 all_goals try (repeat' (first | exact zb | with_reducible refine And.intro ?_ ?_))
 refine W.loop (fun i : Nat => ⟨[(0, .st false (.arr (.sl (.int .i64)) (C : List (List Int)))), (13, .st false (.arr (.sl (.int .i64)) (C : List (List Int)))), (14, (.lit (.int .i64 (n : Int)))), (15, (.lit (.int .i64 (i : Int))))], []⟩) (fun i => i ≤ n) (fun i => n - i) (0) ?_ ?_
 · refine ⟨Nat.zero_le _, ?_⟩
   refine subF.ok ?_ <;> (conv => whnf) <;> repeat' (first
 | exact trivial
 | (with_reducible rfl)
 | ((with_reducible refine And.intro ?_ ?_) <;> conv => whnf)
 | omega
 | rfl
 | (refine congrArg (SV.arr _) ?_)
 | (refine congrArg (Value.int _) ?_)
 | (refine congrArg Value.bool ?_))
   all_goals first | exact congrArg Nat.cast h.len | skip
 · rintro i hi
   by_cases hil : i < n
   · obtain ⟨r, hr⟩ : ∃ r, r = C.getD i [] := ⟨_, rfl⟩
     have hrl : r.length = n := by rw [hr]; exact h.row i hil
     have hrl2 : @List.length (Ty.int .i64).T r = n := hrl
     have c1 := min_at (l := r) (by omega) (by omega) rfl
     have c2 := max_at (l := r) (by omega) (by omega) rfl
     have h1 : 0 ≤ mnK r (r.length - 1) := mnK_ge fun j hj => by rw [hr]; exact (h.val i j hil (by omega)).1
     have h2 : mxK r (r.length - 1) ≤ 1 := mxK_le fun j hj => by rw [hr]; exact (h.val i j hil (by omega)).2
     obtain ⟨a, ha⟩ : ∃ a, a = mnK r (r.length - 1) := ⟨_, rfl⟩
     obtain ⟨b, hb0⟩ : ∃ b, b = mxK r (r.length - 1) := ⟨_, rfl⟩
     rw [← ha] at c1 h1
     rw [← hb0] at c2 h2
     repeat' (first
 | refine W.seq ?_
 | refine W.block ?_
 | (refine W.resub (x := Code.region 6 _ _) (Γ' := ⟨[(0, .st false (.arr (.sl (.int .i64)) (C : List (List Int)))), (13, .st false (.arr (.sl (.int .i64)) (C : List (List Int)))), (14, (.lit (.int .i64 (n : Int)))), (15, (.lit (.int .i64 (i : Int)))), (4, .st false (.arr (.int .i64) (r : List Int)))], []⟩) ?_ (W.region tys_ok [] ?_); rotate_left; (conv => whnf))
 | (refine W.region tys_ok [] ?_; conv => whnf)
 | (refine W.drawAll tys_ok [] mixed rfl ?_; conv => whnf)
 | (refine W.ret ?_; conv => whnf)
 | (refine W.skip ?_; conv => whnf)
 | (refine W.exit ?_; conv => whnf)
 | (refine call_at (al := false) (c1) rfl rfl rfl rfl ?_; conv => whnf)
 | (refine call_at (al := false) (c2) rfl rfl rfl rfl ?_; conv => whnf)
 | (refine W.cond rfl (fun hb => ?_) (fun hb => ?_) <;> (try simp only [zr, zd, zm, minL, maxL, pickB, zA] at hb) <;> (try (first | (cases hb; done) | exact absurd hb (by decide) | (exfalso; omega) | (omega) | ((simp [pickB] at hb; omega)))))
 | ((with_reducible refine And.intro ?_ ?_); exact zc; conv => whnf)
 | ((with_reducible refine And.intro (Side.out ?_) ?_); rotate_left; (conv => whnf))
 | ((first | refine retF1 ?_ | refine retF2 ?_) <;> (conv => whnf) <;> repeat' (first
 | exact trivial
 | (with_reducible rfl)
 | ((with_reducible refine And.intro ?_ ?_) <;> conv => whnf)
 | omega
 | rfl
 | (refine congrArg (SV.arr _) ?_)
 | (refine congrArg (Value.int _) ?_)
 | (refine congrArg Value.bool ?_)))); all_goals (try unfold Side)
     all_goals try refine subF.ok ?_ <;> (conv => whnf) <;> repeat' (first
 | exact trivial
 | (with_reducible rfl)
 | ((with_reducible refine And.intro ?_ ?_) <;> conv => whnf)
 | omega
 | rfl
 | (refine congrArg (SV.arr _) ?_)
 | (refine congrArg (Value.int _) ?_)
 | (refine congrArg Value.bool ?_))
     all_goals try (repeat' (first | exact zb | with_reducible refine And.intro ?_ ?_))
     all_goals first | exact hr.symm | skip
     refine ⟨i + 1, ⟨by omega, by omega⟩, ?_⟩
     refine subF.ok ?_ <;> (conv => whnf) <;> repeat' (first
 | exact trivial
 | (with_reducible rfl)
 | ((with_reducible refine And.intro ?_ ?_) <;> conv => whnf)
 | omega
 | rfl
 | (refine congrArg (SV.arr _) ?_)
 | (refine congrArg (Value.int _) ?_)
 | (refine congrArg Value.bool ?_))
   · repeat' (first
 | refine W.seq ?_
 | refine W.block ?_
 | (refine W.region tys_ok [] ?_; conv => whnf)
 | (refine W.drawAll tys_ok [] mixed rfl ?_; conv => whnf)
 | (refine W.ret ?_; conv => whnf)
 | (refine W.skip ?_; conv => whnf)
 | (refine W.exit ?_; conv => whnf)
 | (refine W.cond rfl (fun hb => ?_) (fun hb => ?_) <;> (try simp only [zr, zd, zm, minL, maxL, pickB, zA] at hb) <;> (try (first | (cases hb; done) | exact absurd hb (by decide) | (exfalso; omega) | (omega))))
 | ((with_reducible refine And.intro ?_ ?_); exact zc; conv => whnf)
 | ((with_reducible refine And.intro (Side.out ?_) ?_); rotate_left; (conv => whnf))
 | ((first | refine retF1 ?_ | refine retF2 ?_) <;> (conv => whnf) <;> repeat' (first
 | exact trivial
 | (with_reducible rfl)
 | ((with_reducible refine And.intro ?_ ?_) <;> conv => whnf)
 | omega
 | rfl
 | (refine congrArg (SV.arr _) ?_)
 | (refine congrArg (Value.int _) ?_)
 | (refine congrArg Value.bool ?_)))); all_goals (try unfold Side)
     all_goals try (repeat' (first | exact zb | with_reducible refine And.intro ?_ ?_))
theorem upIn_at {C : List (List Int)} {n i j : Nat} (h : CO C n) (hi : i < n) (hj : j < n) : FnAt Try.prog false 45 [I64 i, I64 j, .sadr (.arr (.sl (.int .i64)) (C : List (List Int))), .sadr (I64 0)] (.lit (.bool (alC C i j))) [] := by
 have hl : @List.length (Ty.sl (.int .i64)).T C = n := h.len
 have hr : @List.length (Ty.int .i64).T (C.getD i []) = n := h.row i hi
 have e1 : 0 ≤ (i : Int) ∧ (i : Int).toNat < C.length := ⟨by omega, by rw [h.len]; omega⟩
 refine FnAt.of_body tys_ok Try.func45 (by rfl) rfl Try.ntmps45 (by rw [Try.results45]) (by simp) ?_
 repeat' (first
 | refine W.seq ?_
 | refine W.block ?_
 | (refine W.drawPh (id := 1) tys_ok [] mixed [0, 0, 3, 4, 0, 24, 32, 0, 192, 511] [([0, 1, 2, 3, 4, 5, 6, 7, 8, 9], 0, 1023)] (by decide +kernel) ?_; conv => whnf)
 | (refine W.region tys_ok [] ?_; conv => whnf)
 | (refine W.drawAll tys_ok [] mixed rfl ?_; conv => whnf)
 | (refine W.ret ?_; conv => whnf)
 | (refine W.skip ?_; conv => whnf)
 | (refine W.exit ?_; conv => whnf)
 | (refine Both.mk ?_ ?_ <;> (conv => whnf))
 | (refine W.cond rfl (fun hb => ?_) (fun hb => ?_) <;> (try simp only [zr, zd, zm, minL, maxL, pickB, zA] at hb) <;> (try (first | (cases hb; done) | exact absurd hb (by decide) | (exfalso; omega) | (omega))))
 | ((with_reducible refine And.intro ?_ ?_); exact zc; conv => whnf)
 | ((with_reducible refine And.intro (Side.out ?_) ?_); rotate_left; (conv => whnf))
 | ((first | refine retF1 ?_ | refine retF2 ?_ | refine subF.leaf ?_ | refine subF.side ?_) <;> (conv => whnf) <;> repeat' (first
 | exact trivial
 | (with_reducible rfl)
 | ((with_reducible refine And.intro ?_ ?_) <;> conv => whnf)
 | omega
 | rfl
 | (refine congrArg (SV.arr _) ?_)
 | (refine congrArg (Value.int _) ?_)
 | (refine congrArg Value.bool ?_)))); all_goals (try unfold Side)
 all_goals try (repeat' (first | exact zb | with_reducible refine And.intro ?_ ?_))
end Go.Proofs.Ytckmhlpngolbpaa
namespace Go.Tp
theorem bit_val (u k : Nat) : ((u / 2 ^ k) &&& 1 : Nat) = if u.testBit k then 1 else 0 := by
 rw [Nat.and_one_is_mod, Nat.testBit_eq_decide_div_mod_eq]
 have := Nat.mod_two_eq_zero_or_one (u / 2 ^ k)
 rcases this with h | h <;> simp [h]
theorem shr_val (u k : Nat) : (u : Int) / (2 : Int) ^ ((k : Int).toNat) = ((u / 2 ^ k : Nat) : Int) := by
 rw [Int.toNat_natCast, Int.natCast_ediv, Int.natCast_pow]; rfl
theorem bit_int (u k : Nat) : (((((u : Int) / (2 : Int) ^ ((k : Int).toNat)).toNat &&& (1 : Int).toNat) : Nat) : Int) = if u.testBit k then 1 else 0 := by
 rw [shr_val, Int.toNat_natCast]
 show ((((u / 2 ^ k) &&& 1 : Nat)) : Int) = _
 rw [bit_val]
 split <;> rfl
theorem shl_val (j : Nat) : (1 : Int) * (2 : Int) ^ ((j : Int).toNat) = ((2 ^ j : Nat) : Int) := by
 rw [Int.one_mul, Int.toNat_natCast, Int.natCast_pow]; rfl
theorem or_val (u j : Nat) : (u : Int).toNat ||| (((1 : Int) * (2 : Int) ^ ((j : Int).toNat)).toNat) = u ||| 2 ^ j := by
 rw [shl_val, Int.toNat_natCast, Int.toNat_natCast]
theorem or_lt {u j n : Nat} (hu : u < 2 ^ n) (hj : j < n) : u ||| 2 ^ j < 2 ^ n := Nat.or_lt_two_pow hu (Nat.pow_lt_pow_right (by decide) hj)
theorem or_gt {u j : Nat} (h : u.testBit j = false) : u < u ||| 2 ^ j := by
 apply Nat.lt_of_le_of_ne Nat.left_le_or
 intro e
 have h1 : (u ||| 2 ^ j).testBit j = true := by rw [bit_or]; simp
 rw [← e, h] at h1
 cases h1
theorem sumN_le {f : Nat → Nat} {B : Nat} (h : ∀ j, f j ≤ B) : ∀ k, sumN f k ≤ k * B
 | 0 => by simp [sumN]
 | k + 1 => by
  rw [sumN, Nat.succ_mul]
  have := sumN_le h k
  have := h k
  omega
variable {al : Nat → Nat → Bool} {n : Nat}
theorem Wy_le : ∀ (f u : Nat), Wy al n f u ≤ n ^ f
 | 0, u => Nat.le_refl _
 | f + 1, u => by
  rw [Wy, Nat.pow_succ, Nat.mul_comm]
  exact sumN_le (fun j => by split; exact Wy_le f _; exact Nat.zero_le _) n
theorem way_le {u : Nat} (hn : 1 ≤ n) (h6 : n ≤ 6) : way al n u ≤ 46656 := by
 unfold way
 refine Nat.le_trans (Wy_le _ _) ?_
 refine Nat.le_trans (Nat.pow_le_pow_left h6 _) ?_
 exact Nat.pow_le_pow_right (n := 6) (by decide) (by omega : n - pop u n ≤ 6)
def termW (al : Nat → Nat → Bool) (n u j : Nat) : Nat := if !u.testBit j && al (pop u n) j then way al n (u ||| 2 ^ j) else 0
theorem way_sum {u : Nat} (h : pop u n < n) : way al n u = sumN (termW al n u) n := way_step h
theorem part_le {u : Nat} (hn : 1 ≤ n) (h6 : n ≤ 6) (k : Nat) (hk : k ≤ n) : sumN (termW al n u) k ≤ 279936 := by
 have := sumN_le (f := termW al n u) (B := 46656) (fun j => by unfold termW; split; exact way_le hn h6; exact Nat.zero_le _) k
 have h2 : k * 46656 ≤ 6 * 46656 := Nat.mul_le_mul_right _ (by omega)
 omega
theorem pop_full {u : Nat} (hu : u < 2 ^ n) (h : pop u n = n) : u = 2 ^ n - 1 := by
 apply Nat.eq_of_testBit_eq
 intro i
 rw [Nat.testBit_two_pow_sub_one]
 by_cases hi : i < n
 · rw [pop_all h i hi, decide_eq_true hi]
 · rw [decide_eq_false hi]
   exact Nat.testBit_lt_two_pow (Nat.lt_of_lt_of_le hu (Nat.pow_le_pow_right (by decide) (by omega)))
theorem pop_lt {u : Nat} (hu : u + 1 < 2 ^ n) : pop u n < n := by
 apply Nat.lt_of_le_of_ne (pop_le u n)
 intro e
 have := pop_full (by omega) e
 omega
theorem pop_ones : ∀ {m k : Nat}, k ≤ m → pop (2 ^ m - 1) k = k
 | m, 0, _ => rfl
 | m, k + 1, h => by
  rw [pop, pop_ones (by omega), Nat.testBit_two_pow_sub_one, decide_eq_true (by omega)]; rfl
theorem way_full : way al n (2 ^ n - 1) = 1 := by
 unfold way
 rw [pop_ones (Nat.le_refl _), Nat.sub_self]; rfl
theorem two_pow6 {n : Nat} (h1 : 1 ≤ n) (h : n ≤ 6) : 2 ≤ 2 ^ n ∧ 2 ^ n ≤ 64 := by
 have h2 : 2 ^ n ≤ 2 ^ 6 := Nat.pow_le_pow_right (by decide) h
 have h3 : 2 ^ 1 ≤ 2 ^ n := Nat.pow_le_pow_right (by decide) h1
 exact ⟨h3, h2⟩
end Go.Tp
