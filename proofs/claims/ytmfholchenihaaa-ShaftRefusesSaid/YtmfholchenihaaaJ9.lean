/- Joined of: H28 H29 Ha18 Ha19 Ha20 Ha21 Vc32 H36. No condition. -/
import Derived.Test.YtmfholchenihaaaJ6
import Derived.Test.YtmfholchenihaaaJ8
import Derived.Test.YtmfholchenihaaaJ7
import Derived.Test.YtmfholchenihaaaJ4

namespace Go.Vc
end Go.Vc
namespace Go.Proofs.Ytmfholchenihaaa
open Go Go.Vc Go.Sh
set_option linter.unusedVariables false
set_option linter.unusedSimpArgs false
end Go.Proofs.Ytmfholchenihaaa
namespace Go.Proofs.Ytmfholchenihaaa
open Go Go.Vc Go.Sh
set_option linter.unusedVariables false
set_option linter.unusedSimpArgs false
theorem first_spec {P : Int} {l : List Jb} {os : List Od} (h : VS P l os) : (firstT P l os = [] ∧ ∀ s, ¬ Fit P l os s) ∨ (firstT P l os ≠ [] ∧ Fit P l os (firstT P l os) ∧ ∀ s, Fit P l os s → lexle (firstT P l os) s) := by
  have h1 := growT_ok (P := P) (os := os) (k := l.length) (l := l) (i := 0) rfl h.pre
  unfold firstT
  cases e : growT P os l.length l 0 with
  | none => rw [e] at h1; exact .inl ⟨rfl, h1⟩
  | some r =>
    rw [e] at h1
    refine .inr ⟨fun hn => ?_, h1⟩
    have h2 := h1.1.len
    have h3 := h.ln
    have hn : r = [] := hn
    rw [hn] at h2
    simp at h2
    omega
end Go.Proofs.Ytmfholchenihaaa
namespace Go.Sh
set_option linter.unusedVariables false
set_option linter.unusedSimpArgs false
def upL (V : Nat → Int) (i : Nat) : List Int := (List.range i).map V
theorem upL_len {V : Nat → Int} {i : Nat} : (upL V i).length = i := by simp [upL]
theorem upL_get {V : Nat → Int} {i k : Nat} (h : k < i) : (upL V i).getD k 0 = V k := by
  unfold upL
  rw [List.getD_eq_getElem?_getD, List.getElem?_map, List.getElem?_range h]
  rfl
end Go.Sh
namespace Go.Sh
set_option linter.unusedVariables false
set_option linter.unusedSimpArgs false
end Go.Sh
namespace Go.Sh
set_option linter.unusedVariables false
set_option linter.unusedSimpArgs false
theorem take_step {α : Type} {l : List α} {i : Nat} {d x : α} (h : i < l.length) (e : l.getD i d = x) : l.take i ++ [x] = l.take (i + 1) := by
  rw [List.take_succ_eq_append_getElem h, ← e, List.getD_eq_getElem?_getD, List.getElem?_eq_getElem h]; rfl
end Go.Sh
namespace Go.Sh
set_option linter.unusedVariables false
set_option linter.unusedSimpArgs false
noncomputable def allL (P : Int) (l : List Jb) (os : List Od) (r : Nat) : List (List Int) := ((List.range r).map (tupT l)).filter (fitB P l os)
theorem allL_yes {P : Int} {l : List Jb} {os : List Od} {r : Nat} (h : fitB P l os (tupT l r) = true) : allL P l os r ++ [tupT l r] = allL P l os (r + 1) := by
  simp [allL, List.range_succ, h]
theorem allL_no {P : Int} {l : List Jb} {os : List Od} {r : Nat} (h : fitB P l os (tupT l r) = false) : allL P l os r = allL P l os (r + 1) := by
  simp [allL, List.range_succ, h]
theorem allL_len {P : Int} {l : List Jb} {os : List Od} {r : Nat} : (allL P l os r).length ≤ r := by
  unfold allL
  refine Nat.le_trans (List.length_filter_le _ _) ?_
  simp
theorem all_mem {P : Int} {l : List Jb} {os : List Od} {s : List Int} : s ∈ allL P l os (waysT l) ↔ Fit P l os s := by
  unfold allL
  rw [List.mem_filter, fitB_iff]
  refine ⟨fun h => h.2, fun h => ⟨?_, h⟩⟩
  obtain ⟨r, h1, h2⟩ := tup_all h
  exact List.mem_map.2 ⟨r, List.mem_range.2 h1, h2.symm⟩
theorem all_has {P : Int} {l : List Jb} {os : List Od} {s : List Int} (h : Fit P l os s) : ∃ i, i < (allL P l os (waysT l)).length ∧ (allL P l os (waysT l)).getD i [] = s := by
  obtain ⟨i, hi, e⟩ := List.getElem_of_mem (all_mem.2 h)
  refine ⟨i, hi, ?_⟩
  rw [List.getD_eq_getElem?_getD, List.getElem?_eq_getElem hi]
  exact e
def rstT (l : List Jb) (r k : Nat) : List Int := (List.range l.length).map fun m => if m < k then jf l m + (digT l r m : Int) else jf l m
theorem rst_len {l : List Jb} {r k : Nat} : (rstT l r k).length = l.length := by simp [rstT]
theorem rst_get {l : List Jb} {r k m : Nat} (hm : m < l.length) : (rstT l r k).getD m 0 = if m < k then jf l m + (digT l r m : Int) else jf l m := by
  unfold rstT
  rw [List.getD_eq_getElem?_getD, List.getElem?_map, List.getElem?_range hm]; rfl
theorem rst_all {l : List Jb} {r : Nat} : rstT l r l.length = tupT l r := by
  unfold rstT tupT
  apply List.map_congr_left
  intro m hm
  rw [if_pos (List.mem_range.1 hm)]
theorem set_getI {l : List Int} {i m : Nat} {y : Int} (hi : i < l.length) : (l.set i y).getD m 0 = if m = i then y else l.getD m 0 := by
  rw [List.getD_eq_getElem?_getD, List.getElem?_set, List.getD_eq_getElem?_getD]
  by_cases e : i = m
  · subst e; simp [hi]
  · rw [if_neg e, if_neg (fun h => e h.symm)]
theorem rst_down {l : List Jb} {r k : Nat} (hk : k < l.length) : (rstT l r (k + 1)).set k (jf l k) = rstT l r k := by
  apply ext_get
  · rw [List.length_set, rst_len, rst_len]
  · intro m hm
    rw [List.length_set, rst_len] at hm
    rw [set_getI (by rw [rst_len]; exact hk), rst_get hm, rst_get hm]
    by_cases e : m = k
    · subst e; rw [if_pos rfl, if_neg (by omega)]
    · rw [if_neg e]
      by_cases c : m < k
      · rw [if_pos c, if_pos (by omega)]
      · rw [if_neg c, if_neg (by omega)]
theorem rst_up {l : List Jb} {r k : Nat} (hw : ∀ i, i < l.length → 1 ≤ wayT l i) (hk : k < l.length) (hf : r % sufK l (l.length - (k + 1)) = sufK l (l.length - (k + 1)) - 1) (hd : digT l r k + 1 < wayT l k) :
    (rstT l r (k + 1)).set k ((rstT l r (k + 1)).getD k 0 + 1) = tupT l (r + 1) := by
  have e0 : l.length - (k + 1) = l.length - 1 - k := by omega
  rw [e0] at hf
  obtain ⟨h1, h2, h3⟩ := tup_next hw hk hf hd
  apply ext_get
  · rw [List.length_set, rst_len, tup_len]
  · intro m hm
    rw [List.length_set, rst_len] at hm
    rw [set_getI (by rw [rst_len]; exact hk), rst_get hm, rst_get hk, tup_get hm, if_pos (show k < k + 1 by omega)]
    by_cases e : m = k
    · subst e; rw [if_pos rfl, h2]; omega
    · rw [if_neg e]
      by_cases c : m < k
      · rw [if_pos (by omega), h1 m c]
      · rw [if_neg (by omega), h3 m (by omega) hm]; omega
theorem full_down {l : List Jb} {r k : Nat} (hw : ∀ i, i < l.length → 1 ≤ wayT l i) (hk : k < l.length) (hf : r % sufK l (l.length - (k + 1)) = sufK l (l.length - (k + 1)) - 1) (hd : ¬ digT l r k + 1 < wayT l k) :
    r % sufK l (l.length - k) = sufK l (l.length - k) - 1 := by
  have e0 : l.length - (k + 1) = l.length - 1 - k := by omega
  rw [e0] at hf
  have h1 : digT l r k < wayT l k := Nat.mod_lt _ (hw k hk)
  exact full_step hk (hw k hk) (suf_pos hw (by omega)) hf (by omega)
theorem full_last {l : List Jb} {r : Nat} (hr : r < waysT l) (hf : r % sufK l (l.length - 0) = sufK l (l.length - 0) - 1) : r + 1 = waysT l := by
  rw [Nat.sub_zero, suf_all, Nat.mod_eq_of_lt hr] at hf
  omega
theorem way_pos {l : List Jb} {os : List Od} (h : Pre l os 0) : ∀ i, i < l.length → 1 ≤ wayT l i := fun i hi => by
  have := h.rg i hi
  unfold wayT frT
  omega
theorem tup_zero {l : List Jb} {os : List Od} (h : Pre l os 0) : tupT l 0 = l.map (·.1) := by
  apply ext_get
  · rw [tup_len, List.length_map]
  · intro m hm
    rw [tup_len] at hm
    rw [tup_get hm, map_get]
    unfold digT
    rw [Nat.zero_div, Nat.zero_mod]
    omega
theorem dig_last {l : List Jb} (hw : ∀ i, i < l.length → 1 ≤ wayT l i) {j : Nat} (hj : j < l.length) : digT l (waysT l) j = 0 := by
  unfold digT
  obtain ⟨c, hc⟩ := dvd_suf (l := l) (a := l.length - j) (b := l.length) (by omega)
  rw [← suf_all, hc, suf_at hj, Nat.mul_comm (wayT l j), Nat.mul_assoc, Nat.mul_div_cancel_left _ (suf_pos hw (by omega)), Nat.mul_mod_right]
theorem next_lt {l : List Jb} {r k : Nat} (hw : ∀ i, i < l.length → 1 ≤ wayT l i) (hk : k < l.length) (hr : r < waysT l) (hf : r % sufK l (l.length - (k + 1)) = sufK l (l.length - (k + 1)) - 1) (hd : digT l r k + 1 < wayT l k) : r + 1 < waysT l := by
  have e0 : l.length - (k + 1) = l.length - 1 - k := by omega
  rw [e0] at hf
  obtain ⟨_, h2, _⟩ := tup_next hw hk hf hd
  by_cases e : r + 1 = waysT l
  · rw [e, dig_last hw hk] at h2; omega
  · omega
theorem dig_full {l : List Jb} {os : List Od} (h : Pre l os 0) {r k : Nat} (hk : k < l.length) : (jf l k + (digT l r k : Int) = jt l k - jl l k) ↔ ¬ digT l r k + 1 < wayT l k := by
  have h1 := h.rg k hk
  have h2 : digT l r k < wayT l k := Nat.mod_lt _ (way_pos h k hk)
  unfold wayT frT at *
  omega
end Go.Sh
namespace Go.Vc
set_option linter.unusedVariables false
set_option linter.unusedSimpArgs false
theorem seqM_app {P : Program} {T : List (Nat × TE)} {F Ms : List Nat} (hT : TOk P T) {c : Cx} {ops : Array Oper} {K : Sy → Prop} {Q : Exit → Act → World → Prop} {rest : List Nat}
    (hQ : ∀ Γ' g' a' w', K Γ' → St c Γ' g' a' w' → wpOps P ops Q rest a' w') :
    ∀ (l : List Oper) (i : Nat) (Γ : Sy) (g : Nat → Value) (a : Act) (w : World), (∃ z, ops.toList.drop i = l ++ z) → seqM P T F Ms c.n ops l i Γ K → St c Γ g a w → wpOps P ops Q (List.range' i l.length ++ rest) a w
  | [], i, Γ, g, a, w, _, h, hst => hQ Γ g a w h hst
  | o :: r, i, Γ, g, a, w, ⟨z, hl⟩, h, hst => by
    have hoi : ops[i]? = some o := by
      have : ops.toList[i]? = some o := by
        have := congrArg (fun l => l[0]?) hl
        simpa [List.getElem?_drop] using this
      simpa using this
    have hr : ops.toList.drop (i + 1) = r ++ z := by
      have := congrArg List.tail hl
      simpa [List.tail_drop] using this
    obtain ⟨Γ', h1, h2⟩ := step_sound hT hoi h
    rw [List.length_cons, List.range'_succ, List.cons_append, wpOps_cons]
    exact h1 Q g a w _ hst fun g' a' w' hs' => seqM_app hT hQ r (i + 1) Γ' g' a' w' ⟨z, hr⟩ h2 hs'
theorem W.regionS {P : Program} {n : Nat} {Q : Exit → Sy → Prop} {Γ : Sy} {T : List (Nat × TE)} (hT : TOk P T) (F Ms : List Nat) (k : Nat) (Γ2 : Sy) {id : Nat} {ops : Array Oper} (h : seqM P T F Ms n ops (ops.toList.take k) 0 Γ fun Γ1 => Leaf (Sub Γ1 Γ2 (mkRen Γ1 Γ2)))
    (h2 : seqM P T F Ms n ops (ops.toList.drop k) k Γ2 (Q .normal)) : W P n (.region id ops false) Γ Q := by
  refine ⟨fun c g a w hn hst => wp_region ?_⟩
  subst hn
  rw [List.range_eq_range']
  by_cases hk : k ≤ ops.size
  · have e : List.range' 0 ops.size = List.range' 0 (ops.toList.take k).length ++ List.range' k (ops.toList.drop k).length := by
      rw [List.length_take, List.length_drop, Array.length_toList, Nat.min_eq_left hk]
      have := List.range'_append (s := 0) (m := k) (n := ops.size - k) (step := 1)
      rw [show 0 + 1 * k = k by omega, show k + (ops.size - k) = ops.size by omega] at this
      exact this.symm
    rw [e]
    refine seqM_app (K := fun Γ1 => Leaf (Sub Γ1 Γ2 (mkRen Γ1 Γ2))) hT (fun Γ' g' a' w' h3 h4 => ?_) _ 0 Γ g a w ⟨ops.toList.drop k, by simp⟩ h hst
    have := seqM_sound (c := c) (ops := ops) (Q := fun e a' w' => ∃ Γ' g', Q e Γ' ∧ St c Γ' g' a' w') hT (fun Γ' g' a' w' h1 h2 => ⟨Γ', g', h1, h2⟩) (ops.toList.drop k) k Γ2 _ a' w' rfl h2 (Sub.st h3.1 h4)
    exact this
  · have e1 : ops.toList.take k = ops.toList := List.take_of_length_le (by simp; omega)
    have e2 : ops.toList.drop k = [] := List.drop_of_length_le (by simp; omega)
    rw [e1] at h
    rw [e2] at h2
    have := seqM_app (K := fun Γ1 => Leaf (Sub Γ1 Γ2 (mkRen Γ1 Γ2))) (rest := []) (Q := fun e a' w' => ∃ Γ' g', Q e Γ' ∧ St c Γ' g' a' w') hT (fun Γ' g' a' w' h3 h4 => ⟨Γ2, _, h2, Sub.st h3.1 h4⟩) ops.toList 0 Γ g a w ⟨[], by simp⟩ h hst
    simpa using this
end Go.Vc
namespace Go.Proofs.Ytmfholchenihaaa
open Go Go.Vc Go.Sh
set_option linter.unusedVariables false
set_option linter.unusedSimpArgs false
theorem way_le {P : Int} {l : List Jb} {os : List Od} (h : VS P l os) {i : Nat} (hi : i < l.length) : (wayT l i : Int) = jt l i - jl l i - jf l i + 1 ∧ 1 ≤ wayT l i ∧ wayT l i ≤ 25 := by
  have := h.pre.rg i hi
  unfold wayT frT
  omega
theorem min_mul {a w : Nat} (hw : 1 ≤ w) : min (4097 : Int) ((min (4097 : Int) a) * w) = min 4097 ((a * w : Nat) : Int) := by
  by_cases c : a ≤ 4097
  · rw [Int.min_eq_right (by omega : (a : Int) ≤ 4097)]; push_cast; rfl
  · rw [Int.min_eq_left (by omega : (4097 : Int) ≤ a)]
    have h1 : 4097 * 1 ≤ 4097 * w := Nat.mul_le_mul_left _ hw
    have h2 : a * 1 ≤ a * w := Nat.mul_le_mul_left _ hw
    omega
set_option maxHeartbeats 4000000 in
theorem ways_at {P : Int} {l : List Jb} {os : List Od} (h : VS P l os) : FnAt Try.prog false 17 [.agg [I64 P, .arr JT l, .arr OT os], I64 4097] (.lit (.int .i64 (min 4097 (waysT l : Int)))) [] := by
  have hll : @List.length JT.T l = l.length := rfl
  have hl6 := h.ln
  have hbd := bd_of h
  have hw : waysT l = prodK (wayT l) l.length := rfl
  rw [hw]
  refine FnAt.of_body tys_ok Try.func17 (by rfl) rfl Try.ntmps17 (by rw [Try.results17]) (by simp) ?_
  
  repeat' (first
 | refine W.seq ?_
 | refine W.block ?_
 | (refine W.region tys_ok [] ?_; conv => whnf)
 | (refine W.drawAll tys_ok [] mixed rfl ?_; conv => whnf)
 | (refine W.ret ?_; conv => whnf)
 | (refine W.skip ?_; conv => whnf)
 | (refine W.exit ?_; conv => whnf)
 | (refine W.cond rfl (fun hb => ?_) (fun hb => ?_) <;> (try simp only [Int.reduceToNat, Int.reduceTDiv, Int.reduceTMod, minL, maxL, pickB, zHB, zSH] at hb) <;> (try (first | (cases hb; done) | exact absurd hb (by decide) | (exfalso; omega))))
 | ((with_reducible refine And.intro ?_ ?_); (focus (first | (with_reducible rfl) | omega | rfl | ((try simp only [Int.reduceToNat, Int.reduceTDiv, Int.reduceTMod, minL, maxL, pickB, zHB, zSH, InK, Path.imp, zL] at *); omega))); (conv => whnf))
 | ((with_reducible refine And.intro (Side.out ?_) ?_); rotate_left; (conv => whnf))
 | ((first | refine retF1 ?_ | refine retF2 ?_) <;> (conv => whnf) <;> repeat' (first
 | exact trivial
 | (with_reducible rfl)
 | ((with_reducible refine And.intro ?_ ?_) <;> conv => whnf)
 | omega
 | rfl
 | (refine congrArg (SV.arr _) ?_)
 | (refine congrArg (Value.int _) ?_)
 | (refine congrArg Value.bool ?_)))); all_goals (try unfold Side)
  all_goals try (repeat' (first | (with_reducible rfl) | (with_reducible refine And.intro ?_ ?_) | omega | rfl | exact Or.inl rfl | exact Or.inr rfl | exact of_decide_eq_true rfl | exact Path.imp_of (of_decide_eq_true rfl) | (focus ((try simp only [Int.reduceToNat, Int.reduceTDiv, Int.reduceTMod, minL, maxL, pickB, zHB, zSH, InK, Path.imp, zL] at *); omega)) | (refine app_le rfl ?_; omega)))
  refine W.loop (fun i : Nat => ⟨[(1, .lit (.int .i64 (4097))), (2, .st false (.sadr (.agg [I64 P, .arr JT l, .arr OT os]))), (5, .lit (.int .i64 ((min 4097 (prodK (wayT l) i : Int))))), (6, .lit (.int .i64 (i)))], []⟩) (fun i => i ≤ l.length) (fun i => l.length - i) (0) ?_ ?_
  · refine ⟨Nat.zero_le _, ?_⟩
    refine subF.ok ?_ <;> (conv => whnf) <;> repeat' (first
 | exact trivial
 | (with_reducible rfl)
 | ((with_reducible refine And.intro ?_ ?_) <;> conv => whnf)
 | omega
 | rfl
 | (refine congrArg (SV.arr _) ?_)
 | (refine congrArg (Value.int _) ?_)
 | (refine congrArg Value.bool ?_))
    all_goals rfl
  · intro i hi
    by_cases hil : i < l.length
    · obtain ⟨w1, w2, w3⟩ := way_le h hil
      have q1 := hbd.rg i hil
      have q2 := h.pre.rg i hil
      have q3 := min_mul (a := prodK (wayT l) i) w2
      have q4 : prodK (wayT l) i * wayT l i = prodK (wayT l) (i + 1) := rfl
      rw [q4] at q3
      obtain ⟨M, hM⟩ : ∃ M : Int, M = min 4097 (prodK (wayT l) i : Int) := ⟨_, rfl⟩
      have hM1 : 0 ≤ M ∧ M ≤ 4097 := by omega
      rw [← hM] at q3 ⊢
      have q5 : 0 ≤ M * (wayT l i : Int) ∧ M * (wayT l i : Int) ≤ 4097 * 25 := ⟨Int.mul_nonneg (by omega) (by omega), Int.mul_le_mul (by omega) (by omega) (by omega) (by omega)⟩
      rw [w1] at q3 q5
      unfold jf jt jl at q3 q5 q2
      unfold jf jt jl jp at q1
      repeat' (first
 | refine W.seq ?_
 | refine W.block ?_
 | (refine W.drawPh (id := 5) tys_ok [] mixed [0, 0, 0, 4, 0, 24, 32, 64, 0, 256, 0, 1536, 2048, 4096, 8320, 0, 32768, 0, 196608, 262144, 524288, 1064960, 2097152, 4194306, 8388609, 33554431] [([0, 1, 2, 3, 4, 5, 6, 7, 8, 9, 10, 11, 12, 13, 14, 15, 16, 17, 18, 19, 20, 21, 22, 23, 24, 25], 0, 67108863)] (by decide +kernel) ?_; conv => whnf)
 | (refine W.region tys_ok [] ?_; conv => whnf)
 | (refine W.drawAll tys_ok [] mixed rfl ?_; conv => whnf)
 | (refine W.ret ?_; conv => whnf)
 | (refine W.skip ?_; conv => whnf)
 | (refine W.exit ?_; conv => whnf)
 | (refine Both.mk ?_ ?_ <;> (conv => whnf))
 | (refine W.cond rfl (fun hb => ?_) (fun hb => ?_) <;> (try simp only [Int.reduceToNat, Int.reduceTDiv, Int.reduceTMod, minL, maxL, pickB, zHB, zSH] at hb) <;> (try (first | (cases hb; done) | exact absurd hb (by decide) | (exfalso; omega) | (omega))))
 | ((with_reducible refine And.intro ?_ ?_); (focus (first | (with_reducible rfl) | omega | rfl | ((try simp only [Int.reduceToNat, Int.reduceTDiv, Int.reduceTMod, minL, maxL, pickB, zHB, zSH, InK, Path.imp, zL] at *); omega))); (conv => whnf))
 | ((with_reducible refine And.intro (Side.out ?_) ?_); rotate_left; (conv => whnf))
 | ((first | refine retF1 ?_ | refine retF2 ?_ | refine subF.leaf ?_ | refine subF.side ?_) <;> (conv => whnf) <;> repeat' (first
 | exact trivial
 | (with_reducible rfl)
 | ((with_reducible refine And.intro ?_ ?_) <;> conv => whnf)
 | omega
 | rfl
 | (refine congrArg (SV.arr _) ?_)
 | (refine congrArg (Value.int _) ?_)
 | (refine congrArg Value.bool ?_)))); all_goals (try unfold Side)
      all_goals try (repeat' (first | (with_reducible rfl) | (with_reducible refine And.intro ?_ ?_) | omega | rfl | exact Or.inl rfl | exact Or.inr rfl | exact of_decide_eq_true rfl | exact Path.imp_of (of_decide_eq_true rfl) | (focus ((try simp only [Int.reduceToNat, Int.reduceTDiv, Int.reduceTMod, minL, maxL, pickB, zHB, zSH, InK, Path.imp, zL] at *); omega)) | (refine app_le rfl ?_; omega)))
      refine ⟨i + 1, ⟨by omega, by omega⟩, ?_⟩
      refine subF.ok ?_ <;> (conv => whnf) <;> repeat' (first
 | exact trivial
 | (with_reducible rfl)
 | ((with_reducible refine And.intro ?_ ?_) <;> conv => whnf)
 | omega
 | rfl
 | (refine congrArg (SV.arr _) ?_)
 | (refine congrArg (Value.int _) ?_)
 | (refine congrArg Value.bool ?_))
      all_goals exact q3
    · have hie : l.length = i := by omega
      subst hie
      repeat' (first
 | refine W.seq ?_
 | refine W.block ?_
 | (refine W.region tys_ok [] ?_; conv => whnf)
 | (refine W.drawAll tys_ok [] mixed rfl ?_; conv => whnf)
 | (refine W.ret ?_; conv => whnf)
 | (refine W.skip ?_; conv => whnf)
 | (refine W.exit ?_; conv => whnf)
 | (refine W.cond rfl (fun hb => ?_) (fun hb => ?_) <;> (try simp only [Int.reduceToNat, Int.reduceTDiv, Int.reduceTMod, minL, maxL, pickB, zHB, zSH] at hb) <;> (try (first | (cases hb; done) | exact absurd hb (by decide) | (exfalso; omega))))
 | ((with_reducible refine And.intro ?_ ?_); (focus (first | (with_reducible rfl) | omega | rfl | ((try simp only [Int.reduceToNat, Int.reduceTDiv, Int.reduceTMod, minL, maxL, pickB, zHB, zSH, InK, Path.imp, zL] at *); omega))); (conv => whnf))
 | ((with_reducible refine And.intro (Side.out ?_) ?_); rotate_left; (conv => whnf))
 | ((first | refine retF1 ?_ | refine retF2 ?_) <;> (conv => whnf) <;> repeat' (first
 | exact trivial
 | (with_reducible rfl)
 | ((with_reducible refine And.intro ?_ ?_) <;> conv => whnf)
 | omega
 | rfl
 | (refine congrArg (SV.arr _) ?_)
 | (refine congrArg (Value.int _) ?_)
 | (refine congrArg Value.bool ?_)))); all_goals (try unfold Side)
      all_goals try (repeat' (first | (with_reducible rfl) | (with_reducible refine And.intro ?_ ?_) | omega | rfl | exact Or.inl rfl | exact Or.inr rfl | exact of_decide_eq_true rfl | exact Path.imp_of (of_decide_eq_true rfl) | (focus ((try simp only [Int.reduceToNat, Int.reduceTDiv, Int.reduceTMod, minL, maxL, pickB, zHB, zSH, InK, Path.imp, zL] at *); omega)) | (refine app_le rfl ?_; omega)))
theorem take_map {l : List Jb} {i : Nat} (h : i < l.length) : (l.map (·.1)).take i ++ [(l.getD i J0).1] = (l.map (·.1)).take (i + 1) :=
  take_step (d := 0) (by rw [List.length_map]; exact h) map_get
set_option maxHeartbeats 16000000 in
theorem allR_at {P : Int} {l : List Jb} {os : List Od} (h : VS P l os) (hW : waysT l ≤ 100000) : FnAt Try.prog false 21 [.agg [I64 P, .arr JT l, .arr OT os]] (.own 0) [(0, .row 30 (.sl (.int .i64)) true (allL P l os (waysT l)))] := by
  have hll : @List.length JT.T l = l.length := rfl
  have hl6 := h.ln
  have hbd := bd_of h
  have hpr := h.pre
  have hwp := way_pos h.pre
  have hW1 := ways_pos h.pre
  obtain ⟨T, hT⟩ : ∃ T : Nat → List Int, T = fun i => (l.map (·.1)).take i := ⟨_, rfl⟩
  have hTs : ∀ i, i < l.length → T i ++ [(l.getD i J0).1] = T (i + 1) := fun i hi => by rw [hT]; exact take_map hi
  have hTl : ∀ i, (T i).length ≤ i := fun i => by rw [hT]; show ((l.map (·.1)).take i).length ≤ i; rw [List.length_take]; omega
  have hT0 : T 0 = [] := by rw [hT]; rfl
  have hTn : T l.length = tupT l 0 := by rw [hT, tup_zero h.pre]; show (l.map (·.1)).take l.length = _; rw [List.take_of_length_le (by simp)]
  clear hT
  have hal : ∀ r, @List.length (Ty.sl (.int .i64)).T (allL P l os r) ≤ r := fun r => allL_len
  have hrl : ∀ r k, @List.length (Ty.int .i64).T (rstT l r k) = l.length := fun r k => rst_len
  have hul : ∀ r, @List.length (Ty.int .i64).T (tupT l r) = l.length := fun r => tup_len
  refine FnAt.of_body tys_ok Try.func21 (by rfl) rfl Try.ntmps21 (by rw [Try.results21]) (by simp) ?_
  
  repeat' (first
 | refine W.seq ?_
 | refine W.block ?_
 | (refine W.region tys_ok [] ?_; conv => whnf)
 | (refine W.drawAll tys_ok [] mixed rfl ?_; conv => whnf)
 | (refine W.ret ?_; conv => whnf)
 | (refine W.skip ?_; conv => whnf)
 | (refine W.exit ?_; conv => whnf)
 | (refine W.cond rfl (fun hb => ?_) (fun hb => ?_) <;> (try simp only [Int.reduceToNat, Int.reduceTDiv, Int.reduceTMod, minL, maxL, pickB, zHB, zSH] at hb) <;> (try (first | (cases hb; done) | exact absurd hb (by decide) | (exfalso; omega))))
 | ((with_reducible refine And.intro ?_ ?_); (focus (first | (with_reducible rfl) | omega | rfl | ((try simp only [Int.reduceToNat, Int.reduceTDiv, Int.reduceTMod, minL, maxL, pickB, zHB, zSH, InK, Path.imp, zL] at *); omega))); (conv => whnf))
 | ((with_reducible refine And.intro (Side.out ?_) ?_); rotate_left; (conv => whnf))
 | ((first | refine retF1 ?_ | refine retF2 ?_) <;> (conv => whnf) <;> repeat' (first
 | exact trivial
 | (with_reducible rfl)
 | ((with_reducible refine And.intro ?_ ?_) <;> conv => whnf)
 | omega
 | rfl
 | (refine congrArg (SV.arr _) ?_)
 | (refine congrArg (Value.int _) ?_)
 | (refine congrArg Value.bool ?_)))); all_goals (try unfold Side)
  all_goals try (repeat' (first | (with_reducible rfl) | (with_reducible refine And.intro ?_ ?_) | omega | rfl | exact Or.inl rfl | exact Or.inr rfl | exact of_decide_eq_true rfl | exact Path.imp_of (of_decide_eq_true rfl) | (focus ((try simp only [Int.reduceToNat, Int.reduceTDiv, Int.reduceTMod, minL, maxL, pickB, zHB, zSH, InK, Path.imp, zL] at *); omega)) | (refine app_le rfl ?_; omega)))
  refine W.loop (fun i : Nat => ⟨[(1, .st false (.sadr (.agg [I64 P, .arr JT l, .arr OT os]))), (3, .own 8000), (4, .own 9000), (5, .lit (.int .i64 (i)))], [(8000, .row 30 (.sl (.int .i64)) true ([] : List (List Int))), (9000, .row 3 (.int .i64) true ((T i) : List Int))]⟩) (fun i => i ≤ l.length) (fun i => l.length - i) (0) ?_ ?_
  · refine ⟨Nat.zero_le _, ?_⟩
    refine subF.ok ?_ <;> (conv => whnf) <;> repeat' (first
 | exact trivial
 | (with_reducible rfl)
 | ((with_reducible refine And.intro ?_ ?_) <;> conv => whnf)
 | omega
 | rfl
 | (refine congrArg (SV.arr _) ?_)
 | (refine congrArg (Value.int _) ?_)
 | (refine congrArg Value.bool ?_))
    all_goals first | exact hT0 | exact hT0.symm | rfl
  · intro i hi
    have q0 := hTl i
    by_cases hil : i < l.length
    · have q1 := hTs i hil
      repeat' (first
 | refine W.seq ?_
 | refine W.block ?_
 | (refine W.region tys_ok [] ?_; conv => whnf)
 | (refine W.drawAll tys_ok [] mixed rfl ?_; conv => whnf)
 | (refine W.ret ?_; conv => whnf)
 | (refine W.skip ?_; conv => whnf)
 | (refine W.exit ?_; conv => whnf)
 | (refine W.cond rfl (fun hb => ?_) (fun hb => ?_) <;> (try simp only [Int.reduceToNat, Int.reduceTDiv, Int.reduceTMod, minL, maxL, pickB, zHB, zSH] at hb) <;> (try (first | (cases hb; done) | exact absurd hb (by decide) | (exfalso; omega))))
 | ((with_reducible refine And.intro ?_ ?_); (focus (first | (with_reducible rfl) | omega | rfl | ((try simp only [Int.reduceToNat, Int.reduceTDiv, Int.reduceTMod, minL, maxL, pickB, zHB, zSH, InK, Path.imp, zL] at *); omega))); (conv => whnf))
 | ((with_reducible refine And.intro (Side.out ?_) ?_); rotate_left; (conv => whnf))
 | ((first | refine retF1 ?_ | refine retF2 ?_) <;> (conv => whnf) <;> repeat' (first
 | exact trivial
 | (with_reducible rfl)
 | ((with_reducible refine And.intro ?_ ?_) <;> conv => whnf)
 | omega
 | rfl
 | (refine congrArg (SV.arr _) ?_)
 | (refine congrArg (Value.int _) ?_)
 | (refine congrArg Value.bool ?_)))); all_goals (try unfold Side)
      all_goals try (repeat' (first | (with_reducible rfl) | (with_reducible refine And.intro ?_ ?_) | omega | rfl | exact Or.inl rfl | exact Or.inr rfl | exact of_decide_eq_true rfl | exact Path.imp_of (of_decide_eq_true rfl) | (focus ((try simp only [Int.reduceToNat, Int.reduceTDiv, Int.reduceTMod, minL, maxL, pickB, zHB, zSH, InK, Path.imp, zL] at *); omega)) | (refine app_le rfl ?_; omega)))
      refine ⟨i + 1, ⟨by omega, by omega⟩, ?_⟩
      refine subF.ok ?_ <;> (conv => whnf) <;> repeat' (first
 | exact trivial
 | (with_reducible rfl)
 | ((with_reducible refine And.intro ?_ ?_) <;> conv => whnf)
 | omega
 | rfl
 | (refine congrArg (SV.arr _) ?_)
 | (refine congrArg (Value.int _) ?_)
 | (refine congrArg Value.bool ?_))
      all_goals exact q1
    · have hie : l.length = i := by omega
      subst hie
      rw [hTn]
      repeat' (first
 | refine W.seq ?_
 | refine W.block ?_
 | (refine W.region tys_ok [] ?_; conv => whnf)
 | (refine W.drawAll tys_ok [] mixed rfl ?_; conv => whnf)
 | (refine W.ret ?_; conv => whnf)
 | (refine W.skip ?_; conv => whnf)
 | (refine W.exit ?_; conv => whnf)
 | (refine W.cond rfl (fun hb => ?_) (fun hb => ?_) <;> (try simp only [Int.reduceToNat, Int.reduceTDiv, Int.reduceTMod, minL, maxL, pickB, zHB, zSH] at hb) <;> (try (first | (cases hb; done) | exact absurd hb (by decide) | (exfalso; omega))))
 | ((with_reducible refine And.intro ?_ ?_); (focus (first | (with_reducible rfl) | omega | rfl | ((try simp only [Int.reduceToNat, Int.reduceTDiv, Int.reduceTMod, minL, maxL, pickB, zHB, zSH, InK, Path.imp, zL] at *); omega))); (conv => whnf))
 | ((with_reducible refine And.intro (Side.out ?_) ?_); rotate_left; (conv => whnf))
 | ((first | refine retF1 ?_ | refine retF2 ?_) <;> (conv => whnf) <;> repeat' (first
 | exact trivial
 | (with_reducible rfl)
 | ((with_reducible refine And.intro ?_ ?_) <;> conv => whnf)
 | omega
 | rfl
 | (refine congrArg (SV.arr _) ?_)
 | (refine congrArg (Value.int _) ?_)
 | (refine congrArg Value.bool ?_)))); all_goals (try unfold Side)
      all_goals try (repeat' (first | (with_reducible rfl) | (with_reducible refine And.intro ?_ ?_) | omega | rfl | exact Or.inl rfl | exact Or.inr rfl | exact of_decide_eq_true rfl | exact Path.imp_of (of_decide_eq_true rfl) | (focus ((try simp only [Int.reduceToNat, Int.reduceTDiv, Int.reduceTMod, minL, maxL, pickB, zHB, zSH, InK, Path.imp, zL] at *); omega)) | (refine app_le rfl ?_; omega)))
      refine W.loop (fun r : Nat => ⟨[(1, .st false (.sadr (.agg [I64 P, .arr JT l, .arr OT os]))), (3, .own 8000), (4, .own 9000)], [(8000, .row 30 (.sl (.int .i64)) true (allL P l os r)), (9000, .row 3 (.int .i64) true ((tupT l r) : List Int))]⟩) (fun r => r < waysT l) (fun r => waysT l - r) (0) ?_ ?_
      · refine ⟨by omega, ?_⟩
        refine subF.ok ?_ <;> (conv => whnf) <;> repeat' (first
 | exact trivial
 | (with_reducible rfl)
 | ((with_reducible refine And.intro ?_ ?_) <;> conv => whnf)
 | omega
 | rfl
 | (refine congrArg (SV.arr _) ?_)
 | (refine congrArg (Value.int _) ?_)
 | (refine congrArg Value.bool ?_))
        all_goals rfl
      · intro r hr
        have hf := fitsR_at (P := P) (vj_of h) (s := tupT l r) tup_len
        have q2 := hal r
        have q3 := hul r
        have hrst : tupT l r = rstT l r l.length := rst_all.symm
        cases hb : fitB P l os (tupT l r) with
        | true =>
          rw [hb] at hf
          have q4 := allL_yes hb
          repeat' (first
 | refine W.seq ?_
 | refine W.block ?_
 | (refine W.regionS (id := 7) tys_ok [] [] 4 ⟨[(1, .st false (.sadr (.agg [I64 P, .arr JT l, .arr OT os]))), (3, .own 8000), (4, .own 9000), (28, .own 8000), (31, .st true (.arr (.int .i64) (tupT l r : List Int)))], [(8000, .row 30 (.sl (.int .i64)) true (allL P l os r)), (9000, .row 3 (.int .i64) true ((tupT l r) : List Int))]⟩ ?_ ?_; (conv => whnf); rotate_left; (conv => whnf))
 | (refine W.region tys_ok [] ?_; conv => whnf)
 | (refine W.drawAll tys_ok [] mixed rfl ?_; conv => whnf)
 | (refine W.ret ?_; conv => whnf)
 | (refine W.skip ?_; conv => whnf)
 | (refine W.exit ?_; conv => whnf)
 | (refine call_at (al := false) (hf) rfl rfl rfl rfl ?_; conv => whnf)
 | (refine Both.mk ?_ ?_ <;> (conv => whnf))
 | (refine W.cond rfl (fun hb => ?_) (fun hb => ?_) <;> (try simp only [Int.reduceToNat, Int.reduceTDiv, Int.reduceTMod, minL, maxL, pickB, zHB, zSH] at hb) <;> (try (first | (cases hb; done) | exact absurd hb (by decide) | (exfalso; omega) | (omega))))
 | (refine Or.inl (And.intro ?_ ?_); (focus (first | exact trivial | exact ⟨rfl, trivial⟩ | (refine ⟨?_, trivial⟩; dsimp only; simp only [Int.reduceToNat, Int.reduceTDiv, Int.reduceTMod, minL, maxL, pickB, zHB, zSH]; omega))); (conv => whnf))
 | (refine Or.inr (And.intro ?_ ?_); (focus (intro h; have h := h.1; dsimp only at h; first | (exact Bool.noConfusion h) | (simp only [Int.reduceToNat, Int.reduceTDiv, Int.reduceTMod, minL, maxL, pickB, zHB, zSH] at h; omega))); (conv => whnf))
 | ((with_reducible refine And.intro ?_ ?_); (focus (first | (with_reducible rfl) | omega | rfl | ((try simp only [Int.reduceToNat, Int.reduceTDiv, Int.reduceTMod, minL, maxL, pickB, zHB, zSH, InK, Path.imp, zL] at *); omega))); (conv => whnf))
 | ((with_reducible refine And.intro (Side.out ?_) ?_); rotate_left; (conv => whnf))
 | ((first | refine retF1 ?_ | refine retF2 ?_ | refine subF.leaf ?_ | refine subF.side ?_) <;> (conv => whnf) <;> repeat' (first
 | exact trivial
 | (with_reducible rfl)
 | ((with_reducible refine And.intro ?_ ?_) <;> conv => whnf)
 | omega
 | rfl
 | (refine congrArg (SV.arr _) ?_)
 | (refine congrArg (Value.int _) ?_)
 | (refine congrArg Value.bool ?_)))); all_goals (try unfold Side)
          all_goals try (repeat' (first | (with_reducible rfl) | (with_reducible refine And.intro ?_ ?_) | omega | rfl | exact Or.inl rfl | exact Or.inr rfl | exact of_decide_eq_true rfl | exact Path.imp_of (of_decide_eq_true rfl) | (focus ((try simp only [Int.reduceToNat, Int.reduceTDiv, Int.reduceTMod, minL, maxL, pickB, zHB, zSH, InK, Path.imp, zL] at *); omega)) | (refine app_le rfl ?_; omega)))
          refine W.loop (fun k : Nat => ⟨[(1, .st false (.sadr (.agg [I64 P, .arr JT l, .arr OT os]))), (3, .own 8000), (4, .own 9000), (6, .lit (.int .i64 ((k : Int) - 1)))], [(8000, .row 30 (.sl (.int .i64)) true (allL P l os (r + 1))), (9000, .row 3 (.int .i64) true ((rstT l r k) : List Int))]⟩) (fun k => k ≤ l.length ∧ r % sufK l (l.length - k) = sufK l (l.length - k) - 1) (fun k => k) (l.length) ?_ ?_
          · refine ⟨⟨Nat.le_refl _, by rw [Nat.sub_self, sufK, Nat.mod_one]⟩, ?_⟩
            refine subF.ok ?_ <;> (conv => whnf) <;> repeat' (first
 | exact trivial
 | (with_reducible rfl)
 | ((with_reducible refine And.intro ?_ ?_) <;> conv => whnf)
 | omega
 | rfl
 | (refine congrArg (SV.arr _) ?_)
 | (refine congrArg (Value.int _) ?_)
 | (refine congrArg Value.bool ?_))
            all_goals first | exact q4 | exact q4.symm | exact hrst | exact hrst.symm
          · rintro k ⟨hk, hfull⟩
            have q5 := hrl r k
            by_cases hk0 : k = 0
            · subst hk0
              have hWr := full_last hr hfull
              rw [hWr]
              repeat' (first
 | refine W.seq ?_
 | refine W.block ?_
 | (refine W.drawPh (id := 9) tys_ok [] mixed [0, 1, 2, 4, 4, 28, 36, 4, 132, 4, 772, 1028, 2052, 4, 8196, 4, 49156, 65540, 131076, 266244, 524356, 1048580] [([0, 1, 2, 4, 7, 8, 9, 10, 11, 12, 13, 14, 15, 16, 17, 18, 19], 1, 1048479), ([], 1, 1048511), ([], 1, 1048575), ([20, 21], 0, 4194303)] (by decide +kernel) ?_; conv => whnf)
 | (refine W.region tys_ok [] ?_; conv => whnf)
 | (refine W.drawAll tys_ok [] mixed rfl ?_; conv => whnf)
 | (refine W.ret ?_; conv => whnf)
 | (refine W.skip ?_; conv => whnf)
 | (refine W.exit ?_; conv => whnf)
 | (refine Both.mk ?_ ?_ <;> (conv => whnf))
 | (refine W.cond rfl (fun hb => ?_) (fun hb => ?_) <;> (try simp only [Int.reduceToNat, Int.reduceTDiv, Int.reduceTMod, minL, maxL, pickB, zHB, zSH] at hb) <;> (try (first | (cases hb; done) | exact absurd hb (by decide) | (exfalso; omega) | (omega))))
 | ((with_reducible refine And.intro ?_ ?_); (focus (first | (with_reducible rfl) | omega | rfl | ((try simp only [Int.reduceToNat, Int.reduceTDiv, Int.reduceTMod, minL, maxL, pickB, zHB, zSH, InK, Path.imp, zL] at *); omega))); (conv => whnf))
 | ((with_reducible refine And.intro (Side.out ?_) ?_); rotate_left; (conv => whnf))
 | ((first | refine retF1 ?_ | refine retF2 ?_ | refine subF.leaf ?_ | refine subF.side ?_) <;> (conv => whnf) <;> repeat' (first
 | exact trivial
 | (with_reducible rfl)
 | ((with_reducible refine And.intro ?_ ?_) <;> conv => whnf)
 | omega
 | rfl
 | (refine congrArg (SV.arr _) ?_)
 | (refine congrArg (Value.int _) ?_)
 | (refine congrArg Value.bool ?_)))); all_goals (try unfold Side)
              all_goals try (repeat' (first | (with_reducible rfl) | (with_reducible refine And.intro ?_ ?_) | omega | rfl | exact Or.inl rfl | exact Or.inr rfl | exact of_decide_eq_true rfl | exact Path.imp_of (of_decide_eq_true rfl) | (focus ((try simp only [Int.reduceToNat, Int.reduceTDiv, Int.reduceTMod, minL, maxL, pickB, zHB, zSH, InK, Path.imp, zL] at *); omega)) | (refine app_le rfl ?_; omega)))
            · obtain ⟨j, rfl⟩ : ∃ j, k = j + 1 := ⟨k - 1, by omega⟩
              have hjl : j < l.length := by omega
              have ek : (((j + 1 : Nat) : Int) - 1) = (j : Int) := by omega
              have hg : (rstT l r (j + 1)).getD j 0 = jf l j + (digT l r j : Int) := by rw [rst_get hjl, if_pos (by omega)]
              have hdf := dig_full hpr (r := r) hjl
              rw [← hg] at hdf
              have q6 := hbd.rg j hjl
              have q7 := hpr.rg j hjl
              have q8 : digT l r j < wayT l j := Nat.mod_lt _ (hwp j hjl)
              have q9 := (way_le h hjl)
              rw [ek]
              by_cases hd : digT l r j + 1 < wayT l j
              · have n1 := rst_up hwp hjl hfull hd
                have n2 := next_lt hwp hjl hr hfull hd
                have ik : InK .i64 ((rstT l r (j + 1)).getD j 0 + 1) := by rw [hg]; simp only [InK]; omega
                have hne := mt hdf.1 (fun c => c hd)
                unfold jf jt jl jp at q6
                unfold jt jl at hne
                unfold jf jt jl at q7
                repeat' (first
 | refine W.seq ?_
 | refine W.block ?_
 | (refine W.drawPh (id := 9) tys_ok [] mixed [0, 1, 2, 4, 4, 28, 36, 4, 132, 4, 772, 1028, 2052, 4, 8196, 4, 49156, 65540, 131076, 266244, 524356, 1048580] [([0, 1, 2, 4, 7, 8, 9, 10, 11, 12, 13, 14, 15, 16, 17, 18, 19], 1, 1048479), ([], 1, 1048511), ([], 1, 1048575), ([20, 21], 0, 4194303)] (by decide +kernel) ?_; conv => whnf)
 | (refine W.region tys_ok [] ?_; conv => whnf)
 | (refine W.drawAll tys_ok [] mixed rfl ?_; conv => whnf)
 | (refine W.ret ?_; conv => whnf)
 | (refine W.skip ?_; conv => whnf)
 | (refine W.exit ?_; conv => whnf)
 | (refine Both.mk ?_ ?_ <;> (conv => whnf))
 | (refine W.cond rfl (fun hb => ?_) (fun hb => ?_) <;> (try simp only [Int.reduceToNat, Int.reduceTDiv, Int.reduceTMod, minL, maxL, pickB, zHB, zSH] at hb) <;> (try (first | (cases hb; done) | exact absurd hb (by decide) | (exfalso; omega) | (omega))))
 | ((with_reducible refine And.intro ?_ ?_); (focus (first | (with_reducible rfl) | omega | rfl | ((try simp only [Int.reduceToNat, Int.reduceTDiv, Int.reduceTMod, minL, maxL, pickB, zHB, zSH, InK, Path.imp, zL] at *); omega))); (conv => whnf))
 | ((with_reducible refine And.intro (Side.out ?_) ?_); rotate_left; (conv => whnf))
 | ((first | refine retF1 ?_ | refine retF2 ?_ | refine subF.leaf ?_ | refine subF.side ?_) <;> (conv => whnf) <;> repeat' (first
 | exact trivial
 | (with_reducible rfl)
 | ((with_reducible refine And.intro ?_ ?_) <;> conv => whnf)
 | omega
 | rfl
 | (refine congrArg (SV.arr _) ?_)
 | (refine congrArg (Value.int _) ?_)
 | (refine congrArg Value.bool ?_)))); all_goals (try unfold Side)
                all_goals try (repeat' (first | (with_reducible rfl) | (with_reducible refine And.intro ?_ ?_) | omega | rfl | exact Or.inl rfl | exact Or.inr rfl | exact of_decide_eq_true rfl | exact Path.imp_of (of_decide_eq_true rfl) | (focus ((try simp only [Int.reduceToNat, Int.reduceTDiv, Int.reduceTMod, minL, maxL, pickB, zHB, zSH, InK, Path.imp, zL] at *); omega)) | (refine app_le rfl ?_; omega)))
                all_goals try exact Path.imp_of ik
                refine ⟨r + 1, ⟨n2, by omega⟩, ?_⟩
                refine subF.ok ?_ <;> (conv => whnf) <;> repeat' (first
 | exact trivial
 | (with_reducible rfl)
 | ((with_reducible refine And.intro ?_ ?_) <;> conv => whnf)
 | omega
 | rfl
 | (refine congrArg (SV.arr _) ?_)
 | (refine congrArg (Value.int _) ?_)
 | (refine congrArg Value.bool ?_))
                all_goals exact n1
              · have n1 := rst_down (r := r) hjl
                have n2 := full_down hwp hjl hfull hd
                have heq := hdf.2 hd
                unfold jf at n1
                unfold jf jt jl jp at q6
                unfold jt jl at heq
                unfold jf jt jl at q7
                repeat' (first
 | refine W.seq ?_
 | refine W.block ?_
 | (refine W.drawPh (id := 9) tys_ok [] mixed [0, 1, 2, 4, 4, 28, 36, 4, 132, 4, 772, 1028, 2052, 4, 8196, 4, 49156, 65540, 131076, 266244, 524356, 1048580] [([0, 1, 2, 4, 7, 8, 9, 10, 11, 12, 13, 14, 15, 16, 17, 18, 19], 1, 1048479), ([], 1, 1048511), ([], 1, 1048575), ([20, 21], 0, 4194303)] (by decide +kernel) ?_; conv => whnf)
 | (refine W.region tys_ok [] ?_; conv => whnf)
 | (refine W.drawAll tys_ok [] mixed rfl ?_; conv => whnf)
 | (refine W.ret ?_; conv => whnf)
 | (refine W.skip ?_; conv => whnf)
 | (refine W.exit ?_; conv => whnf)
 | (refine Both.mk ?_ ?_ <;> (conv => whnf))
 | (refine W.cond rfl (fun hb => ?_) (fun hb => ?_) <;> (try simp only [Int.reduceToNat, Int.reduceTDiv, Int.reduceTMod, minL, maxL, pickB, zHB, zSH] at hb) <;> (try (first | (cases hb; done) | exact absurd hb (by decide) | (exfalso; omega) | (omega))))
 | ((with_reducible refine And.intro ?_ ?_); (focus (first | (with_reducible rfl) | omega | rfl | ((try simp only [Int.reduceToNat, Int.reduceTDiv, Int.reduceTMod, minL, maxL, pickB, zHB, zSH, InK, Path.imp, zL] at *); omega))); (conv => whnf))
 | ((with_reducible refine And.intro (Side.out ?_) ?_); rotate_left; (conv => whnf))
 | ((first | refine retF1 ?_ | refine retF2 ?_ | refine subF.leaf ?_ | refine subF.side ?_) <;> (conv => whnf) <;> repeat' (first
 | exact trivial
 | (with_reducible rfl)
 | ((with_reducible refine And.intro ?_ ?_) <;> conv => whnf)
 | omega
 | rfl
 | (refine congrArg (SV.arr _) ?_)
 | (refine congrArg (Value.int _) ?_)
 | (refine congrArg Value.bool ?_)))); all_goals (try unfold Side)
                all_goals try (repeat' (first | (with_reducible rfl) | (with_reducible refine And.intro ?_ ?_) | omega | rfl | exact Or.inl rfl | exact Or.inr rfl | exact of_decide_eq_true rfl | exact Path.imp_of (of_decide_eq_true rfl) | (focus ((try simp only [Int.reduceToNat, Int.reduceTDiv, Int.reduceTMod, minL, maxL, pickB, zHB, zSH, InK, Path.imp, zL] at *); omega)) | (refine app_le rfl ?_; omega)))
                refine ⟨j, ⟨⟨by omega, n2⟩, by omega⟩, ?_⟩
                refine subF.ok ?_ <;> (conv => whnf) <;> repeat' (first
 | exact trivial
 | (with_reducible rfl)
 | ((with_reducible refine And.intro ?_ ?_) <;> conv => whnf)
 | omega
 | rfl
 | (refine congrArg (SV.arr _) ?_)
 | (refine congrArg (Value.int _) ?_)
 | (refine congrArg Value.bool ?_))
                all_goals exact n1
        | false =>
          rw [hb] at hf
          have q4 := allL_no hb
          repeat' (first
 | refine W.seq ?_
 | refine W.block ?_
 | (refine W.regionS (id := 7) tys_ok [] [] 4 ⟨[(1, .st false (.sadr (.agg [I64 P, .arr JT l, .arr OT os]))), (3, .own 8000), (4, .own 9000), (28, .own 8000), (31, .st true (.arr (.int .i64) (tupT l r : List Int)))], [(8000, .row 30 (.sl (.int .i64)) true (allL P l os r)), (9000, .row 3 (.int .i64) true ((tupT l r) : List Int))]⟩ ?_ ?_; (conv => whnf); rotate_left; (conv => whnf))
 | (refine W.region tys_ok [] ?_; conv => whnf)
 | (refine W.drawAll tys_ok [] mixed rfl ?_; conv => whnf)
 | (refine W.ret ?_; conv => whnf)
 | (refine W.skip ?_; conv => whnf)
 | (refine W.exit ?_; conv => whnf)
 | (refine call_at (al := false) (hf) rfl rfl rfl rfl ?_; conv => whnf)
 | (refine Both.mk ?_ ?_ <;> (conv => whnf))
 | (refine W.cond rfl (fun hb => ?_) (fun hb => ?_) <;> (try simp only [Int.reduceToNat, Int.reduceTDiv, Int.reduceTMod, minL, maxL, pickB, zHB, zSH] at hb) <;> (try (first | (cases hb; done) | exact absurd hb (by decide) | (exfalso; omega) | (omega))))
 | (refine Or.inl (And.intro ?_ ?_); (focus (first | exact trivial | exact ⟨rfl, trivial⟩ | (refine ⟨?_, trivial⟩; dsimp only; simp only [Int.reduceToNat, Int.reduceTDiv, Int.reduceTMod, minL, maxL, pickB, zHB, zSH]; omega))); (conv => whnf))
 | (refine Or.inr (And.intro ?_ ?_); (focus (intro h; have h := h.1; dsimp only at h; first | (exact Bool.noConfusion h) | (simp only [Int.reduceToNat, Int.reduceTDiv, Int.reduceTMod, minL, maxL, pickB, zHB, zSH] at h; omega))); (conv => whnf))
 | ((with_reducible refine And.intro ?_ ?_); (focus (first | (with_reducible rfl) | omega | rfl | ((try simp only [Int.reduceToNat, Int.reduceTDiv, Int.reduceTMod, minL, maxL, pickB, zHB, zSH, InK, Path.imp, zL] at *); omega))); (conv => whnf))
 | ((with_reducible refine And.intro (Side.out ?_) ?_); rotate_left; (conv => whnf))
 | ((first | refine retF1 ?_ | refine retF2 ?_ | refine subF.leaf ?_ | refine subF.side ?_) <;> (conv => whnf) <;> repeat' (first
 | exact trivial
 | (with_reducible rfl)
 | ((with_reducible refine And.intro ?_ ?_) <;> conv => whnf)
 | omega
 | rfl
 | (refine congrArg (SV.arr _) ?_)
 | (refine congrArg (Value.int _) ?_)
 | (refine congrArg Value.bool ?_)))); all_goals (try unfold Side)
          all_goals try (repeat' (first | (with_reducible rfl) | (with_reducible refine And.intro ?_ ?_) | omega | rfl | exact Or.inl rfl | exact Or.inr rfl | exact of_decide_eq_true rfl | exact Path.imp_of (of_decide_eq_true rfl) | (focus ((try simp only [Int.reduceToNat, Int.reduceTDiv, Int.reduceTMod, minL, maxL, pickB, zHB, zSH, InK, Path.imp, zL] at *); omega)) | (refine app_le rfl ?_; omega)))
          refine W.loop (fun k : Nat => ⟨[(1, .st false (.sadr (.agg [I64 P, .arr JT l, .arr OT os]))), (3, .own 8000), (4, .own 9000), (6, .lit (.int .i64 ((k : Int) - 1)))], [(8000, .row 30 (.sl (.int .i64)) true (allL P l os (r + 1))), (9000, .row 3 (.int .i64) true ((rstT l r k) : List Int))]⟩) (fun k => k ≤ l.length ∧ r % sufK l (l.length - k) = sufK l (l.length - k) - 1) (fun k => k) (l.length) ?_ ?_
          · refine ⟨⟨Nat.le_refl _, by rw [Nat.sub_self, sufK, Nat.mod_one]⟩, ?_⟩
            refine subF.ok ?_ <;> (conv => whnf) <;> repeat' (first
 | exact trivial
 | (with_reducible rfl)
 | ((with_reducible refine And.intro ?_ ?_) <;> conv => whnf)
 | omega
 | rfl
 | (refine congrArg (SV.arr _) ?_)
 | (refine congrArg (Value.int _) ?_)
 | (refine congrArg Value.bool ?_))
            all_goals first | exact q4 | exact q4.symm | exact hrst | exact hrst.symm
          · rintro k ⟨hk, hfull⟩
            have q5 := hrl r k
            by_cases hk0 : k = 0
            · subst hk0
              have hWr := full_last hr hfull
              rw [hWr]
              repeat' (first
 | refine W.seq ?_
 | refine W.block ?_
 | (refine W.drawPh (id := 9) tys_ok [] mixed [0, 1, 2, 4, 4, 28, 36, 4, 132, 4, 772, 1028, 2052, 4, 8196, 4, 49156, 65540, 131076, 266244, 524356, 1048580] [([0, 1, 2, 4, 7, 8, 9, 10, 11, 12, 13, 14, 15, 16, 17, 18, 19], 1, 1048479), ([], 1, 1048511), ([], 1, 1048575), ([20, 21], 0, 4194303)] (by decide +kernel) ?_; conv => whnf)
 | (refine W.region tys_ok [] ?_; conv => whnf)
 | (refine W.drawAll tys_ok [] mixed rfl ?_; conv => whnf)
 | (refine W.ret ?_; conv => whnf)
 | (refine W.skip ?_; conv => whnf)
 | (refine W.exit ?_; conv => whnf)
 | (refine Both.mk ?_ ?_ <;> (conv => whnf))
 | (refine W.cond rfl (fun hb => ?_) (fun hb => ?_) <;> (try simp only [Int.reduceToNat, Int.reduceTDiv, Int.reduceTMod, minL, maxL, pickB, zHB, zSH] at hb) <;> (try (first | (cases hb; done) | exact absurd hb (by decide) | (exfalso; omega) | (omega))))
 | ((with_reducible refine And.intro ?_ ?_); (focus (first | (with_reducible rfl) | omega | rfl | ((try simp only [Int.reduceToNat, Int.reduceTDiv, Int.reduceTMod, minL, maxL, pickB, zHB, zSH, InK, Path.imp, zL] at *); omega))); (conv => whnf))
 | ((with_reducible refine And.intro (Side.out ?_) ?_); rotate_left; (conv => whnf))
 | ((first | refine retF1 ?_ | refine retF2 ?_ | refine subF.leaf ?_ | refine subF.side ?_) <;> (conv => whnf) <;> repeat' (first
 | exact trivial
 | (with_reducible rfl)
 | ((with_reducible refine And.intro ?_ ?_) <;> conv => whnf)
 | omega
 | rfl
 | (refine congrArg (SV.arr _) ?_)
 | (refine congrArg (Value.int _) ?_)
 | (refine congrArg Value.bool ?_)))); all_goals (try unfold Side)
              all_goals try (repeat' (first | (with_reducible rfl) | (with_reducible refine And.intro ?_ ?_) | omega | rfl | exact Or.inl rfl | exact Or.inr rfl | exact of_decide_eq_true rfl | exact Path.imp_of (of_decide_eq_true rfl) | (focus ((try simp only [Int.reduceToNat, Int.reduceTDiv, Int.reduceTMod, minL, maxL, pickB, zHB, zSH, InK, Path.imp, zL] at *); omega)) | (refine app_le rfl ?_; omega)))
            · obtain ⟨j, rfl⟩ : ∃ j, k = j + 1 := ⟨k - 1, by omega⟩
              have hjl : j < l.length := by omega
              have ek : (((j + 1 : Nat) : Int) - 1) = (j : Int) := by omega
              have hg : (rstT l r (j + 1)).getD j 0 = jf l j + (digT l r j : Int) := by rw [rst_get hjl, if_pos (by omega)]
              have hdf := dig_full hpr (r := r) hjl
              rw [← hg] at hdf
              have q6 := hbd.rg j hjl
              have q7 := hpr.rg j hjl
              have q8 : digT l r j < wayT l j := Nat.mod_lt _ (hwp j hjl)
              have q9 := (way_le h hjl)
              rw [ek]
              by_cases hd : digT l r j + 1 < wayT l j
              · have n1 := rst_up hwp hjl hfull hd
                have n2 := next_lt hwp hjl hr hfull hd
                have ik : InK .i64 ((rstT l r (j + 1)).getD j 0 + 1) := by rw [hg]; simp only [InK]; omega
                have hne := mt hdf.1 (fun c => c hd)
                unfold jf jt jl jp at q6
                unfold jt jl at hne
                unfold jf jt jl at q7
                repeat' (first
 | refine W.seq ?_
 | refine W.block ?_
 | (refine W.drawPh (id := 9) tys_ok [] mixed [0, 1, 2, 4, 4, 28, 36, 4, 132, 4, 772, 1028, 2052, 4, 8196, 4, 49156, 65540, 131076, 266244, 524356, 1048580] [([0, 1, 2, 4, 7, 8, 9, 10, 11, 12, 13, 14, 15, 16, 17, 18, 19], 1, 1048479), ([], 1, 1048511), ([], 1, 1048575), ([20, 21], 0, 4194303)] (by decide +kernel) ?_; conv => whnf)
 | (refine W.region tys_ok [] ?_; conv => whnf)
 | (refine W.drawAll tys_ok [] mixed rfl ?_; conv => whnf)
 | (refine W.ret ?_; conv => whnf)
 | (refine W.skip ?_; conv => whnf)
 | (refine W.exit ?_; conv => whnf)
 | (refine Both.mk ?_ ?_ <;> (conv => whnf))
 | (refine W.cond rfl (fun hb => ?_) (fun hb => ?_) <;> (try simp only [Int.reduceToNat, Int.reduceTDiv, Int.reduceTMod, minL, maxL, pickB, zHB, zSH] at hb) <;> (try (first | (cases hb; done) | exact absurd hb (by decide) | (exfalso; omega) | (omega))))
 | ((with_reducible refine And.intro ?_ ?_); (focus (first | (with_reducible rfl) | omega | rfl | ((try simp only [Int.reduceToNat, Int.reduceTDiv, Int.reduceTMod, minL, maxL, pickB, zHB, zSH, InK, Path.imp, zL] at *); omega))); (conv => whnf))
 | ((with_reducible refine And.intro (Side.out ?_) ?_); rotate_left; (conv => whnf))
 | ((first | refine retF1 ?_ | refine retF2 ?_ | refine subF.leaf ?_ | refine subF.side ?_) <;> (conv => whnf) <;> repeat' (first
 | exact trivial
 | (with_reducible rfl)
 | ((with_reducible refine And.intro ?_ ?_) <;> conv => whnf)
 | omega
 | rfl
 | (refine congrArg (SV.arr _) ?_)
 | (refine congrArg (Value.int _) ?_)
 | (refine congrArg Value.bool ?_)))); all_goals (try unfold Side)
                all_goals try (repeat' (first | (with_reducible rfl) | (with_reducible refine And.intro ?_ ?_) | omega | rfl | exact Or.inl rfl | exact Or.inr rfl | exact of_decide_eq_true rfl | exact Path.imp_of (of_decide_eq_true rfl) | (focus ((try simp only [Int.reduceToNat, Int.reduceTDiv, Int.reduceTMod, minL, maxL, pickB, zHB, zSH, InK, Path.imp, zL] at *); omega)) | (refine app_le rfl ?_; omega)))
                all_goals try exact Path.imp_of ik
                refine ⟨r + 1, ⟨n2, by omega⟩, ?_⟩
                refine subF.ok ?_ <;> (conv => whnf) <;> repeat' (first
 | exact trivial
 | (with_reducible rfl)
 | ((with_reducible refine And.intro ?_ ?_) <;> conv => whnf)
 | omega
 | rfl
 | (refine congrArg (SV.arr _) ?_)
 | (refine congrArg (Value.int _) ?_)
 | (refine congrArg Value.bool ?_))
                all_goals exact n1
              · have n1 := rst_down (r := r) hjl
                have n2 := full_down hwp hjl hfull hd
                have heq := hdf.2 hd
                unfold jf at n1
                unfold jf jt jl jp at q6
                unfold jt jl at heq
                unfold jf jt jl at q7
                repeat' (first
 | refine W.seq ?_
 | refine W.block ?_
 | (refine W.drawPh (id := 9) tys_ok [] mixed [0, 1, 2, 4, 4, 28, 36, 4, 132, 4, 772, 1028, 2052, 4, 8196, 4, 49156, 65540, 131076, 266244, 524356, 1048580] [([0, 1, 2, 4, 7, 8, 9, 10, 11, 12, 13, 14, 15, 16, 17, 18, 19], 1, 1048479), ([], 1, 1048511), ([], 1, 1048575), ([20, 21], 0, 4194303)] (by decide +kernel) ?_; conv => whnf)
 | (refine W.region tys_ok [] ?_; conv => whnf)
 | (refine W.drawAll tys_ok [] mixed rfl ?_; conv => whnf)
 | (refine W.ret ?_; conv => whnf)
 | (refine W.skip ?_; conv => whnf)
 | (refine W.exit ?_; conv => whnf)
 | (refine Both.mk ?_ ?_ <;> (conv => whnf))
 | (refine W.cond rfl (fun hb => ?_) (fun hb => ?_) <;> (try simp only [Int.reduceToNat, Int.reduceTDiv, Int.reduceTMod, minL, maxL, pickB, zHB, zSH] at hb) <;> (try (first | (cases hb; done) | exact absurd hb (by decide) | (exfalso; omega) | (omega))))
 | ((with_reducible refine And.intro ?_ ?_); (focus (first | (with_reducible rfl) | omega | rfl | ((try simp only [Int.reduceToNat, Int.reduceTDiv, Int.reduceTMod, minL, maxL, pickB, zHB, zSH, InK, Path.imp, zL] at *); omega))); (conv => whnf))
 | ((with_reducible refine And.intro (Side.out ?_) ?_); rotate_left; (conv => whnf))
 | ((first | refine retF1 ?_ | refine retF2 ?_ | refine subF.leaf ?_ | refine subF.side ?_) <;> (conv => whnf) <;> repeat' (first
 | exact trivial
 | (with_reducible rfl)
 | ((with_reducible refine And.intro ?_ ?_) <;> conv => whnf)
 | omega
 | rfl
 | (refine congrArg (SV.arr _) ?_)
 | (refine congrArg (Value.int _) ?_)
 | (refine congrArg Value.bool ?_)))); all_goals (try unfold Side)
                all_goals try (repeat' (first | (with_reducible rfl) | (with_reducible refine And.intro ?_ ?_) | omega | rfl | exact Or.inl rfl | exact Or.inr rfl | exact of_decide_eq_true rfl | exact Path.imp_of (of_decide_eq_true rfl) | (focus ((try simp only [Int.reduceToNat, Int.reduceTDiv, Int.reduceTMod, minL, maxL, pickB, zHB, zSH, InK, Path.imp, zL] at *); omega)) | (refine app_le rfl ?_; omega)))
                refine ⟨j, ⟨⟨by omega, n2⟩, by omega⟩, ?_⟩
                refine subF.ok ?_ <;> (conv => whnf) <;> repeat' (first
 | exact trivial
 | (with_reducible rfl)
 | ((with_reducible refine And.intro ?_ ?_) <;> conv => whnf)
 | omega
 | rfl
 | (refine congrArg (SV.arr _) ?_)
 | (refine congrArg (Value.int _) ?_)
 | (refine congrArg Value.bool ?_))
                all_goals exact n1
end Go.Proofs.Ytmfholchenihaaa

