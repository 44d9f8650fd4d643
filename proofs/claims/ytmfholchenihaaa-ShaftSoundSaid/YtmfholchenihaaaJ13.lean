/- Joined of: H24 H35. No condition. -/
import Derived.Test.YtmfholchenihaaaJ12
import Derived.Test.YtmfholchenihaaaJ11

namespace Go.Proofs.Ytmfholchenihaaa
open Go Go.Vc Go.Sh
set_option linter.unusedVariables false
set_option linter.unusedSimpArgs false
set_option maxHeartbeats 8000000 in
theorem rprovesM_at {P : Int} {os : List Od} {pf : List Nd} (hP : 0 ≤ P ∧ P ≤ 100) (hpf : pf.length ≤ 100000) {k num : Nat} {l : List Jb} {sn : List Bool} (hnum : num < pf.length) (hsn : sn.length = pf.length) (hbd : Bd l) (ho : Ords os l.length) (hs : sn.getD num false = false) (h1 : (pf.getD num N0).1 = 1) (hc : ((pf.getD num N0).2.2.2.1 = 0 ∧ (0 ≤ (pf.getD num N0).2.1 ∧ (pf.getD num N0).2.1 < l.length) ∧ (jf l (pf.getD num N0).2.1.toNat ≤ (pf.getD num N0).2.2.1 ∧ (pf.getD num N0).2.2.1 < jt l (pf.getD num N0).2.1.toNat - jl l (pf.getD num N0).2.1.toNat) ∧ (((num : Int) < (pf.getD num N0).2.2.2.2.1 ∧ (num : Int) < (pf.getD num N0).2.2.2.2.2.1) ∧ (pf.getD num N0).2.2.2.2.1 < pf.length ∧ (pf.getD num N0).2.2.2.2.2.1 < pf.length)))
    (ih : ∀ (n : Nat) (l' : List Jb) (sn' : List Bool), num < n → n < pf.length → sn'.length = pf.length → Bd l' → l'.length = l.length →
      FnM Try.prog 42 [.st false (.agg [I64 P, .arr JT l', .arr OT os]), .st false (.arr NT pf), .lit (.int .i64 n), .own 1000000000] [(1000000000, .row 4 .bool true sn')] (.lit (.bool (pvT P os pf k n l' sn').1)) [(1000000000, .row 4 .bool true (pvT P os pf k n l' sn').2)]) :
    FnM Try.prog 42 [.st false (.agg [I64 P, .arr JT l, .arr OT os]), .st false (.arr NT pf), .lit (.int .i64 num), .own 1000000000] [(1000000000, .row 4 .bool true sn)] (.lit (.bool (pvT P os pf (k + 1) num l sn).1)) [(1000000000, .row 4 .bool true (pvT P os pf (k + 1) num l sn).2)] := by
  have hll : @List.length JT.T l = l.length := rfl
  have hlp : @List.length NT.T pf = pf.length := rfl
  have hlo : @List.length OT.T os = os.length := rfl
  have hls : @List.length Ty.bool.T sn = pf.length := hsn
  have hol := ho.1
  have hjl := hbd.len
  rw [pv_split hs h1 (split_iff.2 hc)]
  have hjn : (pf.getD num N0).2.1.toNat < l.length := by omega
  obtain ⟨bL, bR, lL, lR⟩ := part_bd hbd hjn hc.2.2.1
  have hlf : (((pf.getD num N0).2.2.2.2.1.toNat : Nat) : Int) = (pf.getD num N0).2.2.2.2.1 := by omega
  have hrt : (((pf.getD num N0).2.2.2.2.2.1.toNat : Nat) : Int) = (pf.getD num N0).2.2.2.2.2.1 := by omega
  have hsl1 : (sn.set num true).length = pf.length := by rw [List.length_set]; exact hsn
  have c1 := ih (pf.getD num N0).2.2.2.2.1.toNat (partL l (pf.getD num N0).2.1.toNat (pf.getD num N0).2.2.1) (sn.set num true) (by omega) (by omega) hsl1 bL lL
  have c2 := fun sn' hsn' => ih (pf.getD num N0).2.2.2.2.2.1.toNat (partR l (pf.getD num N0).2.1.toNat (pf.getD num N0).2.2.1) sn' (by omega) (by omega) hsn' bR lR
  have hl1 := pv_len (P := P) (os := os) (pf := pf) (k := k) (num := (pf.getD num N0).2.2.2.2.1.toNat) (l := (partL l (pf.getD num N0).2.1.toNat (pf.getD num N0).2.2.1)) (sn := sn.set num true)
  rw [hlf] at c1
  rw [hrt] at c2
  obtain ⟨r1, hr1⟩ : ∃ r1, r1 = pvT P os pf k (pf.getD num N0).2.2.2.2.1.toNat (partL l (pf.getD num N0).2.1.toNat (pf.getD num N0).2.2.1) (sn.set num true) := ⟨_, rfl⟩
  rw [← hr1] at c1 hl1 ⊢
  obtain ⟨B1, S1⟩ := r1
  have hl1' : S1.length = pf.length := by rw [← hsl1]; exact hl1
  have c2 := c2 S1 hl1'
  obtain ⟨r2, hr2⟩ : ∃ r2, r2 = pvT P os pf k (pf.getD num N0).2.2.2.2.2.1.toNat (partR l (pf.getD num N0).2.1.toNat (pf.getD num N0).2.2.1) S1 := ⟨_, rfl⟩
  have hr2' : pvT P os pf k (pf.getD num N0).2.2.2.2.2.1.toNat (partR l (pf.getD num N0).2.1.toNat (pf.getD num N0).2.2.1) (B1, S1).2 = r2 := hr2.symm
  rw [hr2']
  rw [← hr2] at c2
  obtain ⟨B2, S2⟩ := r2
  clear hr1 hr2 hr2'
  cases B1 with
  | false =>
    dsimp only
    rw [if_neg Bool.false_ne_true]
    exact rprovesMF_at (k := k) (S1 := S1) (S2 := S1) (B2 := false) hP hpf hnum hsn hbd ho hs h1 hc rfl rfl hl1' c1
  | true =>
    rw [if_pos rfl]
    exact rprovesMT_at (k := k) (S1 := S1) (S2 := S2) (B2 := B2) hP hpf hnum hsn hbd ho hs h1 hc rfl rfl hl1' c1 c2
theorem rproves_at {P : Int} {os : List Od} {pf : List Nd} (hP : 0 ≤ P ∧ P ≤ 100) (hpf : pf.length ≤ 100000) : ∀ {k num : Nat} {l : List Jb} {sn : List Bool}, num < pf.length → pf.length ≤ num + k → sn.length = pf.length → Bd l → Ords os l.length →
    FnM Try.prog 42 [.st false (.agg [I64 P, .arr JT l, .arr OT os]), .st false (.arr NT pf), .lit (.int .i64 num), .own 1000000000] [(1000000000, .row 4 .bool true sn)] (.lit (.bool (pvT P os pf k num l sn).1)) [(1000000000, .row 4 .bool true (pvT P os pf k num l sn).2)]
  | 0, num, l, sn, h1, h2, _, _, _ => by omega
  | k + 1, num, l, sn, hnum, hk, hsn, hbd, ho => by
    have ih : ∀ (n : Nat) (l' : List Jb) (sn' : List Bool), num < n → n < pf.length → sn'.length = pf.length → Bd l' → l'.length = l.length →
      FnM Try.prog 42 [.st false (.agg [I64 P, .arr JT l', .arr OT os]), .st false (.arr NT pf), .lit (.int .i64 n), .own 1000000000] [(1000000000, .row 4 .bool true sn')] (.lit (.bool (pvT P os pf k n l' sn').1)) [(1000000000, .row 4 .bool true (pvT P os pf k n l' sn').2)] :=
      fun n l' sn' h1 h2 h3 h4 h5 => rproves_at hP hpf h2 (by omega) h3 h4 (by rw [h5]; exact ho)
    cases hs : sn.getD num false with
    | true => exact rprovesS_at hP hpf hnum hsn hbd ho hs
    | false =>
      by_cases h1 : (pf.getD num N0).1 = 1
      · by_cases hc : ((pf.getD num N0).2.2.2.1 = 0 ∧ (0 ≤ (pf.getD num N0).2.1 ∧ (pf.getD num N0).2.1 < l.length) ∧ (jf l (pf.getD num N0).2.1.toNat ≤ (pf.getD num N0).2.2.1 ∧ (pf.getD num N0).2.2.1 < jt l (pf.getD num N0).2.1.toNat - jl l (pf.getD num N0).2.1.toNat) ∧ (((num : Int) < (pf.getD num N0).2.2.2.2.1 ∧ (num : Int) < (pf.getD num N0).2.2.2.2.2.1) ∧ (pf.getD num N0).2.2.2.2.1 < pf.length ∧ (pf.getD num N0).2.2.2.2.2.1 < pf.length))
        · exact rprovesM_at hP hpf hnum hsn hbd ho hs h1 hc ih
        · exact rprovesN_at hP hpf hnum hsn hbd ho hs h1 hc
      · by_cases h2 : (pf.getD num N0).1 = 2
        · exact rproves2_at hP hpf hnum hsn hbd ho hs h2
        · by_cases h3 : (pf.getD num N0).1 = 3
          · exact rproves3_at hP hpf hnum hsn hbd ho hs h3
          · exact rprovesE_at hP hpf hnum hsn hbd ho hs h1 h2 h3
set_option maxHeartbeats 4000000 in
theorem rProves_at {P : Int} {l : List Jb} {os : List Od} {pf : List Nd} (h : VS P l os) (hp : pf.length ≤ 20000) : FnAt Try.prog false 25 [.agg [I64 P, .arr JT l, .arr OT os], .arr NT pf] (.lit (.bool (provesB P l os pf))) [] := by
  have hlp : @List.length NT.T pf = pf.length := rfl
  by_cases hz : 0 < pf.length
  · have hc := rproves_at (P := P) (os := os) (pf := pf) (k := pf.length) (num := 0) (l := l) (sn := List.replicate pf.length false) (by have := h.pw; omega) (by omega) hz (by omega) (by simp) (bd_of h) (ords_of h)
    have hB : provesB P l os pf = (pvT P os pf pf.length 0 l (List.replicate pf.length false)).1 := by unfold provesB; rw [decide_eq_true hz, Bool.true_and]
    rw [hB]
    obtain ⟨r, hr⟩ : ∃ r, r = pvT P os pf pf.length 0 l (List.replicate pf.length false) := ⟨_, rfl⟩
    rw [← hr] at hc ⊢
    clear hr hB
    have hs : List.replicate ((pf.length : Nat) : Int).toNat false = List.replicate pf.length false := by rw [Int.toNat_natCast]
    have hfin : ∀ b : Bool, pickB (decide (0 < (pf.length : Int))) (Operand.tmp 14) (Operand.const (Value.bool false)) b false = b := fun b => by
      rw [decide_eq_true (by omega)]; rfl
    refine FnAt.of_body tys_ok Try.func25 (by rfl) rfl Try.ntmps25 (by rw [Try.results25]) (by simp) ?_
  
    repeat' (first
 | refine W.seq ?_
 | refine W.block ?_
 | (refine W.resub (x := Code.region 1 _ _) (Γ' := ⟨[(1, .st false (.arr NT pf)), (2, .st false (.sadr (.agg [I64 P, .arr JT l, .arr OT os])))], []⟩) ?_ (W.drawM (id := 1) tys_ok [] [8, 9] mixed [0, 1, 2, 4, 8, 8, 8, 72, 136, 312, 520, 2047] [([0, 1, 2, 3, 4, 5, 6, 7], 1, 511), ([], 1, 1023), ([10, 11], 0, 4095)] (by decide +kernel) ?_); rotate_left; (conv => whnf))
 | (refine W.region tys_ok [] ?_; conv => whnf)
 | (refine W.drawAll tys_ok [] mixed rfl ?_; conv => whnf)
 | (refine W.ret ?_; conv => whnf)
 | (refine W.skip ?_; conv => whnf)
 | (refine W.exit ?_; conv => whnf)
 | (refine callM_at (hc) ?_; conv => whnf)
 | (refine Both.mk ?_ ?_ <;> (conv => whnf))
 | (refine W.cond rfl (fun hb => ?_) (fun hb => ?_) <;> (try simp only [Int.reduceToNat, Int.reduceTDiv, Int.reduceTMod, minL, maxL, pickB, zHB, zSH] at hb) <;> (try (first | (cases hb; done) | exact absurd hb (by decide) | (exfalso; omega) | (omega))))
 | (refine Or.inl (And.intro ?_ ?_); (focus (first | exact trivial | exact ⟨rfl, trivial⟩ | (refine ⟨?_, trivial⟩; dsimp only; simp only [Int.reduceToNat, Int.reduceTDiv, Int.reduceTMod, minL, maxL, pickB, zHB, zSH]; omega))); (conv => whnf))
 | (refine Or.inr (And.intro ?_ ?_); (focus (intro h; have h := h.1; dsimp only at h; first | (exact Bool.noConfusion h) | (simp only [Int.reduceToNat, Int.reduceTDiv, Int.reduceTMod, minL, maxL, pickB, zHB, zSH] at h; omega))); (conv => whnf))
 | ((with_reducible refine And.intro ?_ ?_); (focus (first | (with_reducible rfl) | omega | rfl | ((try simp only [Int.reduceToNat, Int.reduceTDiv, Int.reduceTMod, minL, maxL, pickB, zHB, zSH, InK, Path.imp, zL] at *); omega))); (conv => whnf))
 | ((with_reducible refine And.intro (Side.out ?_) ?_); rotate_left; (conv => whnf))
 | ((first | refine retF1 ?_ | refine retF2 ?_ | refine subF.leaf ?_ | refine subF.side ?_) <;> (conv => whnf) <;> repeat' (first
 | exact trivial
 | (with_reducible rfl)
 | ((with_reducible refine And.intro ?_ ?_) <;> conv => whnf)
 | omega
 | rfl
 | (refine congrArg (SV.arr _) ?_)
 | (refine congrArg (Value.int _) ?_)
 | (refine congrArg Value.bool ?_)))); all_goals (try unfold Side)
    all_goals try (repeat' (first | (with_reducible rfl) | (with_reducible refine And.intro ?_ ?_) | omega | rfl | exact Or.inl rfl | exact Or.inr rfl | exact of_decide_eq_true rfl | exact Path.imp_of (of_decide_eq_true rfl) | (focus ((try simp only [Int.reduceToNat, Int.reduceTDiv, Int.reduceTMod, minL, maxL, pickB, zHB, zSH, InK, Path.imp, zL] at *); omega)) | (refine app_le rfl ?_; omega)))
    all_goals exact hfin _
  · have hB : provesB P l os pf = false := by unfold provesB; rw [decide_eq_false hz, Bool.false_and]
    rw [hB]
    have hfin : pickB (decide (0 < (pf.length : Int))) (Operand.tmp 14) (Operand.const (Value.bool false)) false false = false := by
      rw [decide_eq_false (by omega)]; rfl
    refine FnAt.of_body tys_ok Try.func25 (by rfl) rfl Try.ntmps25 (by rw [Try.results25]) (by simp) ?_
  
    repeat' (first
 | refine W.seq ?_
 | refine W.block ?_
 | (refine W.resub (x := Code.region 1 _ _) (Γ' := ⟨[(1, .st false (.arr NT pf)), (2, .st false (.sadr (.agg [I64 P, .arr JT l, .arr OT os])))], []⟩) ?_ (W.drawM (id := 1) tys_ok [] [8, 9] mixed [0, 1, 2, 4, 8, 8, 8, 72, 136, 312, 520, 2047] [([0, 1, 2, 3, 4, 5, 6, 7], 1, 511), ([], 1, 1023), ([10, 11], 0, 4095)] (by decide +kernel) ?_); rotate_left; (conv => whnf))
 | (refine W.region tys_ok [] ?_; conv => whnf)
 | (refine W.drawAll tys_ok [] mixed rfl ?_; conv => whnf)
 | (refine W.ret ?_; conv => whnf)
 | (refine W.skip ?_; conv => whnf)
 | (refine W.exit ?_; conv => whnf)
 | (refine Both.mk ?_ ?_ <;> (conv => whnf))
 | (refine W.cond rfl (fun hb => ?_) (fun hb => ?_) <;> (try simp only [Int.reduceToNat, Int.reduceTDiv, Int.reduceTMod, minL, maxL, pickB, zHB, zSH] at hb) <;> (try (first | (cases hb; done) | exact absurd hb (by decide) | (exfalso; omega) | (omega))))
 | (refine Or.inl (And.intro ?_ ?_); (focus (first | exact trivial | exact ⟨rfl, trivial⟩ | (refine ⟨?_, trivial⟩; dsimp only; simp only [Int.reduceToNat, Int.reduceTDiv, Int.reduceTMod, minL, maxL, pickB, zHB, zSH]; omega))); (conv => whnf))
 | (refine Or.inr (And.intro ?_ ?_); (focus (intro h; have h := h.1; dsimp only at h; first | (exact Bool.noConfusion h) | (simp only [Int.reduceToNat, Int.reduceTDiv, Int.reduceTMod, minL, maxL, pickB, zHB, zSH] at h; omega))); (conv => whnf))
 | ((with_reducible refine And.intro ?_ ?_); (focus (first | (with_reducible rfl) | omega | rfl | ((try simp only [Int.reduceToNat, Int.reduceTDiv, Int.reduceTMod, minL, maxL, pickB, zHB, zSH, InK, Path.imp, zL] at *); omega))); (conv => whnf))
 | ((with_reducible refine And.intro (Side.out ?_) ?_); rotate_left; (conv => whnf))
 | ((first | refine retF1 ?_ | refine retF2 ?_ | refine subF.leaf ?_ | refine subF.side ?_) <;> (conv => whnf) <;> repeat' (first
 | exact trivial
 | (with_reducible rfl)
 | ((with_reducible refine And.intro ?_ ?_) <;> conv => whnf)
 | omega
 | rfl
 | (refine congrArg (SV.arr _) ?_)
 | (refine congrArg (Value.int _) ?_)
 | (refine congrArg Value.bool ?_)))); all_goals (try unfold Side)
    all_goals try (repeat' (first | (with_reducible rfl) | (with_reducible refine And.intro ?_ ?_) | omega | rfl | exact Or.inl rfl | exact Or.inr rfl | exact of_decide_eq_true rfl | exact Path.imp_of (of_decide_eq_true rfl) | (focus ((try simp only [Int.reduceToNat, Int.reduceTDiv, Int.reduceTMod, minL, maxL, pickB, zHB, zSH, InK, Path.imp, zL] at *); omega)) | (refine app_le rfl ?_; omega)))
    all_goals exact hfin
end Go.Proofs.Ytmfholchenihaaa
namespace Go.Proofs.Ytmfholchenihaaa
open Go Go.Vc Go.Sh
set_option linter.unusedVariables false
set_option linter.unusedSimpArgs false
abbrev U3 : Ty := .cons (.int .u8) (.cons (.int .u8) (.cons (.int .u8) .nil))
abbrev Tr3 := Int × Int × Int × Unit
@[reducible] def T0 : Tr3 := (0, 0, 0, ())
def sm3 (y : List Tr3) : Prop := ∀ i : Nat, (0 ≤ (y.getD i T0).1 ∧ (y.getD i T0).1 ≤ 255) ∧ (0 ≤ (y.getD i T0).2.1 ∧ (y.getD i T0).2.1 ≤ 255) ∧ 0 ≤ (y.getD i T0).2.2.1 ∧ (y.getD i T0).2.2.1 ≤ 255
theorem sm3_wf {y : List Tr3} (h : (Ty.sl U3).wf y) : sm3 y := fun i => by
  have h2 : ∀ z ∈ y, U3.wf z := h.2
  by_cases hi : i < y.length
  · have h3 := h2 _ (getD_mem (d := T0) hi)
    exact ⟨wf_u8 h3.1, wf_u8 h3.2.1, wf_u8 h3.2.2.1⟩
  · have : y.getD i T0 = T0 := by simp [List.getD, List.getElem?_eq_none (Nat.le_of_not_lt hi)]
    rw [this]; decide
theorem od_lt2 {P : Int} {l : List Jb} {os : List Od} (h : VS P l os) : ∀ o ∈ os, o.1.toNat < l.length ∧ o.2.1.toNat < l.length := fun o ho => by
  obtain ⟨k, hk, e⟩ := List.getElem_of_mem ho
  have := h.od k hk
  rw [List.getD_eq_getElem?_getD, List.getElem?_eq_getElem hk, Option.getD_some, e] at this
  unfold OrdOk at this
  omega
theorem proves_no {P : Int} {l : List Jb} {os : List Od} {N : List Nd} (h : VS P l os) (hb : provesB P l os N = true) (s : List Int) : ¬ Fit P l os s := by
  unfold provesB at hb
  rw [Bool.and_eq_true] at hb
  refine pv_sound (n := l.length) ⟨rfl, fun m hm => ?_, od_lt2 h⟩ hb.2 s
  have := (bd_of h).rg m hm
  omega
set_option maxHeartbeats 16000000 in
theorem sound2_at {P : Int} {l : List Jb} {os : List Od} (h : VS P l os) {y : List Tr3} (hy : sm3 y) {e : Int} (he : (∀ s, ¬ Fit P l os s) → e = 5) {N0' : List Nd} (hN : N0'.length ≤ 20000) :
    W Try.prog 169 (sfx 8 (bodyOf Try.f6)) ⟨[(1, .st false (.arr U3 y)), (5, .st true (.sadr (.agg [I64 P, .arr JT l, .arr OT os]))), (7, .lit (.int .i64 e)), (11, .own 5000)], [(5000, .row 57 NT true N0')]⟩ (bodyQ tys [.tmp 4] (.lit (.bool true)) []) := by
  -- func6 (by rfl)
  have hyl : ∀ i, @List.getD U3.T y i U3.dflt = y.getD i T0 := fun i => rfl
  have hly : @List.length U3.T y = y.length := rfl
  unfold bodyOf Try.f6
  dsimp only [sfx]
  repeat' (first
 | refine W.seq ?_
 | refine W.block ?_
 | (refine W.region tys_ok [] ?_; conv => whnf)
 | (refine W.drawAll tys_ok [] mixed rfl ?_; conv => whnf)
 | (refine W.ret ?_; conv => whnf)
 | (refine W.skip ?_; conv => whnf)
 | (refine W.exit ?_; conv => whnf)
 | (refine W.cond rfl (fun hb => ?_) (fun hb => ?_) <;> (try simp only [Int.reduceToNat, Int.reduceTDiv, Int.reduceTMod, minL, maxL, pickB, zHB, zSH] at hb) <;> (try (first | (cases hb; done) | exact absurd hb (by decide) | (exfalso; omega))))
 | ((with_reducible refine And.intro ?_ ?_); (focus (first | (with_reducible rfl) | omega | rfl | ((try simp only [Int.reduceToNat, Int.reduceTDiv, Int.reduceTMod, minL, maxL, pickB, zHB, zSH, InK, Path.imp, zL] at *); omega))); (conv => whnf))
 | ((with_reducible refine And.intro (Side.out ?_) ?_); rotate_left; (conv => whnf))
 | ((first | refine retF1 ?_ | refine retF2 ?_) <;> (conv => whnf) <;> repeat' (first
 | exact trivial
 | (with_reducible rfl)
 | ((with_reducible refine And.intro ?_ ?_) <;> conv => whnf)
 | omega
 | rfl
 | (refine congrArg (SV.arr _) ?_)
 | (refine congrArg (Value.int _) ?_)
 | (refine congrArg Value.bool ?_)))); all_goals (try unfold Side)
  all_goals try (repeat' (first | (with_reducible rfl) | (with_reducible refine And.intro ?_ ?_) | omega | rfl | exact Or.inl rfl | exact Or.inr rfl | exact of_decide_eq_true rfl | exact Path.imp_of (of_decide_eq_true rfl) | (focus ((try simp only [Int.reduceToNat, Int.reduceTDiv, Int.reduceTMod, minL, maxL, pickB, zHB, zSH, InK, Path.imp, zL] at *); omega)) | (refine app_le rfl ?_; omega)))
  refine W.loop (fun x : Nat × List Nd => ⟨[(1, .st false (.arr U3 y)), (5, .st true (.sadr (.agg [I64 P, .arr JT l, .arr OT os]))), (7, .lit (.int .i64 (e))), (11, .own 5000), (12, .lit (.int .i64 (x.1)))], [(5000, .row 57 NT true x.2)]⟩) (fun x => x.1 ≤ 4 ∧ x.2.length ≤ 20000) (fun x => 4 - x.1) ((0, N0')) ?_ ?_
  · refine ⟨⟨Nat.zero_le _, hN⟩, ?_⟩
    refine subF.ok ?_ <;> (conv => whnf) <;> repeat' (first
 | exact trivial
 | (with_reducible rfl)
 | ((with_reducible refine And.intro ?_ ?_) <;> conv => whnf)
 | omega
 | rfl
 | (refine congrArg (SV.arr _) ?_)
 | (refine congrArg (Value.int _) ?_)
 | (refine congrArg Value.bool ?_))
  · rintro ⟨i, N⟩ ⟨hi, hl⟩
    dsimp only at hi hl ⊢
    have hlN : @List.length NT.T N = N.length := rfl
    obtain ⟨y0, y1, y2⟩ := hy i
    by_cases hil : (i < y.length ∧ i < 4) ∧ 0 < N.length
    · have ik0 : InK .i64 (y.getD i T0).1 := by simp only [InK]; omega
      have ik1 : InK .i64 (y.getD i T0).2.1 := by simp only [InK]; omega
      have ik2 : InK .i64 (y.getD i T0).2.2.1 := by simp only [InK]; omega
      have t1 : Int.tmod ((y.getD i T0).1 + 256 * (y.getD i T0).2.1) N.length = ((y.getD i T0).1 + 256 * (y.getD i T0).2.1) % N.length := tm (by omega) _
      have k0 := Int.emod_nonneg ((y.getD i T0).1 + 256 * (y.getD i T0).2.1) (b := (N.length : Int)) (by omega)
      have k1 := Int.emod_lt_of_pos ((y.getD i T0).1 + 256 * (y.getD i T0).2.1) (b := (N.length : Int)) (by omega)
      rw [← t1] at k0 k1
      have t2 : Int.tmod (y.getD i T0).2.2.1 16 = (y.getD i T0).2.2.1 % 16 := tm y2.1 _
      have v0 : 0 ≤ Int.tmod (y.getD i T0).2.2.1 16 ∧ Int.tmod (y.getD i T0).2.2.1 16 ≤ 15 := by rw [t2]; omega
      have t3 : Int.tmod (y.getD i T0).1 6 = (y.getD i T0).1 % 6 := tm y0.1 _
      have v3 : 0 ≤ Int.tmod (y.getD i T0).1 6 ∧ Int.tmod (y.getD i T0).1 6 ≤ 5 := by rw [t3]; omega
      obtain ⟨k, hk⟩ : ∃ k : Nat, (k : Int) = Int.tmod ((y.getD i T0).1 + 256 * (y.getD i T0).2.1) N.length := ⟨(Int.tmod ((y.getD i T0).1 + 256 * (y.getD i T0).2.1) N.length).toNat, by omega⟩
      obtain ⟨v, hv⟩ : ∃ v, v = Int.tmod (y.getD i T0).2.2.1 16 := ⟨_, rfl⟩
      have u6 : Int.tmod v 6 = v % 6 := tm (by omega) _
      have u4 : Int.tmod v 4 = v % 4 := tm (by omega) _
      have w6 : 0 ≤ Int.tmod v 6 ∧ Int.tmod v 6 ≤ 5 := by rw [u6]; omega
      have w4 : 0 ≤ Int.tmod v 4 ∧ Int.tmod v 4 ≤ 3 := by rw [u4]; omega
      have q1 : Int.tdiv (y.getD i T0).2.2.1 16 = (y.getD i T0).2.2.1 / 16 := Int.tdiv_eq_ediv_of_nonneg y2.1
      have q2 : Int.tmod (Int.tdiv (y.getD i T0).2.2.1 16) 5 = (y.getD i T0).2.2.1 / 16 % 5 := by rw [q1]; exact tm (by omega) _
      have q3 : 0 ≤ Int.tdiv (y.getD i T0).2.2.1 16 ∧ Int.tdiv (y.getD i T0).2.2.1 16 ≤ 15 := by rw [q1]; omega
      have q4 : 0 ≤ Int.tmod (Int.tdiv (y.getD i T0).2.2.1 16) 5 ∧ Int.tmod (Int.tdiv (y.getD i T0).2.2.1 16) 5 ≤ 4 := by rw [q2]; omega
      have hkl : k < N.length := by omega
      have hln : ∀ z : Nd, (N.set k z).length ≤ 20000 := fun z => by rw [List.length_set]; exact hl
      have z1 : InK .i64 (v + 1 + Int.tmod (y.getD i T0).1 6) := by simp only [InK]; omega
      have z2 : (16 : Int) ≠ 0 ∧ InK .u8 (Int.tdiv (y.getD i T0).2.2.1 16) := ⟨by decide, by simp only [InK]; omega⟩
      have z3 : InK .i64 ((y.getD i T0).1 + 256 * (y.getD i T0).2.1) := by simp only [InK]; omega
      have z4 : InK .i64 (256 * (y.getD i T0).2.1) := by simp only [InK]; omega
      repeat' (first
 | refine W.seq ?_
 | refine W.block ?_
 | (refine W.resub (x := Code.region 16 _ _) (Γ' := ⟨[(1, .st false (.arr U3 y)), (5, .st true (.sadr (.agg [I64 P, .arr JT l, .arr OT os]))), (7, .lit (.int .i64 (e))), (11, .own 5000), (12, .lit (.int .i64 (i))), (13, .lit (.int .i64 (k))), (14, .lit (.int .i64 (v))), (100, .lit (.int .u8 (Int.tmod (Int.tdiv (y.getD i T0).2.2.1 16) 5)))], [(5000, .row 57 NT true N)]⟩) ?_ (W.region tys_ok [] ?_); rotate_left; (conv => whnf))
 | (refine W.region tys_ok [] ?_; conv => whnf)
 | (refine W.drawAll tys_ok [] mixed rfl ?_; conv => whnf)
 | (refine W.ret ?_; conv => whnf)
 | (refine W.skip ?_; conv => whnf)
 | (refine W.exit ?_; conv => whnf)
 | (refine W.cond rfl (fun hb => ?_) (fun hb => ?_) <;> (try simp only [Int.reduceToNat, Int.reduceTDiv, Int.reduceTMod, minL, maxL, pickB, zHB, zSH] at hb) <;> (try (first | (cases hb; done) | exact absurd hb (by decide) | (exfalso; omega) | (omega))))
 | ((with_reducible refine And.intro ?_ ?_); (focus (first | (with_reducible rfl) | omega | rfl | ((try simp only [Int.reduceToNat, Int.reduceTDiv, Int.reduceTMod, minL, maxL, pickB, zHB, zSH, InK, Path.imp, zL] at *); omega))); (conv => whnf))
 | ((with_reducible refine And.intro (Side.out ?_) ?_); rotate_left; (conv => whnf))
 | ((first | refine retF1 ?_ | refine retF2 ?_) <;> (conv => whnf) <;> repeat' (first
 | exact trivial
 | (with_reducible rfl)
 | ((with_reducible refine And.intro ?_ ?_) <;> conv => whnf)
 | omega
 | rfl
 | (refine congrArg (SV.arr _) ?_)
 | (refine congrArg (Value.int _) ?_)
 | (refine congrArg Value.bool ?_)))); all_goals (try unfold Side)
      all_goals try (repeat' (first | (with_reducible rfl) | (with_reducible refine And.intro ?_ ?_) | omega | rfl | exact Or.inl rfl | exact Or.inr rfl | exact of_decide_eq_true rfl | exact Path.imp_of (of_decide_eq_true rfl) | (focus ((try simp only [Int.reduceToNat, Int.reduceTDiv, Int.reduceTMod, minL, maxL, pickB, zHB, zSH, InK, Path.imp, zL] at *); omega)) | (refine app_le rfl ?_; omega)))
      all_goals try (first | exact Path.imp_of ik0 | exact Path.imp_of ik1 | exact Path.imp_of ik2)
      all_goals try refine subF.ok ?_ <;> (conv => whnf) <;> repeat' (first
 | exact trivial
 | (with_reducible rfl)
 | ((with_reducible refine And.intro ?_ ?_) <;> conv => whnf)
 | omega
 | rfl
 | (refine congrArg (SV.arr _) ?_)
 | (refine congrArg (Value.int _) ?_)
 | (refine congrArg Value.bool ?_))
      all_goals try (first | exact Path.imp_of z1 | exact hk.symm | exact hv.symm | exact Path.imp_of z2 | exact Path.imp_of z3 | exact Path.imp_of z4)
      all_goals (refine ⟨(i + 1, ?_), ⟨⟨by omega, ?_⟩, by omega⟩, ?_⟩; rotate_left 2)
      all_goals try refine subF.ok ?_ <;> (conv => whnf) <;> repeat' (first
 | exact trivial
 | (with_reducible rfl)
 | ((with_reducible refine And.intro ?_ ?_) <;> conv => whnf)
 | omega
 | rfl
 | (refine congrArg (SV.arr _) ?_)
 | (refine congrArg (Value.int _) ?_)
 | (refine congrArg Value.bool ?_))
      all_goals try (exact rfl)
      all_goals try exact Nat.le_trans (Nat.le_of_eq List.length_set) hl
    · have hp := Proves_ok h hl
      have hr := rProves_at h hl
      cases hb : provesB P l os N with
      | false =>
        rw [hb] at hp hr
        repeat' (first
 | refine W.seq ?_
 | refine W.block ?_
 | (refine W.resub (x := Code.region 24 _ _) (Γ' := ⟨[(5, .st true (.sadr (.agg [I64 P, .arr JT l, .arr OT os]))), (11, .st true (.arr NT N))], [(5000, .row 57 NT true x.2)]⟩) ?_ (W.region tys_ok [] ?_); rotate_left; (conv => whnf))
 | (refine W.region tys_ok [] ?_; conv => whnf)
 | (refine W.drawAll tys_ok [] mixed rfl ?_; conv => whnf)
 | (refine W.ret ?_; conv => whnf)
 | (refine W.skip ?_; conv => whnf)
 | (refine W.exit ?_; conv => whnf)
 | (refine call_at (al := false) (hp) rfl rfl rfl rfl ?_; conv => whnf)
 | (refine call_at (al := false) (hr) rfl rfl rfl rfl ?_; conv => whnf)
 | (refine W.cond rfl (fun hb => ?_) (fun hb => ?_) <;> (try simp only [Int.reduceToNat, Int.reduceTDiv, Int.reduceTMod, minL, maxL, pickB, zHB, zSH] at hb) <;> (try (first | (cases hb; done) | exact absurd hb (by decide) | (exfalso; omega) | (omega))))
 | ((with_reducible refine And.intro ?_ ?_); (focus (first | (with_reducible rfl) | omega | rfl | ((try simp only [Int.reduceToNat, Int.reduceTDiv, Int.reduceTMod, minL, maxL, pickB, zHB, zSH, InK, Path.imp, zL] at *); omega))); (conv => whnf))
 | ((with_reducible refine And.intro (Side.out ?_) ?_); rotate_left; (conv => whnf))
 | ((first | refine retF1 ?_ | refine retF2 ?_) <;> (conv => whnf) <;> repeat' (first
 | exact trivial
 | (with_reducible rfl)
 | ((with_reducible refine And.intro ?_ ?_) <;> conv => whnf)
 | omega
 | rfl
 | (refine congrArg (SV.arr _) ?_)
 | (refine congrArg (Value.int _) ?_)
 | (refine congrArg Value.bool ?_)))); all_goals (try unfold Side)
        all_goals try (repeat' (first | (with_reducible rfl) | (with_reducible refine And.intro ?_ ?_) | omega | rfl | exact Or.inl rfl | exact Or.inr rfl | exact of_decide_eq_true rfl | exact Path.imp_of (of_decide_eq_true rfl) | (focus ((try simp only [Int.reduceToNat, Int.reduceTDiv, Int.reduceTMod, minL, maxL, pickB, zHB, zSH, InK, Path.imp, zL] at *); omega)) | (refine app_le rfl ?_; omega)))
        all_goals try refine subF.ok ?_ <;> (conv => whnf) <;> repeat' (first
 | exact trivial
 | (with_reducible rfl)
 | ((with_reducible refine And.intro ?_ ?_) <;> conv => whnf)
 | omega
 | rfl
 | (refine congrArg (SV.arr _) ?_)
 | (refine congrArg (Value.int _) ?_)
 | (refine congrArg Value.bool ?_))
      | true =>
        rw [hb] at hp hr
        have he := he (proves_no h hb)
        subst he
        repeat' (first
 | refine W.seq ?_
 | refine W.block ?_
 | (refine W.resub (x := Code.region 24 _ _) (Γ' := ⟨[(5, .st true (.sadr (.agg [I64 P, .arr JT l, .arr OT os]))), (7, .lit (.int .i64 (5))), (11, .st true (.arr NT N))], [(5000, .row 57 NT true x.2)]⟩) ?_ (W.region tys_ok [] ?_); rotate_left; (conv => whnf))
 | (refine W.region tys_ok [] ?_; conv => whnf)
 | (refine W.drawAll tys_ok [] mixed rfl ?_; conv => whnf)
 | (refine W.ret ?_; conv => whnf)
 | (refine W.skip ?_; conv => whnf)
 | (refine W.exit ?_; conv => whnf)
 | (refine call_at (al := false) (hp) rfl rfl rfl rfl ?_; conv => whnf)
 | (refine call_at (al := false) (hr) rfl rfl rfl rfl ?_; conv => whnf)
 | (refine W.cond rfl (fun hb => ?_) (fun hb => ?_) <;> (try simp only [Int.reduceToNat, Int.reduceTDiv, Int.reduceTMod, minL, maxL, pickB, zHB, zSH] at hb) <;> (try (first | (cases hb; done) | exact absurd hb (by decide) | (exfalso; omega) | (omega))))
 | ((with_reducible refine And.intro ?_ ?_); (focus (first | (with_reducible rfl) | omega | rfl | ((try simp only [Int.reduceToNat, Int.reduceTDiv, Int.reduceTMod, minL, maxL, pickB, zHB, zSH, InK, Path.imp, zL] at *); omega))); (conv => whnf))
 | ((with_reducible refine And.intro (Side.out ?_) ?_); rotate_left; (conv => whnf))
 | ((first | refine retF1 ?_ | refine retF2 ?_) <;> (conv => whnf) <;> repeat' (first
 | exact trivial
 | (with_reducible rfl)
 | ((with_reducible refine And.intro ?_ ?_) <;> conv => whnf)
 | omega
 | rfl
 | (refine congrArg (SV.arr _) ?_)
 | (refine congrArg (Value.int _) ?_)
 | (refine congrArg Value.bool ?_)))); all_goals (try unfold Side)
        all_goals try (repeat' (first | (with_reducible rfl) | (with_reducible refine And.intro ?_ ?_) | omega | rfl | exact Or.inl rfl | exact Or.inr rfl | exact of_decide_eq_true rfl | exact Path.imp_of (of_decide_eq_true rfl) | (focus ((try simp only [Int.reduceToNat, Int.reduceTDiv, Int.reduceTMod, minL, maxL, pickB, zHB, zSH, InK, Path.imp, zL] at *); omega)) | (refine app_le rfl ?_; omega)))
        all_goals try refine subF.ok ?_ <;> (conv => whnf) <;> repeat' (first
 | exact trivial
 | (with_reducible rfl)
 | ((with_reducible refine And.intro ?_ ?_) <;> conv => whnf)
 | omega
 | rfl
 | (refine congrArg (SV.arr _) ?_)
 | (refine congrArg (Value.int _) ?_)
 | (refine congrArg Value.bool ?_))
theorem refT_len {P : Int} {l : List Jb} {os : List Od} : (refT P l os).2.length ≤ 20000 := (growR_len (P := P) (os := os) (k := waysT l) (l := l) (N := []) (by simp)).2
set_option maxHeartbeats 16000000 in
theorem ShaftSound_at {p : Int} {x : List Jb} {y : List Od} {z : List Tr3} (hp : 0 ≤ p ∧ p ≤ 255) (hx : sm4 x) (hy : sm2 y) (hz : sm3 z) : FnAt Try.prog false 6 [.agg [.lit (.int .u8 p), .arr U4 x, .arr U2 y], .arr U3 z] (.lit (.bool true)) [] := by
  obtain ⟨P, hP⟩ : ∃ P, P = p % 6 + 1 := ⟨_, rfl⟩
  obtain ⟨l, hl⟩ : ∃ l, l = mkJs x := ⟨_, rfl⟩
  obtain ⟨os, hos⟩ : ∃ os, os = mkOs l.length y := ⟨_, rfl⟩
  obtain ⟨h, hP6, hmk⟩ := made_eq hp hx hy hP hl hos
  clear hP hl hos
  have c1 := First_at h
  have hsp := first_spec h
  obtain ⟨r, hr⟩ : ∃ r, r = firstT P l os := ⟨_, rfl⟩
  rw [← hr] at c1 hsp
  obtain ⟨e, he⟩ : ∃ e : Int, e = if r = [] then 5 else 0 := ⟨_, rfl⟩
  rw [← he] at c1
  have he5 : (∀ s, ¬ Fit P l os s) → e = 5 := fun hn => by
    rcases hsp with ⟨q, _⟩ | ⟨_, q, _⟩
    · rw [he, if_pos q]
    · exact absurd q (hn _)
  obtain ⟨Q, hQ⟩ : ∃ Q, Q = max 1 (P - (z.length : Int) % 3) := ⟨_, rfl⟩
  have hQ1 : 1 ≤ Q ∧ Q ≤ 20 := by omega
  have h' : VS Q l os := ⟨hQ1, h.ln, h.lo, h.rg, h.od⟩
  have t1 : Int.tmod (z.length : Int) 3 = (z.length : Int) % 3 := tm (by omega) _
  have eQ : maxL 1 [P - Int.tmod (@List.length U3.T z : Int) 3] = Q := by show maxL 1 [P - Int.tmod (z.length : Int) 3] = Q; rw [t1, hQ]; rfl
  have t0 : 0 ≤ Int.tmod (z.length : Int) 3 ∧ Int.tmod (z.length : Int) 3 ≤ 2 := by rw [t1]; omega
  have hlz : @List.length U3.T z = z.length := rfl
  have ikQ : InK .i64 (P - Int.tmod (@List.length U3.T z : Int) 3) := by
    show InK .i64 (P - Int.tmod (z.length : Int) 3)
    simp only [InK]; omega
  by_cases hf : firstT Q l os = []
  · cases hg : (refT Q l os).1 with
    | true =>
      have c2 := Refuse_ok h' hf hg
      have hN := refT_len (P := Q) (l := l) (os := os)
      obtain ⟨N, hNd⟩ : ∃ N, N = (refT Q l os).2 := ⟨_, rfl⟩
      rw [← hNd] at c2 hN
      have hlN : @List.length NT.T N = N.length := rfl
      have m2 := sound2_at h hz he5 hN
      refine FnAt.of_body tys_ok Try.func6 (by rfl) rfl Try.ntmps6 (by rw [Try.results6]) (by simp) ?_
  
      repeat' (first
 | refine W.resub (x := Code.seq (Code.seq (Code.region 9 _ _) _) _) ?_ (m2)
 | refine W.seq ?_
 | refine W.block ?_
 | (refine W.resub (x := Code.region 2 _ _) (Γ' := ⟨[(1, .st false (.arr U3 z)), (5, .st true (.sadr (.agg [I64 P, .arr JT l, .arr OT os])))], []⟩) ?_ (W.region tys_ok [] ?_); rotate_left; (conv => whnf))
 | (refine W.resub (x := Code.region 5 _ _) (Γ' := ⟨[(1, .st false (.arr U3 z)), (5, .st true (.sadr (.agg [I64 P, .arr JT l, .arr OT os]))), (7, .lit (.int .i64 (e))), (8, .st true (.sadr (.agg [I64 Q, .arr JT l, .arr OT os])))], []⟩) ?_ (W.region tys_ok [] ?_); rotate_left; (conv => whnf))
 | (refine W.resub (x := Code.region 6 _ _) (Γ' := ⟨[(1, .st false (.arr U3 z)), (5, .st true (.sadr (.agg [I64 P, .arr JT l, .arr OT os]))), (7, .lit (.int .i64 (e))), (9, .st true (.arr NT N)), (10, .lit (.int .i64 (0)))], []⟩) ?_ (W.drawPh (id := 6) tys_ok [] mixed [0, 1, 2, 4, 12, 20, 36, 64, 192, 320, 576, 1024, 3072, 5120] [([0, 1, 2, 3, 4, 5, 6, 7, 8, 9, 10], 1, 4095), ([12, 13], 0, 16383)] (by decide +kernel) ?_); rotate_left; (conv => whnf))
 | (refine W.region tys_ok [] ?_; conv => whnf)
 | (refine W.drawAll tys_ok [] mixed rfl ?_; conv => whnf)
 | (refine W.ret ?_; conv => whnf)
 | (refine W.skip ?_; conv => whnf)
 | (refine W.exit ?_; conv => whnf)
 | (refine call_at (al := false) (hmk) rfl rfl rfl rfl ?_; conv => whnf)
 | (refine call_at (al := true) (c1) rfl rfl rfl rfl ?_; conv => whnf)
 | (refine call_at (al := true) (c2) rfl rfl rfl rfl ?_; conv => whnf)
 | (refine call_at (al := false) (lives_at) rfl rfl rfl rfl ?_; conv => whnf)
 | (refine Both.mk ?_ ?_ <;> (conv => whnf))
 | (refine W.cond rfl (fun hb => ?_) (fun hb => ?_) <;> (try simp only [Int.reduceToNat, Int.reduceTDiv, Int.reduceTMod, minL, maxL, pickB, zHB, zSH] at hb) <;> (try (first | (cases hb; done) | exact absurd hb (by decide) | (exfalso; omega) | (omega))))
 | ((with_reducible refine And.intro ?_ ?_); (focus (first | (with_reducible rfl) | omega | rfl | ((try simp only [Int.reduceToNat, Int.reduceTDiv, Int.reduceTMod, minL, maxL, pickB, zHB, zSH, InK, Path.imp, zL] at *); omega))); (conv => whnf))
 | ((with_reducible refine And.intro (Side.out ?_) ?_); rotate_left; (conv => whnf))
 | ((first | refine retF1 ?_ | refine retF2 ?_ | refine subF.leaf ?_ | refine subF.side ?_) <;> (conv => whnf) <;> repeat' (first
 | exact trivial
 | (with_reducible rfl)
 | ((with_reducible refine And.intro ?_ ?_) <;> conv => whnf)
 | omega
 | rfl
 | (refine congrArg (SV.arr _) ?_)
 | (refine congrArg (Value.int _) ?_)
 | (refine congrArg Value.bool ?_)))); all_goals (try unfold Side)
      all_goals try (repeat' (first | (with_reducible rfl) | (with_reducible refine And.intro ?_ ?_) | omega | rfl | exact Or.inl rfl | exact Or.inr rfl | exact of_decide_eq_true rfl | exact Path.imp_of (of_decide_eq_true rfl) | (focus ((try simp only [Int.reduceToNat, Int.reduceTDiv, Int.reduceTMod, minL, maxL, pickB, zHB, zSH, InK, Path.imp, zL] at *); omega)) | (refine app_le rfl ?_; omega)))
      all_goals try (first | exact eQ | exact Path.imp_of ikQ)
      all_goals try refine subF.ok ?_ <;> (conv => whnf) <;> repeat' (first
 | exact trivial
 | (with_reducible rfl)
 | ((with_reducible refine And.intro ?_ ?_) <;> conv => whnf)
 | omega
 | rfl
 | (refine congrArg (SV.arr _) ?_)
 | (refine congrArg (Value.int _) ?_)
 | (refine congrArg Value.bool ?_))
      all_goals try (first | exact eQ | exact Path.imp_of ikQ)
    | false =>
      have c2 := Refuse_full h' hf hg
      have m2 := sound2_at h hz he5 (N0' := []) (by simp)
      refine FnAt.of_body tys_ok Try.func6 (by rfl) rfl Try.ntmps6 (by rw [Try.results6]) (by simp) ?_
  
      repeat' (first
 | refine W.resub (x := Code.seq (Code.seq (Code.region 9 _ _) _) _) ?_ (m2)
 | refine W.seq ?_
 | refine W.block ?_
 | (refine W.resub (x := Code.region 2 _ _) (Γ' := ⟨[(1, .st false (.arr U3 z)), (5, .st true (.sadr (.agg [I64 P, .arr JT l, .arr OT os])))], []⟩) ?_ (W.region tys_ok [] ?_); rotate_left; (conv => whnf))
 | (refine W.resub (x := Code.region 5 _ _) (Γ' := ⟨[(1, .st false (.arr U3 z)), (5, .st true (.sadr (.agg [I64 P, .arr JT l, .arr OT os]))), (7, .lit (.int .i64 (e))), (8, .st true (.sadr (.agg [I64 Q, .arr JT l, .arr OT os])))], []⟩) ?_ (W.region tys_ok [] ?_); rotate_left; (conv => whnf))
 | (refine W.resub (x := Code.region 6 _ _) (Γ' := ⟨[(1, .st false (.arr U3 z)), (5, .st true (.sadr (.agg [I64 P, .arr JT l, .arr OT os]))), (7, .lit (.int .i64 (e))), (9, .st true (.arr NT [])), (10, .lit (.int .i64 (4)))], []⟩) ?_ (W.drawPh (id := 6) tys_ok [] mixed [0, 1, 2, 4, 12, 20, 36, 64, 192, 320, 576, 1024, 3072, 5120] [([0, 1, 2, 3, 4, 5, 6, 7, 8, 9, 10], 1, 4095), ([12, 13], 0, 16383)] (by decide +kernel) ?_); rotate_left; (conv => whnf))
 | (refine W.region tys_ok [] ?_; conv => whnf)
 | (refine W.drawAll tys_ok [] mixed rfl ?_; conv => whnf)
 | (refine W.ret ?_; conv => whnf)
 | (refine W.skip ?_; conv => whnf)
 | (refine W.exit ?_; conv => whnf)
 | (refine call_at (al := false) (hmk) rfl rfl rfl rfl ?_; conv => whnf)
 | (refine call_at (al := true) (c1) rfl rfl rfl rfl ?_; conv => whnf)
 | (refine call_at (al := true) (c2) rfl rfl rfl rfl ?_; conv => whnf)
 | (refine call_at (al := false) (lives_at) rfl rfl rfl rfl ?_; conv => whnf)
 | (refine Both.mk ?_ ?_ <;> (conv => whnf))
 | (refine W.cond rfl (fun hb => ?_) (fun hb => ?_) <;> (try simp only [Int.reduceToNat, Int.reduceTDiv, Int.reduceTMod, minL, maxL, pickB, zHB, zSH] at hb) <;> (try (first | (cases hb; done) | exact absurd hb (by decide) | (exfalso; omega) | (omega))))
 | ((with_reducible refine And.intro ?_ ?_); (focus (first | (with_reducible rfl) | omega | rfl | ((try simp only [Int.reduceToNat, Int.reduceTDiv, Int.reduceTMod, minL, maxL, pickB, zHB, zSH, InK, Path.imp, zL] at *); omega))); (conv => whnf))
 | ((with_reducible refine And.intro (Side.out ?_) ?_); rotate_left; (conv => whnf))
 | ((first | refine retF1 ?_ | refine retF2 ?_ | refine subF.leaf ?_ | refine subF.side ?_) <;> (conv => whnf) <;> repeat' (first
 | exact trivial
 | (with_reducible rfl)
 | ((with_reducible refine And.intro ?_ ?_) <;> conv => whnf)
 | omega
 | rfl
 | (refine congrArg (SV.arr _) ?_)
 | (refine congrArg (Value.int _) ?_)
 | (refine congrArg Value.bool ?_)))); all_goals (try unfold Side)
      all_goals try (repeat' (first | (with_reducible rfl) | (with_reducible refine And.intro ?_ ?_) | omega | rfl | exact Or.inl rfl | exact Or.inr rfl | exact of_decide_eq_true rfl | exact Path.imp_of (of_decide_eq_true rfl) | (focus ((try simp only [Int.reduceToNat, Int.reduceTDiv, Int.reduceTMod, minL, maxL, pickB, zHB, zSH, InK, Path.imp, zL] at *); omega)) | (refine app_le rfl ?_; omega)))
      all_goals try (first | exact eQ | exact Path.imp_of ikQ)
      all_goals try refine subF.ok ?_ <;> (conv => whnf) <;> repeat' (first
 | exact trivial
 | (with_reducible rfl)
 | ((with_reducible refine And.intro ?_ ?_) <;> conv => whnf)
 | omega
 | rfl
 | (refine congrArg (SV.arr _) ?_)
 | (refine congrArg (Value.int _) ?_)
 | (refine congrArg Value.bool ?_))
      all_goals try (first | exact eQ | exact Path.imp_of ikQ)
  · have c2 := Refuse_none h' hf
    have m2 := sound2_at h hz he5 (N0' := []) (by simp)
    refine FnAt.of_body tys_ok Try.func6 (by rfl) rfl Try.ntmps6 (by rw [Try.results6]) (by simp) ?_
  
    repeat' (first
 | refine W.resub (x := Code.seq (Code.seq (Code.region 9 _ _) _) _) ?_ (m2)
 | refine W.seq ?_
 | refine W.block ?_
 | (refine W.resub (x := Code.region 2 _ _) (Γ' := ⟨[(1, .st false (.arr U3 z)), (5, .st true (.sadr (.agg [I64 P, .arr JT l, .arr OT os])))], []⟩) ?_ (W.region tys_ok [] ?_); rotate_left; (conv => whnf))
 | (refine W.resub (x := Code.region 5 _ _) (Γ' := ⟨[(1, .st false (.arr U3 z)), (5, .st true (.sadr (.agg [I64 P, .arr JT l, .arr OT os]))), (7, .lit (.int .i64 (e))), (8, .st true (.sadr (.agg [I64 Q, .arr JT l, .arr OT os])))], []⟩) ?_ (W.region tys_ok [] ?_); rotate_left; (conv => whnf))
 | (refine W.resub (x := Code.region 6 _ _) (Γ' := ⟨[(1, .st false (.arr U3 z)), (5, .st true (.sadr (.agg [I64 P, .arr JT l, .arr OT os]))), (7, .lit (.int .i64 (e))), (9, .st true (.arr NT [])), (10, .lit (.int .i64 (5)))], []⟩) ?_ (W.drawPh (id := 6) tys_ok [] mixed [0, 1, 2, 4, 12, 20, 36, 64, 192, 320, 576, 1024, 3072, 5120] [([0, 1, 2, 3, 4, 5, 6, 7, 8, 9, 10], 1, 4095), ([12, 13], 0, 16383)] (by decide +kernel) ?_); rotate_left; (conv => whnf))
 | (refine W.region tys_ok [] ?_; conv => whnf)
 | (refine W.drawAll tys_ok [] mixed rfl ?_; conv => whnf)
 | (refine W.ret ?_; conv => whnf)
 | (refine W.skip ?_; conv => whnf)
 | (refine W.exit ?_; conv => whnf)
 | (refine call_at (al := false) (hmk) rfl rfl rfl rfl ?_; conv => whnf)
 | (refine call_at (al := true) (c1) rfl rfl rfl rfl ?_; conv => whnf)
 | (refine call_at (al := true) (c2) rfl rfl rfl rfl ?_; conv => whnf)
 | (refine call_at (al := false) (lives_at) rfl rfl rfl rfl ?_; conv => whnf)
 | (refine Both.mk ?_ ?_ <;> (conv => whnf))
 | (refine W.cond rfl (fun hb => ?_) (fun hb => ?_) <;> (try simp only [Int.reduceToNat, Int.reduceTDiv, Int.reduceTMod, minL, maxL, pickB, zHB, zSH] at hb) <;> (try (first | (cases hb; done) | exact absurd hb (by decide) | (exfalso; omega) | (omega))))
 | ((with_reducible refine And.intro ?_ ?_); (focus (first | (with_reducible rfl) | omega | rfl | ((try simp only [Int.reduceToNat, Int.reduceTDiv, Int.reduceTMod, minL, maxL, pickB, zHB, zSH, InK, Path.imp, zL] at *); omega))); (conv => whnf))
 | ((with_reducible refine And.intro (Side.out ?_) ?_); rotate_left; (conv => whnf))
 | ((first | refine retF1 ?_ | refine retF2 ?_ | refine subF.leaf ?_ | refine subF.side ?_) <;> (conv => whnf) <;> repeat' (first
 | exact trivial
 | (with_reducible rfl)
 | ((with_reducible refine And.intro ?_ ?_) <;> conv => whnf)
 | omega
 | rfl
 | (refine congrArg (SV.arr _) ?_)
 | (refine congrArg (Value.int _) ?_)
 | (refine congrArg Value.bool ?_)))); all_goals (try unfold Side)
    all_goals try (repeat' (first | (with_reducible rfl) | (with_reducible refine And.intro ?_ ?_) | omega | rfl | exact Or.inl rfl | exact Or.inr rfl | exact of_decide_eq_true rfl | exact Path.imp_of (of_decide_eq_true rfl) | (focus ((try simp only [Int.reduceToNat, Int.reduceTDiv, Int.reduceTMod, minL, maxL, pickB, zHB, zSH, InK, Path.imp, zL] at *); omega)) | (refine app_le rfl ?_; omega)))
    all_goals try (first | exact eQ | exact Path.imp_of ikQ)
    all_goals try refine subF.ok ?_ <;> (conv => whnf) <;> repeat' (first
 | exact trivial
 | (with_reducible rfl)
 | ((with_reducible refine And.intro ?_ ?_) <;> conv => whnf)
 | omega
 | rfl
 | (refine congrArg (SV.arr _) ?_)
 | (refine congrArg (Value.int _) ?_)
 | (refine congrArg Value.bool ?_))
    all_goals try (first | exact eQ | exact Path.imp_of ikQ)
end Go.Proofs.Ytmfholchenihaaa
