/- Joined of: R9 Re1 Re2 Re3 R12 Re4 Vc37 Vc38. No condition. -/
import Derived.Test.YtkjcnegkdlmapaaJ8
import Derived.Test.YtkjcnegkdlmapaaJ5
import Derived.Test.YtkjcnegkdlmapaaJ4

namespace Go.Proofs.Ytkjcnegkdlmapaa
open Go Go.Vc Go.Rg
set_option linter.unusedVariables false
set_option linter.unusedSimpArgs false
variable {n : Nat} {pet : Bool} {r : Rn}
theorem rflight_in {i : Nat} {l : List Nt} (h : ROk n pet r) (hi : i < n) (hs : r.2.2 ≤ 1000000) (hl0 : l = r.2.1.getD i []) : FnM Try.prog 46 [.padr 1000000000 0, (.lit (.int .i64 (i : Int)))] [(1000000000, .box [.lit (.bool true), .lit (.bool pet), .own 1000000001, .mown 1000000002, (.lit (.int .i64 ((r).2.2 : Int)))]), (1000000001, .row 105 PT true (r).1), (1000000002, .mat 80 91 NT true (r).2.1 none)] (.own 0) [(1000000000, .box [.lit (.bool true), .lit (.bool pet), .own 1000000001, .mown 1000000002, (.lit (.int .i64 ((r).2.2 : Int)))]), (1000000001, .row 105 PT true (r).1), (1000000002, .mat 80 91 NT true (r).2.1 none), (0, .row 91 NT true l)] := by
  have hp : i < r.1.length := by rw [h.len]; exact hi
  have hF : i < r.2.1.length := by rw [h.fln]; exact hi
  have c1 := ris_at (pet := pet) (r := r)
  have c2 := rhas_at (pet := pet) (r := r) (has_of hp).symm
  have c3 := clone_note (xs := l) (by rw [hl0]; have := h.fl i; show (r.2.1.getD i []).length ≤ _; omega)
  have e0 : 0 ≤ (i : Int) ∧ i < r.2.1.length := ⟨by omega, hF⟩
  rw [hl0] at c3 ⊢
  refine FnM.of_body tys_ok Try.func46 (by rfl) rfl Try.ntmps46 (by rw [Try.results46]) (by simp) ?_
  
  repeat' (first
 | refine W.seq ?_
 | refine W.block ?_
 | (refine W.regionM (id := 1) tys_ok [] [1,6] ?_; conv => whnf)
 | (refine W.region tys_ok [] ?_; conv => whnf)
 | (refine W.drawAll tys_ok [] mixed rfl ?_; conv => whnf)
 | (refine W.ret ?_; conv => whnf)
 | (refine W.skip ?_; conv => whnf)
 | (refine W.exit ?_; conv => whnf)
 | (refine callM_at (c1) ?_; conv => whnf)
 | (refine callM_at (c2) ?_; conv => whnf)
 | (refine call_at (al := false) (c3) rfl rfl rfl rfl ?_; conv => whnf)
 | (refine W.cond rfl (fun hb => ?_) (fun hb => ?_) <;> (try simp only [Int.reduceToNat, Int.reduceTDiv, Int.reduceTMod, minL, maxL, pickB, zHB, zSH] at hb) <;> (try (first | (cases hb; done) | exact absurd hb (by decide) | (exfalso; omega) | (omega) | ((simp_all; done)))))
 | (refine Or.inl (And.intro ?_ ?_); (focus (first | exact trivial | exact ⟨rfl, trivial⟩ | (refine ⟨?_, trivial⟩; dsimp only; simp only [Int.reduceToNat, Int.reduceTDiv, Int.reduceTMod, minL, maxL, pickB, zHB, zSH]; omega) | (refine ⟨?_, trivial⟩; dsimp only; (try simp only [Int.reduceToNat, Int.reduceTDiv, Int.reduceTMod, minL, maxL, pickB, zHB, zSH]); (simp_all; done)) | (refine ⟨?_, trivial⟩; dsimp only; (simp only [Int.reduceToNat, Int.reduceTDiv, Int.reduceTMod, minL, maxL, pickB, zHB, zSH]; done)) | (refine ⟨?_, trivial⟩; dsimp only; (simp; done)))); (conv => whnf))
 | (refine Or.inr (And.intro ?_ ?_); (focus (intro h; have h := h.1; dsimp only at h; first | (exact Bool.noConfusion h) | (simp only [Int.reduceToNat, Int.reduceTDiv, Int.reduceTMod, minL, maxL, pickB, zHB, zSH] at h; omega) | ((try simp only [Int.reduceToNat, Int.reduceTDiv, Int.reduceTMod, minL, maxL, pickB, zHB, zSH] at h); (simp_all; done)))); (conv => whnf))
 | ((with_reducible refine And.intro ?_ ?_); (focus (first | (with_reducible rfl) | omega | rfl | ((try simp only [Int.reduceToNat, Int.reduceTDiv, Int.reduceTMod, minL, maxL, pickB, zHB, zSH, InK, Path.imp, zL] at *); omega))); (conv => whnf))
 | ((with_reducible refine And.intro (Side.out ?_) ?_); rotate_left; (conv => whnf))
 | ((first | refine retM1 ?_ | refine retM2 ?_) <;> (conv => whnf) <;> repeat' (first
 | exact trivial
 | (with_reducible rfl)
 | ((with_reducible refine And.intro ?_ ?_) <;> conv => whnf)
 | omega
 | rfl
 | (refine congrArg (SV.arr _) ?_)
 | (refine congrArg (Value.int _) ?_)
 | (refine congrArg Value.bool ?_)))); all_goals (try unfold Side)
  all_goals try (repeat' (first | (with_reducible rfl) | (with_reducible refine And.intro ?_ ?_) | omega | rfl | exact Or.inl rfl | exact Or.inr rfl | exact of_decide_eq_true rfl | exact Path.imp_of (of_decide_eq_true rfl) | (focus ((try simp only [Int.reduceToNat, Int.reduceTDiv, Int.reduceTMod, minL, maxL, pickB, zHB, zSH, InK, Path.imp, zL] at *); omega)) | (refine app_le rfl ?_; omega)))
  all_goals first | exact Path.imp_of e0 | exact Path.imp_of hF | exact hF | skip
end Go.Proofs.Ytkjcnegkdlmapaa
namespace Go.Rg
set_option linter.unusedVariables false
set_option linter.unusedSimpArgs false
abbrev Ct := Int × Int × Int
def bump (k : Int) (c : Ct) : Ct := if k = 1 then (c.1 + 1, c.2.1, c.2.2) else if k = 2 then (c.1, c.2.1 + 1, c.2.2) else (c.1, c.2.1, c.2.2 + 1)
theorem bump_sum {k : Int} {c : Ct} : (bump k c).1 + (bump k c).2.1 + (bump k c).2.2 = c.1 + c.2.1 + c.2.2 + 1 := by
  unfold bump
  split
  · dsimp only; omega
  · split <;> (dsimp only; omega)
def F' (r : Rn) : Nat → List Nt := fun i => r.2.1.getD i []
def pA (_ : Nt) : Int := 1
theorem cs_pA : ∀ {l : List Nt}, cs pA l = l.length
  | [] => rfl
  | x :: l => by rw [cs, cs_pA, List.length_cons]; unfold pA; omega
theorem prv_next {n i : Nat} (h : i < n) : prv n ((i + 1) % n) = i := by
  unfold prv
  by_cases e : i + 1 = n
  · rw [e, Nat.mod_self, if_pos rfl]; omega
  · rw [Nat.mod_eq_of_lt (by omega), if_neg (by omega)]; omega
theorem pB_set {l : List Pe} {i : Nat} {x : Pe} (hi : i < l.length) (j : Nat) : pB (l.set i x) j = if j = i then x.2.1 else pB l j := by
  unfold pB; rw [getD_setP hi]; split <;> rfl
theorem pL_set {l : List Pe} {i : Nat} {x : Pe} (hi : i < l.length) (j : Nat) : pL (l.set i x) j = if j = i then x.2.2.1 else pL l j := by
  unfold pL; rw [getD_setP hi]; split <;> rfl
theorem pN_set {l : List Pe} {i : Nat} {x : Pe} (hi : i < l.length) (j : Nat) : pN (l.set i x) j = if j = i then x.1 else pN l j := by
  unfold pN; rw [getD_setP hi]; split <;> rfl
theorem pV_set {l : List Pe} {i : Nat} {x : Pe} (hi : i < l.length) (j : Nat) : pV (l.set i x) j = if j = i then x.2.2.2.1 else pV l j := by
  unfold pV; rw [getD_setP hi]; split <;> rfl
theorem pO_set {l : List Pe} {i : Nat} {x : Pe} (hi : i < l.length) (j : Nat) : pO (l.set i x) j = if j = i then x.2.2.2.2.1 else pO l j := by
  unfold pO; rw [getD_setP hi]; split <;> rfl
theorem pR_set {l : List Pe} {i : Nat} {x : Pe} (hi : i < l.length) (j : Nat) : pR (l.set i x) j = if j = i then x.2.2.2.2.2.1 else pR l j := by
  unfold pR; rw [getD_setP hi]; split <;> rfl
theorem F_set {l : List (List Nt)} {i : Nat} {x : List Nt} (hi : i < l.length) (j : Nat) : (l.set i x).getD j [] = if j = i then x else l.getD j [] := getD_setF hi
structure Nm (n : Nat) (num : Nat → Int) (r : Rn) : Prop where
  nm : ∀ i, i < n → pN r.1 i = num i
  nv : ∀ i, i < n → pV r.1 i = num i
structure EC (n m0 : Nat) (num : Nat → Int) (M : Int) (r : Rn) (c : Ct) : Prop where
  ok : ROk n false r
  nm : Nm n num r
  ci : ∃ X ph, CI n m0 num M X ph ⟨pB r.1, pL r.1, F' r, c.1, c.2.2⟩
  c2 : c.2.1 = 0
  sent : r.2.2 = c.1 + c.2.2 + sumR (fun i => cs pA (F' r i)) n
variable {n m0 : Nat} {num : Nat → Int} {M : Int} {r : Rn} {c : Ct}
theorem upd_fun {α : Type} {f g : Nat → α} {i : Nat} {x : α} (h : ∀ j, g j = if j = i then x else f j) : g = upd f i x := funext fun j => by rw [h]; rfl
theorem F_send {r : Rn} {i : Nat} {k v : Int} (hi : i < r.2.1.length) : F' (sendR i k v r) = upd (F' r) i (F' r i ++ [(k, v, ())]) := upd_fun fun j => F_set hi j
theorem F_drop {ps : List Pe} {fl : List (List Nt)} {s : Int} {i : Nat} {rest : List Nt} (hi : i < fl.length) : F' (ps, fl.set i rest, s) = upd (F' (ps, fl, s)) i rest := upd_fun fun j => F_set hi j
theorem Nm.set (h : Nm n num r) {i : Nat} {x : Pe} (hi : i < r.1.length) (h1 : x.1 = pN r.1 i) (h2 : x.2.2.2.1 = pV r.1 i) {f : List (List Nt) × Int} : Nm n num (r.1.set i x, f) := by
  refine ⟨fun j hj => ?_, fun j hj => ?_⟩
  · show pN (r.1.set i x) j = _
    rw [pN_set hi]
    split
    · rename_i e; rw [h1, ← e]; exact h.nm j hj
    · exact h.nm j hj
  · show pV (r.1.set i x) j = _
    rw [pV_set hi]
    split
    · rename_i e; rw [h2, ← e]; exact h.nv j hj
    · exact h.nv j hj
theorem EC.begin (hM : Mx n m0 num M) (h : EC n m0 num M r c) {i : Nat} (hi : i < n) (hb : pB r.1 i = false) : EC n m0 num M (beginR i r) c := by
  have hip : i < r.1.length := by rw [h.ok.len]; exact hi
  have hif : i < r.2.1.length := by rw [h.ok.fln]; exact hi
  obtain ⟨X, ph, hc⟩ := h.ci
  obtain ⟨X', ph', hc'⟩ := ci_beg hM hc hi hb
  have hv := h.nm.nv i hi
  have eF : F' (beginR i r) = upd (F' r) i (F' r i ++ [(1, num i, ())]) := by
    unfold beginR
    rw [F_send (r := (setB r.1 i, r.2)) hif, hv]; rfl
  refine ⟨h.ok.begin hi, ?_, ⟨X', ph', ?_⟩, h.c2, ?_⟩
  · have e := h.nm.set (i := i) (x := (pN r.1 i, true, pL r.1 i, pV r.1 i, pO r.1 i, pR r.1 i, pW r.1 i, ())) (f := (beginR i r).2) hip rfl rfl
    exact e
  · have e1 : pB (beginR i r).1 = upd (pB r.1) i true := upd_fun fun j => pB_set hip j
    have e2 : pL (beginR i r).1 = pL r.1 := funext fun j => by
      show pL (setB r.1 i) j = _
      unfold setB
      rw [pL_set hip]
      split
      · rename_i e; rw [e]
      · rfl
    rw [e1, e2, eF]
    exact hc'
  · rw [eF, ap_sum1 hi]
    have := h.sent
    show r.2.2 + 1 = c.1 + c.2.2 + (sumR (fun i => cs pA (F' r i)) n + cs pA [(1, num i, ())])
    rw [this, cs_pA, List.length_singleton]; omega
theorem head_of {l : List Nt} (h : l.length ≠ 0) : l = l.getD 0 N0 :: l.drop 1 := by
  cases l with
  | nil => exact absurd rfl h
  | cons x t => rfl
theorem fd_nil {F : Nat → List Nt} {a b : Nat} {rest : List Nt} : Fd F a b rest [] = upd F a rest := funext fun j => by
  unfold Fd
  by_cases e : j = b
  · rw [e, upd_at, List.append_nil]
  · rw [upd_ne e]
theorem F_deliver {r : Rn} {ps : List Pe} {i b : Nat} {rest : List Nt} {k v s : Int} (hi : i < r.2.1.length) (hb : b < r.2.1.length) : F' (sendR b k v (ps, r.2.1.set i rest, s)) = Fd (F' r) i b rest [(k, v, ())] := by
  rw [F_send (r := (ps, r.2.1.set i rest, s)) (by rw [List.length_set]; exact hb), F_drop hi]; rfl
theorem F_deliver0 {r : Rn} {ps : List Pe} {i b : Nat} {rest : List Nt} {s : Int} (hi : i < r.2.1.length) : F' (ps, r.2.1.set i rest, s) = Fd (F' r) i b rest [] := by
  rw [fd_nil, F_drop hi]; rfl
theorem EC.fin (h : EC n m0 num M r c) {i : Nat} (hi : i < n) {m : Nt} {rest out : List Nt} (hm : F' r i = m :: rest) {r2 : Rn} {c' : Ct} (hok : ROk n false r2) (hnm : Nm n num r2) (hF : F' r2 = Fd (F' r) i ((i + 1) % n) rest out)
    (hs : r2.2.2 = r.2.2 + out.length) (hc : c'.1 + c'.2.2 = c.1 + c.2.2 + 1) (h2 : c'.2.1 = 0) (hci : ∃ X ph, CI n m0 num M X ph ⟨pB r2.1, pL r2.1, F' r2, c'.1, c'.2.2⟩) : EC n m0 num M r2 c' := by
  refine ⟨hok, hnm, hci, h2, ?_⟩
  have hn := h.ok.n0
  rw [hF, fd_sum1 hi (Nat.mod_lt _ hn) hm, cs_pA, hs, h.sent]
  have : pA m = 1 := rfl
  omega
theorem rdel_eq {pet : Bool} {i : Nat} (h : ROk n pet r) (hi : i < n) (hne : (F' r i).length ≠ 0) : rdelK pet (i : Int) r = rdelL pet i r := by
  have e : rdelE (i : Int) r = 0 := by
    unfold rdelE
    rw [if_pos (has_of (by rw [h.len]; exact hi)), Int.toNat_natCast]
    exact if_neg hne
  unfold rdelK
  rw [if_pos e, Int.toNat_natCast]
theorem EC.del (hM : Mx n m0 num M) (h : EC n m0 num M r c) {i : Nat} (hi : i < n) (hne : (F' r i).length ≠ 0) : EC n m0 num M (rdelK false (i : Int) r) (bump ((F' r i).getD 0 N0).1 c) := by
  have hhd := head_of hne
  have hkd := h.ok.head hne rfl
  have hok := h.ok.del (i := (i : Int))
  rw [rdel_eq h.ok hi hne] at hok ⊢
  obtain ⟨m, hmd⟩ : ∃ m, m = (F' r i).getD 0 N0 := ⟨_, rfl⟩
  obtain ⟨rest, hrd⟩ : ∃ rest, rest = (F' r i).drop 1 := ⟨_, rfl⟩
  have hm : F' r i = m :: rest := by rw [hmd, hrd]; exact hhd
  have hkd : m.1 = 1 ∨ m.1 = 3 := by rw [hmd]; exact hkd
  rw [← hmd]
  obtain ⟨b, hbd⟩ : ∃ b, b = (i + 1) % n := ⟨_, rfl⟩
  have hbn : b < n := by rw [hbd]; exact Nat.mod_lt _ h.ok.n0
  have hpb : prv n b = i := by rw [hbd]; exact prv_next hi
  have hfi : i < r.2.1.length := by rw [h.ok.fln]; exact hi
  have hfb : b < r.2.1.length := by rw [h.ok.fln]; exact hbn
  have hpl : b < r.1.length := by rw [h.ok.len]; exact hbn
  have eL : rdelL false i r = changR b m.1 m.2.1 (r.1, r.2.1.set i rest, r.2.2) := by
    unfold rdelL recvR
    rw [if_neg (by decide), h.ok.len, ← hbd, hmd, hrd]; rfl
  rw [eL] at hok ⊢
  obtain ⟨X, ph, hc⟩ := h.ci
  have hmF : (⟨pB r.1, pL r.1, F' r, c.1, c.2.2⟩ : Cn).F (prv n b) = m :: rest := by rw [hpb]; exact hm
  have hnb := h.nm.nm b hbn
  have hvb := h.nm.nv b hbn
  have keep : ∀ {f : List (List Nt) × Int}, Nm n num (r.1, f) := fun {f} => ⟨h.nm.nm, h.nm.nv⟩
  have eL1 : ∀ v, pL (setL r.1 b v) = upd (pL r.1) b v := fun v => upd_fun fun j => pL_set hpl j
  have eB1 : ∀ v, pB (setL r.1 b v) = pB r.1 := fun v => funext fun j => by
    unfold setL; rw [pB_set hpl]; split
    · rename_i e; rw [e]
    · rfl
  have eB2 : pB (setB r.1 b) = upd (pB r.1) b true := upd_fun fun j => pB_set hpl j
  have eL2 : pL (setB r.1 b) = pL r.1 := funext fun j => by
    unfold setB; rw [pL_set hpl]; split
    · rename_i e; rw [e]
    · rfl
  have nL : ∀ {v : Int} {f : List (List Nt) × Int}, Nm n num (setL r.1 b v, f) := fun {v f} => h.nm.set (x := (pN r.1 b, pB r.1 b, v, pV r.1 b, pO r.1 b, pR r.1 b, pW r.1 b, ())) hpl rfl rfl
  have nB : ∀ {f : List (List Nt) × Int}, Nm n num (setB r.1 b, f) := fun {f} => h.nm.set (x := (pN r.1 b, true, pL r.1 b, pV r.1 b, pO r.1 b, pR r.1 b, pW r.1 b, ())) hpl rfl rfl
  have c2 := h.c2
  unfold changR at hok ⊢
  dsimp only at hok ⊢
  rw [hnb] at hok ⊢
  by_cases k3 : m.1 = 3
  · obtain ⟨l1, l2, l3⟩ := ci_lead hM hc hbn hmF k3
    have eb : bump m.1 c = (c.1, c.2.1, c.2.2 + 1) := by unfold bump; rw [if_neg (by omega), if_neg (by omega)]
    rw [eb]
    rw [if_pos k3] at hok ⊢
    by_cases own : m.2.1 = num b
    · rw [if_pos own] at hok ⊢
      refine h.fin hi hm (out := []) hok keep (by rw [← hbd]; exact F_deliver0 hfi) (by simp) (by dsimp only; omega) c2 ⟨X, 3, ?_⟩
      have q := l2 (by rw [← own, l1])
      unfold dlC at q
      rw [hpb] at q
      rw [F_deliver0 (b := b) hfi]
      exact q
    · rw [if_neg own] at hok ⊢
      refine h.fin hi hm (out := [(m.1, m.2.1, ())]) hok nL (by rw [← hbd]; exact F_deliver hfi hfb) rfl (by dsimp only; omega) c2 ⟨X, 2, ?_⟩
      have q := l3 (fun e => own (by rw [l1, e]))
      unfold dlC at q
      rw [hpb] at q
      rw [F_deliver hfi hfb]
      show CI n m0 num M X 2 ⟨pB (setL r.1 b m.2.1), pL (setL r.1 b m.2.1), _, _, _⟩
      rw [eB1, eL1, k3, l1]
      exact q
  · have k1 : m.1 = 1 := by omega
    have eb : bump m.1 c = (c.1 + 1, c.2.1, c.2.2) := by unfold bump; rw [if_pos k1]
    rw [eb]
    rw [if_neg k3] at hok ⊢
    by_cases own : m.2.1 = num b
    · rw [if_pos own] at hok ⊢
      obtain ⟨l1, l2⟩ := ci_own hM hc hbn hmF k1 own
      refine h.fin hi hm (out := [(3, m.2.1, ())]) hok nL (by rw [← hbd]; exact F_deliver hfi hfb) rfl (by dsimp only; omega) c2 ⟨X, 2, ?_⟩
      have q := l2
      unfold dlC at q
      rw [hpb] at q
      rw [F_deliver hfi hfb]
      show CI n m0 num M X 2 ⟨pB (setL r.1 b m.2.1), pL (setL r.1 b m.2.1), _, _, _⟩
      rw [eB1, eL1, own, l1]
      exact q
    · rw [if_neg own] at hok ⊢
      by_cases big : num b < m.2.1
      · rw [if_pos big] at hok ⊢
        have q := ci_fwd hM hc hbn hmF k1 big
        refine h.fin hi hm (out := [(m.1, m.2.1, ())]) hok nB (by rw [← hbd]; exact F_deliver hfi hfb) rfl (by dsimp only; omega) c2 ⟨X, ph, ?_⟩
        unfold dlC at q
        rw [hpb] at q
        rw [F_deliver hfi hfb]
        show CI n m0 num M X ph ⟨pB (setB r.1 b), pL (setB r.1 b), _, _, _⟩
        rw [eB2, eL2, k1]
        exact q
      · rw [if_neg big] at hok ⊢
        have small : m.2.1 < num b := by omega
        by_cases beg : pB r.1 b = true
        · rw [if_pos beg] at hok ⊢
          have q := ci_swa hM hc hbn hmF k1 small beg
          refine h.fin hi hm (out := []) hok keep (by rw [← hbd]; exact F_deliver0 hfi) (by simp) (by dsimp only; omega) c2 ⟨X, ph, ?_⟩
          unfold dlC at q
          rw [hpb] at q
          rw [F_deliver0 (b := b) hfi]
          exact q
        · rw [if_neg beg] at hok ⊢
          have beg : pB r.1 b = false := by simpa using beg
          obtain ⟨X', ph', q⟩ := ci_wake hM hc hbn hmF k1 small beg
          refine h.fin hi hm (out := [(1, pV r.1 b, ())]) hok nB (by rw [← hbd]; exact F_deliver hfi hfb) rfl (by dsimp only; omega) c2 ⟨X', ph', ?_⟩
          unfold dlC at q
          rw [hpb] at q
          unfold beginR
          rw [F_deliver hfi hfb]
          show CI n m0 num M X' ph' ⟨pB (setB r.1 b), pL (setB r.1 b), Fd (F' r) i b rest [(1, pV r.1 b, ())], _, _⟩
          rw [eB2, eL2, hvb]
          exact q
theorem EC.quiet (hM : Mx n m0 num M) (h : EC n m0 num M r c) (hq : ∀ i, i < n → F' r i = []) (hs : ∃ i, i < n ∧ pB r.1 i = true) :
    (∀ i, i < n → pL r.1 i = M) ∧ r.2.2 = c.1 + c.2.1 + c.2.2 ∧ c.2.2 = n ∧ (n : Int) ≤ c.1 ∧ 2 * c.1 ≤ n * (n + 1) := by
  obtain ⟨X, ph, hc⟩ := h.ci
  obtain ⟨q1, q2, q3⟩ := hc.quiet hq hs
  refine ⟨q1, ?_, q2, q3, hc.few⟩
  have e : sumR (fun i => cs pA (F' r i)) n = 0 := by
    rw [sumR_congr (g := fun _ => 0) fun i hi => by rw [hq i hi]; rfl, sumR_const]; omega
  have := h.sent
  have := h.c2
  omega
theorem EC.tot (hM : Mx n m0 num M) (h : EC n m0 num M r c) : c.1 + c.2.1 + c.2.2 ≤ 65 ∧ 0 ≤ c.1 ∧ 0 ≤ c.2.1 ∧ 0 ≤ c.2.2 := by
  obtain ⟨X, ph, hc⟩ := h.ci
  have h1 := hc.few
  have h2 := hc.cl
  have h3 := hc.nn
  have h4 := h.c2
  have h5 : n ≤ 10 := h.ok.n1
  have h6 : (n : Int) * (n + 1) ≤ 10 * 11 := Int.mul_le_mul (by omega) (by omega) (by omega) (by omega)
  dsimp only at h1 h2 h3
  omega
end Go.Rg
namespace Go.Rg
set_option linter.unusedVariables false
set_option linter.unusedSimpArgs false
def pw (ps : List Pe) (i : Nat) : PW := ⟨pV ps i, pO ps i, pL ps i, pR ps i⟩
def p2 (x : Nt) : Int := if x.1 = 2 then 1 else 0
theorem p2_nn (x : Nt) : 0 ≤ p2 x := by unfold p2; split <;> omega
def cD (n : Nat) (p : Nt → Int) (t : Net) : Int := sumR (fun i => cs p ((t.H i).take (t.D i))) n
structure EP (n : Nat) (num : Nat → Int) (M : Int) (R : Nat) (r : Rn) (c : Ct) : Prop where
  ok : ROk n true r
  ni : ∃ t : Net, NI n num M R t ∧ (∀ i, i < n → t.B i = pB r.1 i ∧ t.S i = pw r.1 i ∧ t.F i = F' r i) ∧ (c.1 = cD n p1 t ∧ c.2.1 = cD n p2 t ∧ c.2.2 = cD n p3 t) ∧ r.2.2 = sumR (fun i => ((t.H i).length : Int)) n
variable {n m0 : Nat} {num : Nat → Int} {M : Int} {R : Nat} {r : Rn} {c : Ct}
theorem gpre_kd {q i : Nat} {x : Nt} : ∀ {r : Nat}, x ∈ gpre n num r i → x.1 = 1 ∨ x.1 = 2
  | 0, h => by cases h
  | r + 1, h => by
    rw [gpre, List.mem_append] at h
    rcases h with h | h
    · exact gpre_kd (q := q) h
    · simp only [List.mem_cons, List.not_mem_nil, or_false] at h
      rcases h with rfl | rfl
      · exact .inl rfl
      · exact .inr rfl
theorem gAll_kd {i : Nat} {x : Nt} (h : x ∈ gAll n num M R i) : x.1 = 1 ∨ x.1 = 2 ∨ x.1 = 3 := by
  unfold gAll at h
  rw [List.mem_append] at h
  rcases h with h | h
  · rcases gpre_kd (q := 0) h with h | h
    · exact .inl h
    · exact .inr (.inl h)
  · simp only [List.mem_cons, List.not_mem_nil, or_false] at h
    rcases h with rfl | rfl
    · exact .inl rfl
    · exact .inr (.inr rfl)
theorem gpre_cs {i : Nat} : ∀ {r : Nat}, cs p1 (gpre n num r i) = r ∧ cs p2 (gpre n num r i) = r ∧ cs p3 (gpre n num r i) = 0
  | 0 => ⟨rfl, rfl, rfl⟩
  | r + 1 => by
    obtain ⟨a, b, d⟩ := gpre_cs (i := i) (r := r)
    have e : ∀ x y : Int, cs p1 [(1, x, ()), (2, y, ())] = 1 ∧ cs p2 [(1, x, ()), (2, y, ())] = 1 ∧ cs p3 [(1, x, ()), (2, y, ())] = 0 := fun x y => ⟨rfl, rfl, rfl⟩
    obtain ⟨e1, e2, e3⟩ := e (Cr n (rd n num r).1 (rd n num r).2 i) (Pr n (rd n num r).1 (rd n num r).2 i)
    rw [gpre, cs_app, cs_app, cs_app, a, b, d, e1, e2, e3]
    omega
theorem gAll_cs {i : Nat} : cs p1 (gAll n num M R i) = R + 1 ∧ cs p2 (gAll n num M R i) = R ∧ cs p3 (gAll n num M R i) = 1 := by
  obtain ⟨a, b, d⟩ := gpre_cs (n := n) (num := num) (i := i) (r := R)
  have e : cs p1 [((1 : Int), M, ()), ((3 : Int), M, ())] = 1 ∧ cs p2 [((1 : Int), M, ()), ((3 : Int), M, ())] = 0 ∧ cs p3 [((1 : Int), M, ()), ((3 : Int), M, ())] = 1 := ⟨rfl, rfl, rfl⟩
  obtain ⟨e1, e2, e3⟩ := e
  unfold gAll
  rw [cs_app, cs_app, cs_app, a, b, d, e1, e2, e3]
  omega
theorem cs_three : ∀ {l : List Nt}, (∀ x ∈ l, x.1 = 1 ∨ x.1 = 2 ∨ x.1 = 3) → cs p1 l + cs p2 l + cs p3 l = l.length
  | [], _ => rfl
  | x :: l, h => by
    have h1 := cs_three (l := l) fun y hy => h y (List.mem_cons_of_mem _ hy)
    have h2 : p1 x + p2 x + p3 x = 1 := by
      unfold p1 p2 p3
      rcases h x List.mem_cons_self with e | e | e <;> rw [e] <;> rfl
    rw [cs, cs, cs, List.length_cons]
    omega
theorem EP.kind (h : EP n num M R r c) {i : Nat} (hi : i < n) {x : Nt} (hx : x ∈ F' r i) : x.1 = 1 ∨ x.1 = 2 ∨ x.1 = 3 := by
  obtain ⟨t, ht, hr, _⟩ := h.ni
  rw [← (hr i hi).2.2, (ht.way i hi).1] at hx
  exact gAll_kd ((ht.pre i hi).subset (List.mem_of_mem_drop hx))
theorem setB_pw {ps : List Pe} {i : Nat} (hi : i < ps.length) (j : Nat) : pw (setB ps i) j = pw ps j := by
  unfold setB pw
  rw [pV_set hi, pO_set hi, pL_set hi, pR_set hi]
  split
  · rename_i e; rw [e]
  · rfl
theorem EP.begin (hl : Last n num M R) (h : EP n num M R r c) {i : Nat} (hi : i < n) (hb : pB r.1 i = false) : EP n num M R (beginR i r) c := by
  obtain ⟨t, ht, hr, hc, hs⟩ := h.ni
  have hip : i < r.1.length := by rw [h.ok.len]; exact hi
  have hif : i < r.2.1.length := by rw [h.ok.fln]; exact hi
  have hbt : t.B i = false := by rw [(hr i hi).1]; exact hb
  obtain ⟨o1, o2, o3⟩ := ht.off i hi hbt
  have hv : pV r.1 i = num i := by
    have := (hr i hi).2.1
    rw [o3] at this
    exact (congrArg PW.val this).symm
  have hD : t.D i = 0 := by have := (ht.way i hi).2; rw [o1] at this; simpa using this
  refine ⟨h.ok.begin hi, begN num i t, ni_beg hl ht hi hbt, fun j hj => ⟨?_, ?_, ?_⟩, ?_, ?_⟩
  · show upd t.B i true j = pB (setB r.1 i) j
    unfold setB
    rw [pB_set hip]
    unfold upd
    split
    · rfl
    · exact (hr j hj).1
  · show t.S j = pw (setB r.1 i) j
    rw [setB_pw hip]; exact (hr j hj).2.1
  · show upd t.F i (t.F i ++ [(1, num i, ())]) j = F' (sendR i 1 (pV r.1 i) (setB r.1 i, r.2)) j
    rw [F_send (r := (setB r.1 i, r.2)) hif, hv]
    unfold upd
    split
    · rw [(hr i hi).2.2]; rfl
    · exact (hr j hj).2.2
  · have e : ∀ p, cD n p (begN num i t) = cD n p t := fun p => sumR_congr fun j hj => by
      show cs p ((upd t.H i (t.H i ++ [(1, num i, ())]) j).take (t.D j)) = _
      unfold upd
      split
      · rename_i e; rw [e, hD]; rfl
      · rfl
    rw [e, e, e]; exact hc
  · show r.2.2 + 1 = sumR (fun j => ((upd t.H i (t.H i ++ [(1, num i, ())]) j).length : Int)) n
    have e : sumR (fun j => ((upd t.H i (t.H i ++ [(1, num i, ())]) j).length : Int)) n = sumR (fun j => ((t.H j).length : Int) + 1 * ind i j) n := sumR_congr fun j hj => by
      unfold upd ind
      split
      · rename_i e; rw [e, List.length_append, List.length_singleton]; omega
      · omega
    rw [hs, e, sumR_add, sumR_pick hi]
theorem peter_eq {b : Nat} (hb : b < r.1.length) {k v : Int} (hk : k = 1 ∨ k = 2 ∨ k = 3) :
    (∀ j, pB (peterS b k v r).1 j = pB r.1 j) ∧ (∀ j, pw (peterS b k v r).1 j = if j = b then (peS (pw r.1 b) (k, v, ())).1 else pw r.1 j) ∧
    (∀ j, b < r.2.1.length → F' (peterS b k v r) j = if j = b then F' r b ++ (peS (pw r.1 b) (k, v, ())).2 else F' r j) ∧ (peterS b k v r).2.2 = r.2.2 + ((peS (pw r.1 b) (k, v, ())).2.length : Int) := by
  have fs : ∀ {ps : List Pe} {k v : Int} j, b < r.2.1.length → F' (sendR b k v (ps, r.2)) j = if j = b then F' r b ++ [(k, v, ())] else F' r j := fun {ps k v} j hbf => by
    rw [F_send (r := (ps, r.2)) hbf]; rfl
  have keepB : ∀ {x : Pe} j, x.2.1 = pB r.1 b → pB (r.1.set b x) j = pB r.1 j := fun {x} j hx => by
    rw [pB_set hb]; split
    · rename_i e; rw [hx, e]
    · rfl
  have spw : ∀ {x : Pe} j, pw (r.1.set b x) j = if j = b then ⟨x.2.2.2.1, x.2.2.2.2.1, x.2.2.1, x.2.2.2.2.2.1⟩ else pw r.1 j := fun {x} j => by
    unfold pw
    rw [pV_set hb, pO_set hb, pL_set hb, pR_set hb]
    split <;> rfl
  have same : ∀ j, pw r.1 j = if j = b then pw r.1 b else pw r.1 j := fun j => by
    split
    · rename_i e; rw [e]
    · rfl
  have noF : ∀ j, F' r j = if j = b then F' r b ++ [] else F' r j := fun j => by
    split
    · rename_i e; rw [e, List.append_nil]
    · rfl
  have eL : (pw r.1 b).leader = pL r.1 b := rfl
  have eV : (pw r.1 b).val = pV r.1 b := rfl
  have eO : (pw r.1 b).noted = pO r.1 b := rfl
  have eR : (pw r.1 b).psv = pR r.1 b := rfl
  unfold Go.Rg.peterS peS
  dsimp only
  rw [eL, eV, eO, eR]
  by_cases k3 : k = 3
  · rw [if_pos k3, if_pos k3]
    by_cases l0 : pL r.1 b = 0
    · rw [if_pos l0, if_pos l0]
      refine ⟨fun j => keepB j rfl, fun j => spw j, fun j hf => ?_, rfl⟩
      rw [← k3]
      exact fs j hf
    · rw [if_neg l0, if_neg l0]
      exact ⟨fun _ => rfl, same, fun j _ => noF j, (Int.add_zero _).symm⟩
  · rw [if_neg k3, if_neg k3]
    by_cases pr : pR r.1 b = true
    · rw [if_pos pr, if_pos pr]
      exact ⟨fun _ => rfl, same, fun j hf => fs j hf, rfl⟩
    · rw [if_neg pr, if_neg pr]
      by_cases k1 : k = 1
      · rw [if_pos k1]
        by_cases hv : v = pV r.1 b
        · rw [if_pos hv, if_pos ⟨k1, hv⟩]
          exact ⟨fun j => keepB j rfl, fun j => spw j, fun j hf => fs j hf, rfl⟩
        · rw [if_neg hv, if_neg (fun c : k = 1 ∧ v = pV r.1 b => hv c.2), if_pos k1]
          exact ⟨fun j => keepB j rfl, fun j => spw j, fun j hf => fs j hf, rfl⟩
      · rw [if_neg k1, if_neg (fun c : k = 1 ∧ v = pV r.1 b => k1 c.1), if_neg k1]
        by_cases hv : pV r.1 b < pO r.1 b ∧ v < pO r.1 b
        · rw [if_pos hv, if_pos hv]
          exact ⟨fun j => keepB j rfl, fun j => spw j, fun j hf => fs j hf, rfl⟩
        · rw [if_neg hv, if_neg hv]
          exact ⟨fun j => keepB j rfl, fun j => spw j, fun j _ => noF j, (Int.add_zero _).symm⟩
theorem cD_del {t : Net} {b i : Nat} (hi : i < n) (hb : b < n) (hpb : prv n b = i) {m : Nt} {rest : List Nt} (hw : ∀ j, j < n → t.F j = (t.H j).drop (t.D j) ∧ t.D j ≤ (t.H j).length) (hm : t.F i = m :: rest) {p : Nt → Int} : cD n p (delN n b m rest t) = cD n p t + p m := by
  have e : cD n p (delN n b m rest t) = sumR (fun j => cs p ((t.H j).take (t.D j)) + p m * ind i j) n := sumR_congr fun j hj => by
    obtain ⟨w1, w2⟩ := hw j hj
    have eH : ∃ o, (delN n b m rest t).H j = t.H j ++ o := by
      show ∃ o, upd t.H b (t.H b ++ (peS (t.S b) m).2) j = t.H j ++ o
      unfold upd
      split
      · rename_i e; rw [e]; exact ⟨_, rfl⟩
      · exact ⟨[], (List.append_nil _).symm⟩
    obtain ⟨o, eH⟩ := eH
    have eD : (delN n b m rest t).D j = if j = i then t.D i + 1 else t.D j := by
      show upd t.D (prv n b) (t.D (prv n b) + 1) j = _
      rw [hpb]; rfl
    rw [eH, eD]
    unfold ind
    by_cases e : j = i
    · subst e
      rw [if_pos rfl, if_pos rfl]
      rw [hm] at w1
      obtain ⟨k1, k2, k3⟩ := take_more w1.symm
      rw [List.take_append_of_le_length (by omega), k1, cs_app, cs, cs]; omega
    · rw [if_neg e, if_neg e, List.take_append_of_le_length w2]; omega
  rw [e, sumR_add, sumR_pick hi]; rfl
theorem bump_is {m : Nt} (h : m.1 = 1 ∨ m.1 = 2 ∨ m.1 = 3) : bump m.1 c = (c.1 + p1 m, c.2.1 + p2 m, c.2.2 + p3 m) := by
  unfold bump p1 p2 p3
  rcases h with e | e | e
  · rw [if_pos e, if_pos e, if_neg (by omega), if_neg (by omega), Int.add_zero, Int.add_zero]
  · rw [if_neg (by omega), if_pos e, if_neg (by omega), if_pos e, if_neg (by omega), Int.add_zero, Int.add_zero]
  · rw [if_neg (by omega), if_neg (by omega), if_neg (by omega), if_neg (by omega), if_pos e, Int.add_zero, Int.add_zero]
theorem EP.step (hl : Last n num M R) (h : EP n num M R r c) {i b : Nat} (hi : i < n) (hb : b < n) (hpb : prv n b = i) (hB : pB r.1 b = true) {m : Nt} {rest : List Nt} (hm : F' r i = m :: rest) :
    EP n num M R (peterS b m.1 m.2.1 (r.1, r.2.1.set i rest, r.2.2)) (bump m.1 c) := by
  have hkd := h.kind hi (by rw [hm]; exact List.mem_cons_self)
  have hok : ROk n true (r.1, r.2.1.set i rest, r.2.2) := by
    have := h.ok.drop hi
    have e : (r.2.1.getD i []).drop 1 = rest := by
      have hm' : r.2.1.getD i [] = m :: rest := hm
      rw [hm']; rfl
    rwa [e] at this
  obtain ⟨t, ht, hr, hc, hs⟩ := h.ni
  have hfi : i < r.2.1.length := by rw [h.ok.fln]; exact hi
  have hfb : b < r.2.1.length := by rw [h.ok.fln]; exact hb
  have hpl : b < r.1.length := by rw [h.ok.len]; exact hb
  obtain ⟨q1, q2, q3, q4⟩ := peter_eq (r := (r.1, r.2.1.set i rest, r.2.2)) (b := b) hpl (v := m.2.1) hkd
  have hmt : t.F (prv n b) = m :: rest := by rw [hpb, (hr i hi).2.2]; exact hm
  have hBt : t.B b = true := by rw [(hr b hb).1]; exact hB
  have hSb : t.S b = pw r.1 b := (hr b hb).2.1
  have eF : ∀ j, j < n → upd t.F i rest j = F' (r.1, r.2.1.set i rest, r.2.2) j := fun j hj => by
    rw [F_drop hfi]
    unfold upd
    split
    · rfl
    · exact (hr j hj).2.2
  have hlen := q4
  refine ⟨hok.peterS hb, delN n b m rest t, ni_del hl ht hb hBt hmt, fun j hj => ⟨?_, ?_, ?_⟩, ?_, ?_⟩
  · rw [q1]; exact (hr j hj).1
  · rw [q2]
    show upd t.S b (peS (t.S b) m).1 j = _
    rw [hSb]
    unfold upd
    split
    · rfl
    · exact (hr j hj).2.1
  · rw [q3 j (by rw [List.length_set]; exact hfb)]
    show upd (upd t.F (prv n b) rest) b (upd t.F (prv n b) rest b ++ (peS (t.S b) m).2) j = _
    rw [hpb, eF b hb, hSb]
    by_cases e : j = b
    · rw [e, upd_at, if_pos rfl]
    · rw [upd_ne e, if_neg e]; exact eF j hj
  · rw [bump_is hkd, cD_del hi hb hpb ht.way (by rw [← hpb]; exact hmt), cD_del hi hb hpb ht.way (by rw [← hpb]; exact hmt), cD_del hi hb hpb ht.way (by rw [← hpb]; exact hmt), hc.1, hc.2.1, hc.2.2]
    exact ⟨rfl, rfl, rfl⟩
  · have e : sumR (fun j => (((delN n b m rest t).H j).length : Int)) n = sumR (fun j => ((t.H j).length : Int) + ((peS (t.S b) m).2.length : Int) * ind b j) n := sumR_congr fun j hj => by
      show ((upd t.H b (t.H b ++ (peS (t.S b) m).2) j).length : Int) = _
      unfold upd ind
      split
      · rename_i e; rw [e, List.length_append]; omega
      · omega
    rw [e, sumR_add, sumR_pick hb, ← hs, hSb]
    exact q4
theorem wake_drop {b i : Nat} {m : Nt} {rest : List Nt} (hi : i < r.2.1.length) (hb : b < r.2.1.length) (hm : F' r i = m :: rest) :
    ∃ rest', F' (wakeR b r) i = m :: rest' ∧ wakeR b (r.1, r.2.1.set i rest, r.2.2) = ((wakeR b r).1, (wakeR b r).2.1.set i rest', (wakeR b r).2.2) := by
  unfold wakeR
  dsimp only
  by_cases hB : pB r.1 b = true
  · rw [if_pos hB, if_pos hB]; exact ⟨rest, hm, rfl⟩
  · rw [if_neg hB, if_neg hB]
    have eF : F' (beginR b r) = upd (F' r) b (F' r b ++ [(1, pV r.1 b, ())]) := by
      unfold beginR
      rw [F_send (r := (setB r.1 b, r.2)) hb]; rfl
    by_cases e : i = b
    · subst e
      refine ⟨rest ++ [(1, pV r.1 i, ())], by rw [eF, upd_at, hm]; rfl, ?_⟩
      unfold beginR sendR
      dsimp only
      rw [List.set_set, List.set_set]
      have e2 : (r.2.1.set i rest).getD i [] = rest := by rw [F_set hi, if_pos rfl]
      rw [e2]
    · refine ⟨rest, by rw [eF, upd_ne e]; exact hm, ?_⟩
      unfold beginR sendR
      dsimp only
      have e2 : (r.2.1.set i rest).getD b [] = r.2.1.getD b [] := by rw [F_set hi, if_neg fun c => e c.symm]
      rw [e2, List.set_comm _ _ e]
theorem EP.del (hl : Last n num M R) (h : EP n num M R r c) {i : Nat} (hi : i < n) (hne : (F' r i).length ≠ 0) : EP n num M R (rdelK true (i : Int) r) (bump ((F' r i).getD 0 N0).1 c) := by
  have hhd := head_of hne
  rw [rdel_eq h.ok hi hne]
  obtain ⟨m, hmd⟩ : ∃ m, m = (F' r i).getD 0 N0 := ⟨_, rfl⟩
  obtain ⟨rest, hrd⟩ : ∃ rest, rest = (F' r i).drop 1 := ⟨_, rfl⟩
  have hm : F' r i = m :: rest := by rw [hmd, hrd]; exact hhd
  rw [← hmd]
  obtain ⟨b, hbd⟩ : ∃ b, b = (i + 1) % n := ⟨_, rfl⟩
  have hbn : b < n := by rw [hbd]; exact Nat.mod_lt _ h.ok.n0
  have hpb : prv n b = i := by rw [hbd]; exact prv_next hi
  have hfi : i < r.2.1.length := by rw [h.ok.fln]; exact hi
  have hfb : b < r.2.1.length := by rw [h.ok.fln]; exact hbn
  have hpl : b < r.1.length := by rw [h.ok.len]; exact hbn
  have eL : rdelL true i r = peterS b m.1 m.2.1 (wakeR b (r.1, r.2.1.set i rest, r.2.2)) := by
    unfold rdelL recvR
    rw [if_pos rfl, h.ok.len, ← hbd, hmd, hrd]; rfl
  obtain ⟨rest', w1, w2⟩ := wake_drop hfi hfb hm
  rw [eL, w2]
  have hw : EP n num M R (wakeR b r) c := by
    unfold wakeR
    split
    · exact h
    · rename_i hB
      exact h.begin hl hbn (by simpa using hB)
  refine hw.step hl hi hbn hpb ?_ w1
  unfold wakeR
  split
  · rename_i hB; exact hB
  · show pB (setB r.1 b) b = true
    unfold setB
    rw [pB_set hpl, if_pos rfl]
theorem EP.leader (hl : Last n num M R) (h : EP n num M R r c) {i : Nat} (hi : i < n) : pL r.1 i = 0 ∨ pL r.1 i = M := by
  obtain ⟨t, ht, hr, _⟩ := h.ni
  have e : (t.S i).leader = pL r.1 i := by rw [(hr i hi).2.1]; rfl
  rw [← e]
  exact ht.leader hl hi
theorem EP.quiet (hl : Last n num M R) (h : EP n num M R r c) (hq : ∀ i, i < n → F' r i = []) (hs : ∃ i, i < n ∧ pB r.1 i = true) :
    (∀ i, i < n → pL r.1 i = M) ∧ r.2.2 = c.1 + c.2.1 + c.2.2 ∧ c.2.2 = n ∧ c.1 + c.2.1 = n * (2 * R + 1) := by
  obtain ⟨t, ht, hr, hc, hsn⟩ := h.ni
  obtain ⟨i0, hi0, hb0⟩ := hs
  have q := ht.quiet hl (fun i hi => by rw [(hr i hi).2.2]; exact hq i hi) ⟨i0, hi0, by rw [(hr i0 hi0).1]; exact hb0⟩
  have e : ∀ p, cD n p t = sumR (fun i => cs p (gAll n num M R i)) n := fun p => sumR_congr fun i hi => by
    obtain ⟨q1, q2, _⟩ := q i hi
    rw [q1, q2, List.take_of_length_le (by rw [gAll_len]; omega)]
  have e1 : c.1 = (R + 1) * n := by
    rw [hc.1, e, sumR_congr (g := fun _ => (R : Int) + 1) fun i _ => gAll_cs.1, sumR_const]
  have e2 : c.2.1 = R * n := by
    rw [hc.2.1, e, sumR_congr (g := fun _ => (R : Int)) fun i _ => gAll_cs.2.1, sumR_const]
  have e3 : c.2.2 = n := by
    rw [hc.2.2, e, sumR_congr (g := fun _ => (1 : Int)) fun i _ => gAll_cs.2.2, sumR_const]; omega
  have e4 : r.2.2 = (2 * R + 2) * n := by
    rw [hsn, sumR_congr (g := fun _ => (2 : Int) * R + 2) fun i hi => by
      rw [(q i hi).1, gAll_len]; omega, sumR_const]
  have x1 : ((R : Int) + 1) * n = R * n + n := by rw [Int.add_mul, Int.one_mul]
  have x2 : (2 * (R : Int) + 2) * n = 2 * (R * n) + 2 * n := by rw [Int.add_mul, Int.mul_assoc]
  have x3 : (n : Int) * (2 * R + 1) = 2 * (R * n) + n := by rw [Int.mul_comm, Int.add_mul, Int.mul_assoc, Int.one_mul]
  refine ⟨fun i hi => ?_, ?_, e3, ?_⟩
  · have e : (t.S i).leader = pL r.1 i := by rw [(hr i hi).2.1]; rfl
    rw [← e]; exact (q i hi).2.2
  · rw [e1, e2, e3, e4, x1, x2]; omega
  · rw [e1, e2, x1, x3]; omega
theorem EP.tot (h : EP n num M R r c) (hR : 2 ^ R ≤ n) : c.1 + c.2.1 + c.2.2 ≤ 80 ∧ 0 ≤ c.1 ∧ 0 ≤ c.2.1 ∧ 0 ≤ c.2.2 := by
  obtain ⟨t, ht, hr, hc, hsn⟩ := h.ni
  have h5 : n ≤ 10 := h.ok.n1
  have hR3 : R ≤ 3 := Classical.byContradiction fun hc => by
    have : 2 ^ 4 ≤ 2 ^ R := Nat.pow_le_pow_right (by decide) (by omega)
    omega
  have s : ∀ i, i < n → cs p1 ((t.H i).take (t.D i)) + cs p2 ((t.H i).take (t.D i)) + cs p3 ((t.H i).take (t.D i)) ≤ 8 := fun i hi => by
    rw [cs_three fun x hx => gAll_kd ((ht.pre i hi).subset (List.mem_of_mem_take hx))]
    have h1 := (ht.pre i hi).length_le
    rw [gAll_len] at h1
    have h2 := List.length_take_le (t.D i) (t.H i)
    rw [List.length_take]
    omega
  have s2 : sumR (fun i => cs p1 ((t.H i).take (t.D i)) + cs p2 ((t.H i).take (t.D i)) + cs p3 ((t.H i).take (t.D i))) n ≤ sumR (fun _ => 8) n := sumR_le s
  rw [sumR_add (f := fun i => cs p1 ((t.H i).take (t.D i)) + cs p2 ((t.H i).take (t.D i))), sumR_add, sumR_const] at s2
  have g : ∀ p : Nt → Int, (∀ x, 0 ≤ p x) → 0 ≤ cD n p t := fun p hp => sumR_nn fun i _ => cs_nn hp
  have g1 := g p1 p1_nn
  have g2 := g p2 p2_nn
  have g3 := g p3 p3_nn
  have s3 : cD n p1 t + cD n p2 t + cD n p3 t ≤ 8 * n := s2
  rw [hc.1, hc.2.1, hc.2.2]
  omega
end Go.Rg
namespace Go.Rg
set_option linter.unusedVariables false
set_option linter.unusedSimpArgs false
structure El (n m0 : Nat) (num : Nat → Int) (M : Int) (R : Nat) : Prop where
  mx : Mx n m0 num M
  last : Last n num M R
  rr : 2 ^ R ≤ n
structure EI (pet : Bool) (n m0 : Nat) (num : Nat → Int) (M : Int) (R : Nat) (r : Rn) (c : Ct) : Prop where
  ec : pet = false → EC n m0 num M r c
  ep : pet = true → EP n num M R r c
  some : ∃ i, i < n ∧ pB r.1 i = true
def fin (pet : Bool) (n R : Nat) (c : Ct) : Prop := c.2.2 = n ∧ (pet = false → c.2.1 = 0 ∧ (n : Int) ≤ c.1 ∧ 2 * c.1 ≤ n * (n + 1)) ∧ (pet = true → c.1 + c.2.1 = n * (2 * R + 1))
variable {pet : Bool} {n m0 : Nat} {num : Nat → Int} {M : Int} {R : Nat} {r : Rn} {c : Ct}
theorem EI.ok (h : EI pet n m0 num M R r c) : ROk n pet r := by
  cases pet with
  | false => exact (h.ec rfl).ok
  | true => exact (h.ep rfl).ok
theorem begin_some {i : Nat} (hi : i < r.1.length) (j : Nat) : pB (beginR i r).1 j = if j = i then true else pB r.1 j := by
  show pB (setB r.1 i) j = _
  unfold setB
  rw [pB_set hi]
theorem pB_keep {l : List Pe} {i : Nat} {x : Pe} (hi : i < l.length) (hx : pB l i = true → x.2.1 = true) {j : Nat} (h : pB l j = true) : pB (l.set i x) j = true := by
  rw [pB_set hi]
  split
  · rename_i e; rw [e] at h; exact hx h
  · exact h
theorem keepL {ps : List Pe} {i j : Nat} {v : Int} (hi : i < ps.length) (h : pB ps j = true) : pB (setL ps i v) j = true := by
  unfold setL; refine pB_keep hi ?_ h; exact fun q => q
theorem keepNo {ps : List Pe} {i j : Nat} {v : Int} (hi : i < ps.length) (h : pB ps j = true) : pB (setNo ps i v) j = true := by
  unfold setNo; refine pB_keep hi ?_ h; exact fun q => q
theorem keepV {ps : List Pe} {i j : Nat} (hi : i < ps.length) (h : pB ps j = true) : pB (setV ps i) j = true := by
  unfold setV; refine pB_keep hi ?_ h; exact fun q => q
theorem keepR {ps : List Pe} {i j : Nat} (hi : i < ps.length) (h : pB ps j = true) : pB (setR ps i) j = true := by
  unfold setR; refine pB_keep hi ?_ h; exact fun q => q
theorem keepB {ps : List Pe} {i j : Nat} (hi : i < ps.length) (h : pB ps j = true) : pB (setB ps i) j = true := pB_keep hi (fun _ => rfl) h
theorem recv_keep {i : Nat} {k v : Int} (hi : i < r.1.length) {j : Nat} (h : pB r.1 j = true) : pB (recvR pet i k v r).1 j = true := by
  have hbeg : pB (beginR i r).1 j = true := by rw [begin_some hi]; split <;> first | rfl | exact h
  have hp : ∀ r : Rn, i < r.1.length → pB r.1 j = true → pB (peterS i k v r).1 j = true := fun r hi h => by
    unfold Go.Rg.peterS
    repeat' split
    all_goals first
      | exact h
      | exact keepL hi h
      | exact keepNo hi h
      | exact keepV hi h
      | exact keepR hi h
  have hr : i < (beginR i r).1.length := by show i < (setB r.1 i).length; rw [setB_len]; exact hi
  unfold recvR peterR wakeR changR
  repeat' split
  all_goals first
    | exact h
    | exact hp _ hi h
    | exact hp _ hr hbeg
    | exact hbeg
    | exact keepL hi h
    | exact keepB hi h
theorem EI.start (hl : El n m0 num M R) (h : EI pet n m0 num M R r c) {i : Nat} (hi : i < n) : EI pet n m0 num M R (startK (i : Int) r) c ∧ (startE (i : Int) r = 0 ∨ startE (i : Int) r = 5) := by
  have hip : i < r.1.length := by rw [h.ok.len]; exact hi
  have e1 : startE (i : Int) r = if pB r.1 i = true then 5 else 0 := by
    unfold startE
    rw [if_pos (has_of hip), Int.toNat_natCast]
  unfold startK
  rw [e1, Int.toNat_natCast]
  by_cases hb : pB r.1 i = true
  · rw [if_pos hb, if_neg (by decide)]; exact ⟨h, .inr rfl⟩
  · rw [if_neg hb, if_pos rfl]
    have hb' : pB r.1 i = false := by simpa using hb
    exact ⟨⟨fun hp => (h.ec hp).begin hl.mx hi hb', fun hp => (h.ep hp).begin hl.last hi hb', i, hi, by rw [begin_some hip, if_pos rfl]⟩, .inl rfl⟩
theorem EI.del (hl : El n m0 num M R) (h : EI pet n m0 num M R r c) {i : Nat} (hi : i < n) (hne : (F' r i).length ≠ 0) : EI pet n m0 num M R (rdelK pet (i : Int) r) (bump ((F' r i).getD 0 N0).1 c) ∧ rdelE (i : Int) r = 0 := by
  refine ⟨⟨fun hp => ?_, fun hp => ?_, ?_⟩, ?_⟩
  · subst hp; exact (h.ec rfl).del hl.mx hi hne
  · subst hp; exact (h.ep rfl).del hl.last hi hne
  · obtain ⟨j, hj, hb⟩ := h.some
    refine ⟨j, hj, ?_⟩
    rw [rdel_eq h.ok hi hne]
    unfold rdelL
    exact recv_keep (by rw [h.ok.len]; exact Nat.mod_lt _ h.ok.n0) hb
  · unfold rdelE
    rw [if_pos (has_of (by rw [h.ok.len]; exact hi)), Int.toNat_natCast]
    exact if_neg hne
theorem EI.kind (h : EI pet n m0 num M R r c) {i : Nat} (hi : i < n) (hne : (F' r i).length ≠ 0) : ((F' r i).getD 0 N0).1 = 1 ∨ ((F' r i).getD 0 N0).1 = 2 ∨ ((F' r i).getD 0 N0).1 = 3 := by
  cases pet with
  | false =>
    rcases (h.ec rfl).ok.head hne rfl with e | e
    · exact .inl e
    · exact .inr (.inr e)
  | true =>
    refine (h.ep rfl).kind hi ?_
    have := head_of hne
    rw [this]; exact List.mem_cons_self
theorem EI.leader (hl : El n m0 num M R) (h : EI pet n m0 num M R r c) {i : Nat} (hi : i < n) : pL r.1 i = 0 ∨ pL r.1 i = M := by
  cases pet with
  | false =>
    obtain ⟨X, ph, hc⟩ := (h.ec rfl).ci
    exact hc.leader hi
  | true => exact (h.ep rfl).leader hl.last hi
theorem EI.tot (hl : El n m0 num M R) (h : EI pet n m0 num M R r c) : c.1 + c.2.1 + c.2.2 ≤ 80 ∧ 0 ≤ c.1 ∧ 0 ≤ c.2.1 ∧ 0 ≤ c.2.2 := by
  cases pet with
  | false => have := (h.ec rfl).tot hl.mx; omega
  | true => exact (h.ep rfl).tot hl.rr
theorem EI.quiet (hl : El n m0 num M R) (h : EI pet n m0 num M R r c) (hq : ∀ i, i < n → (F' r i).length = 0) : (∀ i, i < n → pL r.1 i = M) ∧ r.2.2 = c.1 + c.2.1 + c.2.2 ∧ fin pet n R c := by
  have hq : ∀ i, i < n → F' r i = [] := fun i hi => List.eq_nil_of_length_eq_zero (hq i hi)
  cases pet with
  | false =>
    obtain ⟨a, b, d, e, f⟩ := (h.ec rfl).quiet hl.mx hq h.some
    exact ⟨a, b, d, fun _ => ⟨(h.ec rfl).c2, e, f⟩, fun h => Bool.noConfusion h⟩
  | true =>
    obtain ⟨a, b, d, e⟩ := (h.ep rfl).quiet hl.last hq h.some
    exact ⟨a, b, d, fun h => Bool.noConfusion h, fun _ => e⟩
theorem start_sent {i : Int} : (startK i r).2.2 ≤ r.2.2 + 1 := by
  unfold startK
  split
  · exact Int.le_refl _
  · omega
theorem del_sent {i : Int} : (rdelK pet i r).2.2 ≤ r.2.2 + 2 := by
  unfold rdelK
  split
  · exact recv_sent
  · omega
def gr (l : List Int) : Nat → Int
  | 0 => 0
  | k + 1 => max (gr l k) (l.getD k 0)
theorem gr_le {l : List Int} : ∀ {k i : Nat}, i < k → l.getD i 0 ≤ gr l k
  | k + 1, i, h => by
    rw [gr]
    by_cases e : i = k
    · rw [e]; omega
    · have := gr_le (l := l) (k := k) (i := i) (by omega); omega
theorem gr_mem {l : List Int} : ∀ {k : Nat}, (∀ i, i < k → 1 ≤ l.getD i 0) → 0 < k → ∃ i, i < k ∧ l.getD i 0 = gr l k
  | 1, h, _ => ⟨0, by omega, by rw [gr, gr]; have := h 0 (by omega); omega⟩
  | k + 2, h, _ => by
    obtain ⟨i, hi, e⟩ := gr_mem (l := l) (k := k + 1) (fun i hi => h i (by omega)) (by omega)
    rw [gr]
    by_cases c : gr l (k + 1) ≤ l.getD (k + 1) 0
    · exact ⟨k + 1, by omega, by omega⟩
    · exact ⟨i, by omega, by omega⟩
theorem gr_rg {l : List Int} : ∀ {k : Nat}, (∀ i, i < k → l.getD i 0 ≤ 1000) → 0 ≤ gr l k ∧ gr l k ≤ 1000
  | 0, _ => by rw [gr]; omega
  | k + 1, h => by
    have h1 := gr_rg (l := l) (k := k) fun i hi => h i (by omega)
    have h2 := h k (by omega)
    rw [gr]; omega
structure Nb (l : List Int) : Prop where
  l0 : 1 ≤ l.length
  l1 : l.length ≤ 10
  rg : ∀ i, i < l.length → 1 ≤ l.getD i 0 ∧ l.getD i 0 ≤ 1000
  dif : ∀ i j, i < l.length → j < l.length → l.getD i 0 = l.getD j 0 → i = j
theorem Nb.el {l : List Int} (h : Nb l) : ∃ m0 R, El l.length m0 (fun i => l.getD i 0) (gr l l.length) R := by
  obtain ⟨m0, hm0, hmv⟩ := gr_mem (l := l) (k := l.length) (fun i hi => (h.rg i hi).1) h.l0
  have hg : Gd l.length (gr l l.length) (fun _ => true) (fun i => l.getD i 0) := ⟨fun i j hi hj _ _ e => h.dif i j hi hj e, fun i hi _ => gr_le hi, ⟨m0, hm0, rfl, hmv⟩⟩
  obtain ⟨R, h1, h2, h3, h4⟩ := rounds hg
  refine ⟨m0, R, ⟨hm0, by have := h.l1; omega, h.dif, fun i hi => gr_le hi, hmv, fun i hi => (h.rg i hi).1⟩, ⟨h2, h3, h4, ?_⟩, h1⟩
  rw [← hmv]
  have := (h.rg m0 hm0).1
  show l.getD m0 0 ≠ 0
  omega
theorem rnew_get {l : List Int} (j : Nat) (hj : j < l.length) : pB (rnew l).1 j = false ∧ pL (rnew l).1 j = 0 ∧ pN (rnew l).1 j = l.getD j 0 ∧ pw (rnew l).1 j = p0 (l.getD j 0) := by
  have e : (rnew l).1.getD j P0 = (l.getD j 0, false, 0, l.getD j 0, 0, false, 1, ()) := by
    unfold rnew
    rw [List.getD_eq_getElem?_getD, List.getElem?_map, List.getElem?_eq_getElem hj, List.getD_eq_getElem?_getD, List.getElem?_eq_getElem hj]; rfl
  unfold pB pL pN pw pV pO pL pR
  rw [e]; exact ⟨rfl, rfl, rfl, rfl⟩
theorem rnew_F {l : List Int} (j : Nat) : F' (rnew l) j = [] := by
  unfold F' rnew
  rw [List.getD_eq_getElem?_getD, List.getElem?_replicate]
  split <;> rfl
theorem rnew_out {l : List Int} (j : Nat) (hj : ¬ j < l.length) : pB (rnew l).1 j = false ∧ pL (rnew l).1 j = 0 := by
  have e : (rnew l).1.getD j P0 = P0 := by
    unfold rnew
    rw [List.getD_eq_getElem?_getD, List.getElem?_map, List.getElem?_eq_none (Nat.le_of_not_lt hj)]; rfl
  unfold pB pL
  rw [e]; exact ⟨rfl, rfl⟩
theorem Nb.ec {l : List Int} (h : Nb l) {m0 R : Nat} (hl : El l.length m0 (fun i => l.getD i 0) (gr l l.length) R) : EC l.length m0 (fun i => l.getD i 0) (gr l l.length) (rnew l) (0, 0, 0) := by
  refine ⟨ROk.new h.l0 h.l1, ⟨fun i hi => (rnew_get i hi).2.2.1, fun i hi => congrArg PW.val (rnew_get i hi).2.2.2⟩, ⟨0, 0, ?_⟩, rfl, ?_⟩
  · have e1 : pB (rnew l).1 = fun _ => false := funext fun j => by
      by_cases c : j < l.length
      · exact (rnew_get j c).1
      · exact (rnew_out j c).1
    have e2 : pL (rnew l).1 = fun _ => 0 := funext fun j => by
      by_cases c : j < l.length
      · exact (rnew_get j c).2.1
      · exact (rnew_out j c).2
    have e3 : F' (rnew l) = fun _ => [] := funext rnew_F
    rw [e1, e2, e3]
    exact ci_zero hl.mx
  · rw [sumR_congr (g := fun _ => 0) fun i hi => by rw [rnew_F]; rfl, sumR_const]
    show (0 : Int) = 0 + 0 + 0 * (l.length : Int)
    omega
theorem Nb.ep {l : List Int} (h : Nb l) {m0 R : Nat} (hl : El l.length m0 (fun i => l.getD i 0) (gr l l.length) R) : EP l.length (fun i => l.getD i 0) (gr l l.length) R (rnew l) (0, 0, 0) := by
  have z : ∀ p, cD l.length p (net0 fun i => l.getD i 0) = 0 := fun p => by
    have e : cD l.length p (net0 fun i => l.getD i 0) = sumR (fun _ => 0) l.length := rfl
    rw [e, sumR_const]; omega
  refine ⟨ROk.new h.l0 h.l1, net0 _, ni_zero, fun i hi => ⟨(rnew_get i hi).1.symm, (rnew_get i hi).2.2.2.symm, (rnew_F i).symm⟩, ⟨(z _).symm, (z _).symm, (z _).symm⟩, ?_⟩
  have e : sumR (fun i => (((net0 fun i => l.getD i 0).H i).length : Int)) l.length = sumR (fun _ => 0) l.length := rfl
  rw [e, sumR_const]
  show (0 : Int) = 0 * (l.length : Int)
  omega
theorem Nb.begin {l : List Int} (h : Nb l) {m0 R : Nat} (hl : El l.length m0 (fun i => l.getD i 0) (gr l l.length) R) {i : Nat} (hi : i < l.length) :
    EI pet l.length m0 (fun i => l.getD i 0) (gr l l.length) R (startK (i : Int) (rnew l)) (0, 0, 0) ∧ startE (i : Int) (rnew l) = 0 := by
  have hlen : (rnew l).1.length = l.length := by unfold rnew; simp
  have hip : i < (rnew l).1.length := by rw [hlen]; exact hi
  have hb := (rnew_get i hi).1
  have e1 : startE (i : Int) (rnew l) = 0 := by
    unfold startE
    rw [if_pos (has_of hip), Int.toNat_natCast, hb]
    exact if_neg (by decide)
  refine ⟨?_, e1⟩
  unfold startK
  rw [e1, if_pos rfl, Int.toNat_natCast]
  exact ⟨fun _ => (h.ec hl).begin hl.mx hi hb, fun _ => (h.ep hl).begin hl.last hi hb, i, hi, by rw [begin_some hip, if_pos rfl]⟩
def nbs (xs : List Int) : Nat → List Int
  | 0 => []
  | k + 1 => if (nbs xs k).length < 10 ∧ xs.getD k 0 % 1000 + 1 ∉ nbs xs k then nbs xs k ++ [xs.getD k 0 % 1000 + 1] else nbs xs k
def nbl (l : List Int) : List Int := if l.length = 0 then [5] else l
theorem getD_app {l : List Int} {x : Int} (i : Nat) (hi : i < l.length + 1) : (l ++ [x]).getD i 0 = if i = l.length then x else l.getD i 0 := by
  rw [List.getD_eq_getElem?_getD, List.getD_eq_getElem?_getD]
  by_cases e : i = l.length
  · rw [if_pos e, e, List.getElem?_append_right (Nat.le_refl _), Nat.sub_self]; rfl
  · rw [if_neg e, List.getElem?_append_left (by omega)]
theorem mem_getD {l : List Int} {i : Nat} (hi : i < l.length) : l.getD i 0 ∈ l := by
  rw [List.getD_eq_getElem?_getD, List.getElem?_eq_getElem hi]; exact List.getElem_mem hi
structure Nb0 (l : List Int) : Prop where
  l1 : l.length ≤ 10
  rg : ∀ i, i < l.length → 1 ≤ l.getD i 0 ∧ l.getD i 0 ≤ 1000
  dif : ∀ i j, i < l.length → j < l.length → l.getD i 0 = l.getD j 0 → i = j
theorem nbs_ok {xs : List Int} : ∀ k, Nb0 (nbs xs k)
  | 0 => ⟨Nat.zero_le _, fun i hi => absurd hi (Nat.not_lt_zero _), fun i j hi => absurd hi (Nat.not_lt_zero _)⟩
  | k + 1 => by
    have ih := nbs_ok (xs := xs) k
    rw [nbs]
    split
    · rename_i h
      obtain ⟨h1, h2⟩ := h
      have em := Int.emod_nonneg (xs.getD k 0) (b := 1000) (by decide)
      have el := Int.emod_lt_of_pos (xs.getD k 0) (b := 1000) (by decide)
      refine ⟨by rw [List.length_append, List.length_singleton]; omega, fun i hi => ?_, fun i j hi hj e => ?_⟩
      · rw [List.length_append, List.length_singleton] at hi
        rw [getD_app i hi]
        split
        · omega
        · exact ih.rg i (by omega)
      · rw [List.length_append, List.length_singleton] at hi hj
        rw [getD_app i hi, getD_app j hj] at e
        split at e
        · split at e
          · omega
          · exact absurd (e ▸ mem_getD (by omega)) h2
        · split at e
          · exact absurd (e ▸ mem_getD (by omega)) h2
          · exact ih.dif i j (by omega) (by omega) e
    · exact ih
theorem nbl_ok {l : List Int} (h : Nb0 l) : Nb (nbl l) := by
  unfold nbl
  split
  · refine ⟨by decide, by decide, fun i hi => ?_, fun i j hi hj _ => ?_⟩
    · have e : i = 0 := by have hi : i < 1 := hi; omega
      subst e; exact ⟨by decide, by decide⟩
    · have hi : i < 1 := hi
      have hj : j < 1 := hj
      omega
  · exact ⟨by omega, h.l1, h.rg, h.dif⟩
theorem Nb.good {l : List Int} (h : Nb l) {i : Nat} (hi : i < l.length) : 1 ≤ l.getD i 0 ∧ l.getD i 0 ≤ 1000 ∧ l.getD i 0 ∉ l.take i := by
  refine ⟨(h.rg i hi).1, (h.rg i hi).2, fun hm => ?_⟩
  obtain ⟨j, hj, e⟩ := List.mem_iff_getElem.1 hm
  rw [List.length_take] at hj
  rw [List.getElem_take] at e
  have := h.dif j i (by omega) hi (by rw [List.getD_eq_getElem?_getD, List.getElem?_eq_getElem (by omega)]; exact e)
  omega
end Go.Rg
namespace Go.Proofs.Ytkjcnegkdlmapaa
open Go Go.Vc Go.Rg
set_option linter.unusedVariables false
set_option linter.unusedSimpArgs false
theorem greatest_at {l : List Int} {M : Int} (h : Nb l) (hM : M = gr l l.length) : FnAt Try.prog false 49 [.arr (.int .i64) l] (.lit (.int .i64 (M : Int))) [] := by
  have hl : @List.length (Ty.int .i64).T l = l.length := rfl
  have h1 := h.l1
  refine FnAt.of_body tys_ok Try.func49 (by rfl) rfl Try.ntmps49 (by rw [Try.results49]) (by simp) ?_
  
  repeat' (first
 | refine W.seq ?_
 | refine W.block ?_
 | (refine W.region tys_ok [] ?_; conv => whnf)
 | (refine W.drawAll tys_ok [] mixed rfl ?_; conv => whnf)
 | (refine W.ret ?_; conv => whnf)
 | (refine W.skip ?_; conv => whnf)
 | (refine W.exit ?_; conv => whnf)
 | (refine W.cond rfl (fun hb => ?_) (fun hb => ?_) <;> (try simp only [Int.reduceToNat, Int.reduceTDiv, Int.reduceTMod, minL, maxL, pickB, zHB, zSH] at hb) <;> (try (first | (cases hb; done) | exact absurd hb (by decide) | (exfalso; omega) | (omega))))
 | ((with_reducible refine And.intro ?_ ?_); (focus (first | (with_reducible rfl) | omega | rfl | ((try simp only [Int.reduceToNat, Int.reduceTDiv, Int.reduceTMod, minL, maxL, pickB, zHB, zSH, InK, Path.imp, zL] at *); omega))); (conv => whnf))
 | ((with_reducible refine And.intro (Side.out ?_) ?_); rotate_left; (conv => whnf))
 | ((first | refine retF1 ?_ | refine retF2 ?_) <;> (conv => whnf) <;> repeat' (first
 | exact trivial
 | (with_reducible rfl)
 | ((with_reducible refine And.intro ?_ ?_) <;> conv => whnf)
 | omega
 | rfl
 | (refine congrArg (SV.arr _) ?_)
 | (refine congrArg (Value.int _) ?_)
 | (refine congrArg Value.bool ?_)))); all_goals (try unfold Side)
  all_goals try (repeat' (first | (with_reducible rfl) | (with_reducible refine And.intro ?_ ?_) | omega | rfl | exact Or.inl rfl | exact Or.inr rfl | exact of_decide_eq_true rfl | exact Path.imp_of (of_decide_eq_true rfl) | (focus ((try simp only [Int.reduceToNat, Int.reduceTDiv, Int.reduceTMod, minL, maxL, pickB, zHB, zSH, InK, Path.imp, zL] at *); omega)) | (refine app_le rfl ?_; omega)))
  refine W.loop (fun i : Nat => ⟨[(0, .st false (.arr (.int .i64) (l : List Int))), (3, (.lit (.int .i64 (gr l i : Int)))), (4, (.lit (.int .i64 (i : Int))))], []⟩) (fun i => i ≤ l.length) (fun i => l.length - i) (0) ?_ ?_
  · refine ⟨Nat.zero_le _, ?_⟩
    refine subF.ok ?_ <;> (conv => whnf) <;> repeat' (first
 | exact trivial
 | (with_reducible rfl)
 | ((with_reducible refine And.intro ?_ ?_) <;> conv => whnf)
 | omega
 | rfl
 | (refine congrArg (SV.arr _) ?_)
 | (refine congrArg (Value.int _) ?_)
 | (refine congrArg Value.bool ?_))
  · rintro i hi
    by_cases hil : i < l.length
    · have e1 : max (gr l i) (l.getD i 0) = gr l (i + 1) := rfl
      repeat' (first
 | refine W.seq ?_
 | refine W.block ?_
 | (refine W.region tys_ok [] ?_; conv => whnf)
 | (refine W.drawAll tys_ok [] mixed rfl ?_; conv => whnf)
 | (refine W.ret ?_; conv => whnf)
 | (refine W.skip ?_; conv => whnf)
 | (refine W.exit ?_; conv => whnf)
 | (refine W.cond rfl (fun hb => ?_) (fun hb => ?_) <;> (try simp only [Int.reduceToNat, Int.reduceTDiv, Int.reduceTMod, minL, maxL, pickB, zHB, zSH] at hb) <;> (try (first | (cases hb; done) | exact absurd hb (by decide) | (exfalso; omega) | (omega))))
 | ((with_reducible refine And.intro ?_ ?_); (focus (first | (with_reducible rfl) | omega | rfl | ((try simp only [Int.reduceToNat, Int.reduceTDiv, Int.reduceTMod, minL, maxL, pickB, zHB, zSH, InK, Path.imp, zL] at *); omega))); (conv => whnf))
 | ((with_reducible refine And.intro (Side.out ?_) ?_); rotate_left; (conv => whnf))
 | ((first | refine retF1 ?_ | refine retF2 ?_) <;> (conv => whnf) <;> repeat' (first
 | exact trivial
 | (with_reducible rfl)
 | ((with_reducible refine And.intro ?_ ?_) <;> conv => whnf)
 | omega
 | rfl
 | (refine congrArg (SV.arr _) ?_)
 | (refine congrArg (Value.int _) ?_)
 | (refine congrArg Value.bool ?_)))); all_goals (try unfold Side)
      all_goals try (repeat' (first | (with_reducible rfl) | (with_reducible refine And.intro ?_ ?_) | omega | rfl | exact Or.inl rfl | exact Or.inr rfl | exact of_decide_eq_true rfl | exact Path.imp_of (of_decide_eq_true rfl) | (focus ((try simp only [Int.reduceToNat, Int.reduceTDiv, Int.reduceTMod, minL, maxL, pickB, zHB, zSH, InK, Path.imp, zL] at *); omega)) | (refine app_le rfl ?_; omega)))
      refine ⟨i + 1, ⟨by omega, by omega⟩, ?_⟩
      refine subF.ok ?_ <;> (conv => whnf) <;> repeat' (first
 | exact trivial
 | (with_reducible rfl)
 | ((with_reducible refine And.intro ?_ ?_) <;> conv => whnf)
 | omega
 | rfl
 | (refine congrArg (SV.arr _) ?_)
 | (refine congrArg (Value.int _) ?_)
 | (refine congrArg Value.bool ?_))
      all_goals first | exact e1 | skip
    · have hie : i = l.length := by omega
      subst hie
      repeat' (first
 | refine W.seq ?_
 | refine W.block ?_
 | (refine W.region tys_ok [] ?_; conv => whnf)
 | (refine W.drawAll tys_ok [] mixed rfl ?_; conv => whnf)
 | (refine W.ret ?_; conv => whnf)
 | (refine W.skip ?_; conv => whnf)
 | (refine W.exit ?_; conv => whnf)
 | (refine W.cond rfl (fun hb => ?_) (fun hb => ?_) <;> (try simp only [Int.reduceToNat, Int.reduceTDiv, Int.reduceTMod, minL, maxL, pickB, zHB, zSH] at hb) <;> (try (first | (cases hb; done) | exact absurd hb (by decide) | (exfalso; omega) | (omega))))
 | ((with_reducible refine And.intro ?_ ?_); (focus (first | (with_reducible rfl) | omega | rfl | ((try simp only [Int.reduceToNat, Int.reduceTDiv, Int.reduceTMod, minL, maxL, pickB, zHB, zSH, InK, Path.imp, zL] at *); omega))); (conv => whnf))
 | ((with_reducible refine And.intro (Side.out ?_) ?_); rotate_left; (conv => whnf))
 | ((first | refine retF1 ?_ | refine retF2 ?_) <;> (conv => whnf) <;> repeat' (first
 | exact trivial
 | (with_reducible rfl)
 | ((with_reducible refine And.intro ?_ ?_) <;> conv => whnf)
 | omega
 | rfl
 | (refine congrArg (SV.arr _) ?_)
 | (refine congrArg (Value.int _) ?_)
 | (refine congrArg Value.bool ?_)))); all_goals (try unfold Side)
      all_goals try (repeat' (first | (with_reducible rfl) | (with_reducible refine And.intro ?_ ?_) | omega | rfl | exact Or.inl rfl | exact Or.inr rfl | exact of_decide_eq_true rfl | exact Path.imp_of (of_decide_eq_true rfl) | (focus ((try simp only [Int.reduceToNat, Int.reduceTDiv, Int.reduceTMod, minL, maxL, pickB, zHB, zSH, InK, Path.imp, zL] at *); omega)) | (refine app_le rfl ?_; omega)))
      all_goals first | exact hM.symm | skip
def smw (y : List Int) : Prop := (y.length : Int) ≤ 9223372036854775807 ∧ ∀ i, 0 ≤ y.getD i 0 ∧ y.getD i 0 ≤ 65535
theorem nbs_skip {xs y : List Int} {v : Int} {i : Nat} (hy : y = nbs xs i) (hv : v = xs.getD i 0 % 1000 + 1) (hm : v ∈ y) : y = nbs xs (i + 1) := by
  rw [nbs, ← hy, ← hv, if_neg fun h => h.2 hm]
theorem nbs_put {xs y : List Int} {v : Int} {i : Nat} (hy : y = nbs xs i) (hv : v = xs.getD i 0 % 1000 + 1) (hm : v ∉ y) (hl : y.length < 10) : y ++ [v] = nbs xs (i + 1) := by
  rw [nbs, ← hy, ← hv, if_pos ⟨hl, hm⟩]
theorem nbs_full {xs : List Int} {i : Nat} (h : 10 ≤ (nbs xs i).length) : ∀ d, nbs xs (i + d) = nbs xs i
  | 0 => rfl
  | d + 1 => by
    rw [← Nat.add_assoc, nbs, nbs_full h d, if_neg fun c => by omega]
theorem nbs_all {xs : List Int} {i : Nat} (hi : i ≤ xs.length) (h : ¬ (i < xs.length ∧ (nbs xs i).length < 10)) : nbs xs xs.length = nbs xs i := by
  by_cases e : i = xs.length
  · rw [e]
  · have := nbs_full (xs := xs) (i := i) (by omega) (xs.length - i)
    rwa [show i + (xs.length - i) = xs.length by omega] at this
theorem take_mem {l : List Int} {v : Int} {k : Nat} (hk : k < l.length) : decide (v ∈ l.take (k + 1)) = (decide (v ∈ l.take k) || decide (l.getD k 0 = v)) := by
  rw [List.take_succ_eq_append_getElem hk, ← getD_eq hk, Bool.eq_iff_iff]
  rw [Bool.or_eq_true, decide_eq_true_iff, decide_eq_true_iff, decide_eq_true_iff, List.mem_append, List.mem_singleton]
  constructor
  · exact fun h => h.imp id Eq.symm
  · exact fun h => h.imp id Eq.symm
theorem numbers_at {x l : List Int} (hx : smw x) (hl0 : l = nbl (nbs x x.length)) : FnAt Try.prog false 14 [.arr (.int .u16) x] (.own 0) [(0, .row 3 (.int .i64) true (l : List Int))] := by
  have hl : @List.length (Ty.int .u16).T x = x.length := rfl
  refine FnAt.of_body tys_ok Try.func14 (by rfl) rfl Try.ntmps14 (by rw [Try.results14]) (by simp) ?_
  
  repeat' (first
 | refine W.seq ?_
 | refine W.block ?_
 | (refine W.region tys_ok [] ?_; conv => whnf)
 | (refine W.drawAll tys_ok [] mixed rfl ?_; conv => whnf)
 | (refine W.ret ?_; conv => whnf)
 | (refine W.skip ?_; conv => whnf)
 | (refine W.exit ?_; conv => whnf)
 | (refine W.cond rfl (fun hb => ?_) (fun hb => ?_) <;> (try simp only [Int.reduceToNat, Int.reduceTDiv, Int.reduceTMod, minL, maxL, pickB, zHB, zSH] at hb) <;> (try (first | (cases hb; done) | exact absurd hb (by decide) | (exfalso; omega) | (omega))))
 | ((with_reducible refine And.intro ?_ ?_); (focus (first | (with_reducible rfl) | omega | rfl | ((try simp only [Int.reduceToNat, Int.reduceTDiv, Int.reduceTMod, minL, maxL, pickB, zHB, zSH, InK, Path.imp, zL] at *); omega))); (conv => whnf))
 | ((with_reducible refine And.intro (Side.out ?_) ?_); rotate_left; (conv => whnf))
 | ((first | refine retF1 ?_ | refine retF2 ?_) <;> (conv => whnf) <;> repeat' (first
 | exact trivial
 | (with_reducible rfl)
 | ((with_reducible refine And.intro ?_ ?_) <;> conv => whnf)
 | omega
 | rfl
 | (refine congrArg (SV.arr _) ?_)
 | (refine congrArg (Value.int _) ?_)
 | (refine congrArg Value.bool ?_)))); all_goals (try unfold Side)
  all_goals try (repeat' (first | (with_reducible rfl) | (with_reducible refine And.intro ?_ ?_) | omega | rfl | exact Or.inl rfl | exact Or.inr rfl | exact of_decide_eq_true rfl | exact Path.imp_of (of_decide_eq_true rfl) | (focus ((try simp only [Int.reduceToNat, Int.reduceTDiv, Int.reduceTMod, minL, maxL, pickB, zHB, zSH, InK, Path.imp, zL] at *); omega)) | (refine app_le rfl ?_; omega)))
  refine W.loop (fun i : Nat => ⟨[(0, .st false (.arr (.int .u16) (x : List Int))), (3, .own 4000), (4, (.lit (.int .i64 (i : Int))))], [(4000, .row 3 (.int .i64) true (nbs x i))]⟩) (fun i => i ≤ x.length) (fun i => x.length - i) (0) ?_ ?_
  · refine ⟨Nat.zero_le _, ?_⟩
    refine subF.ok ?_ <;> (conv => whnf) <;> repeat' (first
 | exact trivial
 | (with_reducible rfl)
 | ((with_reducible refine And.intro ?_ ?_) <;> conv => whnf)
 | omega
 | rfl
 | (refine congrArg (SV.arr _) ?_)
 | (refine congrArg (Value.int _) ?_)
 | (refine congrArg Value.bool ?_))
  · rintro i hi
    have hn0 := nbs_ok (xs := x) i
    obtain ⟨y, hy⟩ : ∃ y, y = nbs x i := ⟨_, rfl⟩
    rw [← hy] at hn0 ⊢
    have h10 := hn0.l1
    have hll : @List.length (Ty.int .i64).T y = y.length := rfl
    by_cases hil : i < x.length ∧ y.length < 10
    · have hxi := hx.2 i
      obtain ⟨v, hv⟩ : ∃ v : Int, v = x.getD i 0 % 1000 + 1 := ⟨_, rfl⟩
      have hm : (x.getD i 0).tmod 1000 = x.getD i 0 % 1000 := Int.tmod_eq_emod_of_nonneg hxi.1
      have hmm : (x.getD i 0).tmod 1000 + 1 = v := by rw [hm, hv]
      repeat' (first
 | refine W.seq ?_
 | refine W.block ?_
 | (refine W.region tys_ok [] ?_; conv => whnf)
 | (refine W.drawAll tys_ok [] mixed rfl ?_; conv => whnf)
 | (refine W.ret ?_; conv => whnf)
 | (refine W.skip ?_; conv => whnf)
 | (refine W.exit ?_; conv => whnf)
 | (refine W.cond rfl (fun hb => ?_) (fun hb => ?_) <;> (try simp only [Int.reduceToNat, Int.reduceTDiv, Int.reduceTMod, minL, maxL, pickB, zHB, zSH] at hb) <;> (try (first | (cases hb; done) | exact absurd hb (by decide) | (exfalso; omega) | (omega) | ((simp [pickB] at hb; omega)))))
 | ((with_reducible refine And.intro ?_ ?_); (focus (first | (with_reducible rfl) | omega | rfl | ((try simp only [Int.reduceToNat, Int.reduceTDiv, Int.reduceTMod, minL, maxL, pickB, zHB, zSH, InK, Path.imp, zL] at *); omega))); (conv => whnf))
 | ((with_reducible refine And.intro (Side.out ?_) ?_); rotate_left; (conv => whnf))
 | ((first | refine retF1 ?_ | refine retF2 ?_) <;> (conv => whnf) <;> repeat' (first
 | exact trivial
 | (with_reducible rfl)
 | ((with_reducible refine And.intro ?_ ?_) <;> conv => whnf)
 | omega
 | rfl
 | (refine congrArg (SV.arr _) ?_)
 | (refine congrArg (Value.int _) ?_)
 | (refine congrArg Value.bool ?_)))); all_goals (try unfold Side)
      all_goals try (repeat' (first | (with_reducible rfl) | (with_reducible refine And.intro ?_ ?_) | omega | rfl | exact Or.inl rfl | exact Or.inr rfl | exact of_decide_eq_true rfl | exact Path.imp_of (of_decide_eq_true rfl) | (focus ((try simp only [Int.reduceToNat, Int.reduceTDiv, Int.reduceTMod, minL, maxL, pickB, zHB, zSH, InK, Path.imp, zL] at *); omega)) | (refine app_le rfl ?_; omega)))
      refine W.loop (fun k : Nat => ⟨[(0, .st false (.arr (.int .u16) (x : List Int))), (3, .own 4000), (4, (.lit (.int .i64 (i : Int)))), (5, (.lit (.int .i64 (v : Int)))), (6, .lit (.bool (decide (v ∈ y.take k)))), (7, (.lit (.int .i64 (k : Int))))], [(4000, .row 3 (.int .i64) true (y : List Int))]⟩) (fun k => k ≤ y.length) (fun k => y.length - k) (0) ?_ ?_
      · refine ⟨Nat.zero_le _, ?_⟩
        refine subF.ok ?_ <;> (conv => whnf) <;> repeat' (first
 | exact trivial
 | (with_reducible rfl)
 | ((with_reducible refine And.intro ?_ ?_) <;> conv => whnf)
 | omega
 | rfl
 | (refine congrArg (SV.arr _) ?_)
 | (refine congrArg (Value.int _) ?_)
 | (refine congrArg Value.bool ?_))
        all_goals first | exact hmm | skip
      · rintro k hk
        have hxl := hx.1
        by_cases hkl : k < y.length
        · have e1 := take_mem (v := v) hkl
          have e2 : pickB (decide (v ∈ y.take k)) (Operand.const (Value.bool true)) (Operand.tmp 40) true (decide (y.getD k 0 = v)) = decide (v ∈ y.take (k + 1)) := by rw [e1]; rfl
          repeat' (first
 | refine W.seq ?_
 | refine W.block ?_
 | (refine W.region tys_ok [] ?_; conv => whnf)
 | (refine W.drawAll tys_ok [] mixed rfl ?_; conv => whnf)
 | (refine W.ret ?_; conv => whnf)
 | (refine W.skip ?_; conv => whnf)
 | (refine W.exit ?_; conv => whnf)
 | (refine W.cond rfl (fun hb => ?_) (fun hb => ?_) <;> (try simp only [Int.reduceToNat, Int.reduceTDiv, Int.reduceTMod, minL, maxL, pickB, zHB, zSH] at hb) <;> (try (first | (cases hb; done) | exact absurd hb (by decide) | (exfalso; omega) | (omega))))
 | ((with_reducible refine And.intro ?_ ?_); (focus (first | (with_reducible rfl) | omega | rfl | ((try simp only [Int.reduceToNat, Int.reduceTDiv, Int.reduceTMod, minL, maxL, pickB, zHB, zSH, InK, Path.imp, zL] at *); omega))); (conv => whnf))
 | ((with_reducible refine And.intro (Side.out ?_) ?_); rotate_left; (conv => whnf))
 | ((first | refine retF1 ?_ | refine retF2 ?_) <;> (conv => whnf) <;> repeat' (first
 | exact trivial
 | (with_reducible rfl)
 | ((with_reducible refine And.intro ?_ ?_) <;> conv => whnf)
 | omega
 | rfl
 | (refine congrArg (SV.arr _) ?_)
 | (refine congrArg (Value.int _) ?_)
 | (refine congrArg Value.bool ?_)))); all_goals (try unfold Side)
          all_goals try (repeat' (first | (with_reducible rfl) | (with_reducible refine And.intro ?_ ?_) | omega | rfl | exact Or.inl rfl | exact Or.inr rfl | exact of_decide_eq_true rfl | exact Path.imp_of (of_decide_eq_true rfl) | (focus ((try simp only [Int.reduceToNat, Int.reduceTDiv, Int.reduceTMod, minL, maxL, pickB, zHB, zSH, InK, Path.imp, zL] at *); omega)) | (refine app_le rfl ?_; omega)))
          refine ⟨k + 1, ⟨by omega, by omega⟩, ?_⟩
          refine subF.ok ?_ <;> (conv => whnf) <;> repeat' (first
 | exact trivial
 | (with_reducible rfl)
 | ((with_reducible refine And.intro ?_ ?_) <;> conv => whnf)
 | omega
 | rfl
 | (refine congrArg (SV.arr _) ?_)
 | (refine congrArg (Value.int _) ?_)
 | (refine congrArg Value.bool ?_))
          all_goals first | exact e2 | skip
        · have hke : k = y.length := by omega
          subst hke
          have et : y.take y.length = y := List.take_length
          rw [et]
          have hil2 := hil.1
          by_cases hm : v ∈ y
          · have e3 := nbs_skip hy hv hm
            have hd : decide (v ∈ y) = true := decide_eq_true hm
            rw [hd]
            repeat' (first
 | refine W.seq ?_
 | refine W.block ?_
 | (refine W.region tys_ok [] ?_; conv => whnf)
 | (refine W.drawAll tys_ok [] mixed rfl ?_; conv => whnf)
 | (refine W.ret ?_; conv => whnf)
 | (refine W.skip ?_; conv => whnf)
 | (refine W.exit ?_; conv => whnf)
 | (refine W.cond rfl (fun hb => ?_) (fun hb => ?_) <;> (try simp only [Int.reduceToNat, Int.reduceTDiv, Int.reduceTMod, minL, maxL, pickB, zHB, zSH] at hb) <;> (try (first | (cases hb; done) | exact absurd hb (by decide) | (exfalso; omega) | (omega))))
 | ((with_reducible refine And.intro ?_ ?_); (focus (first | (with_reducible rfl) | omega | rfl | ((try simp only [Int.reduceToNat, Int.reduceTDiv, Int.reduceTMod, minL, maxL, pickB, zHB, zSH, InK, Path.imp, zL] at *); omega))); (conv => whnf))
 | ((with_reducible refine And.intro (Side.out ?_) ?_); rotate_left; (conv => whnf))
 | ((first | refine retF1 ?_ | refine retF2 ?_) <;> (conv => whnf) <;> repeat' (first
 | exact trivial
 | (with_reducible rfl)
 | ((with_reducible refine And.intro ?_ ?_) <;> conv => whnf)
 | omega
 | rfl
 | (refine congrArg (SV.arr _) ?_)
 | (refine congrArg (Value.int _) ?_)
 | (refine congrArg Value.bool ?_)))); all_goals (try unfold Side)
            all_goals try (repeat' (first | (with_reducible rfl) | (with_reducible refine And.intro ?_ ?_) | omega | rfl | exact Or.inl rfl | exact Or.inr rfl | exact of_decide_eq_true rfl | exact Path.imp_of (of_decide_eq_true rfl) | (focus ((try simp only [Int.reduceToNat, Int.reduceTDiv, Int.reduceTMod, minL, maxL, pickB, zHB, zSH, InK, Path.imp, zL] at *); omega)) | (refine app_le rfl ?_; omega)))
            refine ⟨i + 1, ⟨by omega, by omega⟩, ?_⟩
            refine subF.ok ?_ <;> (conv => whnf) <;> repeat' (first
 | exact trivial
 | (with_reducible rfl)
 | ((with_reducible refine And.intro ?_ ?_) <;> conv => whnf)
 | omega
 | rfl
 | (refine congrArg (SV.arr _) ?_)
 | (refine congrArg (Value.int _) ?_)
 | (refine congrArg Value.bool ?_))
            all_goals first | exact e3 | skip
          · have e3 := nbs_put hy hv hm hil.2
            have hd : decide (v ∈ y) = false := decide_eq_false hm
            rw [hd]
            repeat' (first
 | refine W.seq ?_
 | refine W.block ?_
 | (refine W.region tys_ok [] ?_; conv => whnf)
 | (refine W.drawAll tys_ok [] mixed rfl ?_; conv => whnf)
 | (refine W.ret ?_; conv => whnf)
 | (refine W.skip ?_; conv => whnf)
 | (refine W.exit ?_; conv => whnf)
 | (refine W.cond rfl (fun hb => ?_) (fun hb => ?_) <;> (try simp only [Int.reduceToNat, Int.reduceTDiv, Int.reduceTMod, minL, maxL, pickB, zHB, zSH] at hb) <;> (try (first | (cases hb; done) | exact absurd hb (by decide) | (exfalso; omega) | (omega))))
 | ((with_reducible refine And.intro ?_ ?_); (focus (first | (with_reducible rfl) | omega | rfl | ((try simp only [Int.reduceToNat, Int.reduceTDiv, Int.reduceTMod, minL, maxL, pickB, zHB, zSH, InK, Path.imp, zL] at *); omega))); (conv => whnf))
 | ((with_reducible refine And.intro (Side.out ?_) ?_); rotate_left; (conv => whnf))
 | ((first | refine retF1 ?_ | refine retF2 ?_) <;> (conv => whnf) <;> repeat' (first
 | exact trivial
 | (with_reducible rfl)
 | ((with_reducible refine And.intro ?_ ?_) <;> conv => whnf)
 | omega
 | rfl
 | (refine congrArg (SV.arr _) ?_)
 | (refine congrArg (Value.int _) ?_)
 | (refine congrArg Value.bool ?_)))); all_goals (try unfold Side)
            all_goals try (repeat' (first | (with_reducible rfl) | (with_reducible refine And.intro ?_ ?_) | omega | rfl | exact Or.inl rfl | exact Or.inr rfl | exact of_decide_eq_true rfl | exact Path.imp_of (of_decide_eq_true rfl) | (focus ((try simp only [Int.reduceToNat, Int.reduceTDiv, Int.reduceTMod, minL, maxL, pickB, zHB, zSH, InK, Path.imp, zL] at *); omega)) | (refine app_le rfl ?_; omega)))
            refine ⟨i + 1, ⟨by omega, by omega⟩, ?_⟩
            refine subF.ok ?_ <;> (conv => whnf) <;> repeat' (first
 | exact trivial
 | (with_reducible rfl)
 | ((with_reducible refine And.intro ?_ ?_) <;> conv => whnf)
 | omega
 | rfl
 | (refine congrArg (SV.arr _) ?_)
 | (refine congrArg (Value.int _) ?_)
 | (refine congrArg Value.bool ?_))
            all_goals first | exact e3 | skip
    · have e4 := nbs_all hi (by rw [← hy]; exact hil)
      rw [← hy] at e4
      rw [e4] at hl0
      unfold nbl at hl0
      by_cases h0 : y.length = 0
      · rw [if_pos h0] at hl0
        subst hl0
        repeat' (first
 | refine W.seq ?_
 | refine W.block ?_
 | (refine W.region tys_ok [] ?_; conv => whnf)
 | (refine W.drawAll tys_ok [] mixed rfl ?_; conv => whnf)
 | (refine W.ret ?_; conv => whnf)
 | (refine W.skip ?_; conv => whnf)
 | (refine W.exit ?_; conv => whnf)
 | (refine W.cond rfl (fun hb => ?_) (fun hb => ?_) <;> (try simp only [Int.reduceToNat, Int.reduceTDiv, Int.reduceTMod, minL, maxL, pickB, zHB, zSH] at hb) <;> (try (first | (cases hb; done) | exact absurd hb (by decide) | (exfalso; omega) | (omega) | ((simp [pickB] at hb; omega)))))
 | ((with_reducible refine And.intro ?_ ?_); (focus (first | (with_reducible rfl) | omega | rfl | ((try simp only [Int.reduceToNat, Int.reduceTDiv, Int.reduceTMod, minL, maxL, pickB, zHB, zSH, InK, Path.imp, zL] at *); omega))); (conv => whnf))
 | ((with_reducible refine And.intro (Side.out ?_) ?_); rotate_left; (conv => whnf))
 | ((first | refine retF1 ?_ | refine retF2 ?_) <;> (conv => whnf) <;> repeat' (first
 | exact trivial
 | (with_reducible rfl)
 | ((with_reducible refine And.intro ?_ ?_) <;> conv => whnf)
 | omega
 | rfl
 | (refine congrArg (SV.arr _) ?_)
 | (refine congrArg (Value.int _) ?_)
 | (refine congrArg Value.bool ?_)))); all_goals (try unfold Side)
        all_goals try (repeat' (first | (with_reducible rfl) | (with_reducible refine And.intro ?_ ?_) | omega | rfl | exact Or.inl rfl | exact Or.inr rfl | exact of_decide_eq_true rfl | exact Path.imp_of (of_decide_eq_true rfl) | (focus ((try simp only [Int.reduceToNat, Int.reduceTDiv, Int.reduceTMod, minL, maxL, pickB, zHB, zSH, InK, Path.imp, zL] at *); omega)) | (refine app_le rfl ?_; omega)))
      · rw [if_neg h0] at hl0
        subst hl0
        repeat' (first
 | refine W.seq ?_
 | refine W.block ?_
 | (refine W.region tys_ok [] ?_; conv => whnf)
 | (refine W.drawAll tys_ok [] mixed rfl ?_; conv => whnf)
 | (refine W.ret ?_; conv => whnf)
 | (refine W.skip ?_; conv => whnf)
 | (refine W.exit ?_; conv => whnf)
 | (refine W.cond rfl (fun hb => ?_) (fun hb => ?_) <;> (try simp only [Int.reduceToNat, Int.reduceTDiv, Int.reduceTMod, minL, maxL, pickB, zHB, zSH] at hb) <;> (try (first | (cases hb; done) | exact absurd hb (by decide) | (exfalso; omega) | (omega) | ((simp [pickB] at hb; omega)))))
 | ((with_reducible refine And.intro ?_ ?_); (focus (first | (with_reducible rfl) | omega | rfl | ((try simp only [Int.reduceToNat, Int.reduceTDiv, Int.reduceTMod, minL, maxL, pickB, zHB, zSH, InK, Path.imp, zL] at *); omega))); (conv => whnf))
 | ((with_reducible refine And.intro (Side.out ?_) ?_); rotate_left; (conv => whnf))
 | ((first | refine retF1 ?_ | refine retF2 ?_) <;> (conv => whnf) <;> repeat' (first
 | exact trivial
 | (with_reducible rfl)
 | ((with_reducible refine And.intro ?_ ?_) <;> conv => whnf)
 | omega
 | rfl
 | (refine congrArg (SV.arr _) ?_)
 | (refine congrArg (Value.int _) ?_)
 | (refine congrArg Value.bool ?_)))); all_goals (try unfold Side)
        all_goals try (repeat' (first | (with_reducible rfl) | (with_reducible refine And.intro ?_ ?_) | omega | rfl | exact Or.inl rfl | exact Or.inr rfl | exact of_decide_eq_true rfl | exact Path.imp_of (of_decide_eq_true rfl) | (focus ((try simp only [Int.reduceToNat, Int.reduceTDiv, Int.reduceTMod, minL, maxL, pickB, zHB, zSH, InK, Path.imp, zL] at *); omega)) | (refine app_le rfl ?_; omega)))
end Go.Proofs.Ytkjcnegkdlmapaa
namespace Go.Rg
set_option linter.unusedVariables false
set_option linter.unusedSimpArgs false
def vE (os : List Int) (t : Nat) : Nat := 7 * t + (if 0 < os.length then (os.getD (t % os.length) 0).toNat else 0)
def wkE (n v : Nat) (r : Rn) : Rn := if v % 11 = 0 then startK ((v / 11 % n : Nat) : Int) r else r
def atF (n v : Nat) (r : Rn) : Nat → Nat → Option Nat
  | 0, _ => none
  | k + 1, i => if (F' r ((v + i) % n)).length ≠ 0 then some ((v + i) % n) else atF n v r k (i + 1)
def sim (pet : Bool) (n : Nat) (os : List Int) : Nat → Nat → Rn → Ct → Ct
  | 0, _, _, c => c
  | f + 1, t, r, c => match atF n (vE os t) (wkE n (vE os t) r) n 0 with
    | none => c
    | some a => sim pet n os f (t + 1) (rdelK pet (a : Int) (wkE n (vE os t) r)) (bump ((F' (wkE n (vE os t) r) a).getD 0 N0).1 c)
variable {pet : Bool} {n m0 : Nat} {num : Nat → Int} {M : Int} {R : Nat} {r : Rn} {c : Ct} {os : List Int}
theorem atF_some {v a : Nat} (hn : 0 < n) : ∀ {k i : Nat}, atF n v r k i = some a → a < n ∧ (F' r a).length ≠ 0
  | 0, i, h => by cases h
  | k + 1, i, h => by
    rw [atF] at h
    split at h
    · rename_i hne
      injection h with h
      subst h
      exact ⟨Nat.mod_lt _ hn, hne⟩
    · exact atF_some hn h
theorem atF_none' {v : Nat} : ∀ {k i : Nat}, atF n v r k i = none → ∀ j, i ≤ j → j < i + k → (F' r ((v + j) % n)).length = 0
  | 0, i, _, j, h1, h2 => by omega
  | k + 1, i, h, j, h1, h2 => by
    rw [atF] at h
    split at h
    · cases h
    · rename_i hne
      by_cases e : j = i
      · rw [e]; exact Classical.byContradiction hne
      · exact atF_none' h j (by omega) (by omega)
theorem atF_none {v : Nat} (hn : 0 < n) (h : atF n v r n 0 = none) : ∀ k, k < n → (F' r k).length = 0 := fun k hk => by
  have h1 := atF_none' h ((k + n - v % n) % n) (Nat.zero_le _) (by rw [Nat.zero_add]; exact Nat.mod_lt _ hn)
  have hv := Nat.mod_lt v hn
  have e : (v + (k + n - v % n) % n) % n = k := by
    rw [Nat.add_mod_mod]
    have e2 : v + (k + n - v % n) = k + n * (v / n + 1) := by
      have := Nat.div_add_mod v n
      rw [Nat.mul_add, Nat.mul_one]
      omega
    rw [e2, Nat.add_mul_mod_self_left, Nat.mod_eq_of_lt hk]
  rwa [e] at h1
theorem EI.wk (hl : El n m0 num M R) (h : EI pet n m0 num M R r c) (hn : 0 < n) (v : Nat) : EI pet n m0 num M R (wkE n v r) c ∧ (wkE n v r).2.2 ≤ r.2.2 + 1 := by
  unfold wkE
  split
  · exact ⟨(h.start hl (Nat.mod_lt _ hn)).1, start_sent⟩
  · exact ⟨h, by omega⟩
theorem sim_none {f t : Nat} (h : atF n (vE os t) (wkE n (vE os t) r) n 0 = none) : sim pet n os (f + 1) t r c = c := by
  rw [sim, h]
theorem sim_some {f t a : Nat} (h : atF n (vE os t) (wkE n (vE os t) r) n 0 = some a) : sim pet n os (f + 1) t r c = sim pet n os f (t + 1) (rdelK pet (a : Int) (wkE n (vE os t) r)) (bump ((F' (wkE n (vE os t) r) a).getD 0 N0).1 c) := by
  rw [sim, h]
theorem sim_fin (hl : El n m0 num M R) (hn : 0 < n) : ∀ {f t : Nat} {r : Rn} {c : Ct}, EI pet n m0 num M R r c → 81 - (c.1 + c.2.1 + c.2.2) ≤ f → fin pet n R (sim pet n os f t r c)
  | 0, t, r, c, h, hf => by have := h.tot hl; omega
  | f + 1, t, r, c, h, hf => by
    obtain ⟨h1, _⟩ := h.wk hl hn (vE os t)
    cases e : atF n (vE os t) (wkE n (vE os t) r) n 0 with
    | none =>
      rw [sim_none e]
      exact (h1.quiet hl (atF_none hn e)).2.2
    | some a =>
      obtain ⟨ha, hne⟩ := atF_some hn e
      rw [sim_some e]
      refine sim_fin hl hn (h1.del hl ha hne).1 ?_
      rw [bump_sum]; omega
theorem sim_bd (hl : El n m0 num M R) (hn : 0 < n) : ∀ {f t : Nat} {r : Rn} {c : Ct}, EI pet n m0 num M R r c → (sim pet n os f t r c).1 + (sim pet n os f t r c).2.1 + (sim pet n os f t r c).2.2 ≤ 100 ∧ 0 ≤ (sim pet n os f t r c).1 ∧ 0 ≤ (sim pet n os f t r c).2.1 ∧ 0 ≤ (sim pet n os f t r c).2.2
  | 0, t, r, c, h => by have := h.tot hl; rw [sim]; omega
  | f + 1, t, r, c, h => by
    obtain ⟨h1, _⟩ := h.wk hl hn (vE os t)
    cases e : atF n (vE os t) (wkE n (vE os t) r) n 0 with
    | none => rw [sim_none e]; have := h.tot hl; omega
    | some a =>
      obtain ⟨ha, hne⟩ := atF_some hn e
      rw [sim_some e]
      exact sim_bd hl hn (h1.del hl ha hne).1
end Go.Rg
namespace Go.Vc
set_option linter.unusedVariables false
set_option linter.unusedSimpArgs false
theorem W.joinTo {P : Program} {n : Nat} {Q : Exit → Sy → Prop} {Γ : Sy} {t : Nat} {u x y z : Code} (Γ' : Sy) (h1 : W P n (.seq u (.cond (.tmp t) x y)) Γ (thenQ (fun Γ1 => Leaf (Sub Γ1 Γ' (mkRen Γ1 Γ'))) Q)) (h2 : W P n z Γ' Q) : W P n (.seq (.seq u (.cond (.tmp t) x y)) z) Γ Q := by
  refine W.seq ⟨fun c g a w hn hst => wp_mono (h1.out c g a w hn hst) fun e a' w' hq => ?_⟩
  obtain ⟨Γ1, g', h3, h4⟩ := hq
  cases e with
  | normal => exact ⟨Γ1, g', (let ⟨h5⟩ := h3; W.sub h5 h2), h4⟩
  | _ => exact ⟨Γ1, g', h3, h4⟩
end Go.Vc
namespace Go.Vc
set_option linter.unusedVariables false
set_option linter.unusedSimpArgs false
def litsOf : List AV → Option (List SV)
  | [] => some []
  | .lit v :: r => match litsOf r with
    | some l => some (.lit v :: l)
    | none => none
  | _ :: _ => none
theorem litsOf_len : ∀ {l : List AV} {s : List SV}, litsOf l = some s → s.length = l.length
  | [], s, h => by cases h; rfl
  | A :: r, s, h => by
    cases A <;> simp only [litsOf] at h <;> first | (cases h; done) | skip
    split at h
    · rename_i l hl
      cases h
      rw [List.length_cons, List.length_cons, litsOf_len hl]
    · cases h
theorem litsOf_get : ∀ {l : List AV} {s : List SV} {i : Nat} {B : SV}, litsOf l = some s → s[i]? = some B → ∃ v, B = .lit v ∧ l[i]? = some (.lit v)
  | [], s, i, B, h, hi => by cases h; simp at hi
  | A :: r, s, i, B, h, hi => by
    cases A <;> simp only [litsOf] at h <;> first | (cases h; done) | skip
    rename_i v
    split at h
    · rename_i l hl
      cases h
      cases i with
      | zero => simp at hi; subst hi; exact ⟨v, rfl, rfl⟩
      | succ i =>
        obtain ⟨u, h1, h2⟩ := litsOf_get (l := r) (i := i) (B := B) hl (by simpa using hi)
        exact ⟨u, h1, by simpa using h2⟩
    · cases h
def Sy.frz (Γ : Sy) (t k : Nat) (s : List SV) : Sy := ⟨(t, .st false (.sadr (.agg s))) :: (Γ.drop k).tmps, (Γ.drop k).own⟩
theorem St.frzBox {c : Cx} {Γ : Sy} {g : Nat → Value} {a : Act} {w : World} (h : St c Γ g a w) {t k : Nat} {l : List AV} {s : List SV} (ht : get? Γ.tmps t = some (.padr k 0)) (hk : get? Γ.own k = some (.box l)) (hs : litsOf l = some s) : St c (Γ.frz t k s) g a w := by
  have hd := h.drop k
  obtain ⟨b, hg, hv⟩ := h.tmps t _ ht
  obtain ⟨b', arr, e, hg', hb1, hb2, hsz, hc⟩ := h.hp.ok k _ hk
  have eb : b' = b := by rw [hg] at hg'; cases hg'; rfl
  subst eb
  have hn : ¬ Oset (Γ.drop k).own g b' := by
    rintro ⟨j, o, h1, h2⟩
    simp only [Sy.drop, get?_mapv, get?_del] at h1
    split at h1
    · cases h1
    · rename_i hne
      obtain ⟨o', h3, _⟩ := Option.map_eq_some_iff.1 h1
      have hb : Blk (g k) b' := Blk.of (by rw [hg]; rfl)
      exact hne (h.hp.inj j k o' _ b' h3 hk h2 hb)
  have key : RpS w (Av (Oset (Γ.drop k).own g) c.O0 false) (.pointer (some ⟨b', 0, none⟩)) (.sadr (.agg s)) := by
    refine RpS.sadr b' 0 _ (.agg arr) arr e (0, 0) hb2 (fun hO => ?_) (fun j hj => ?_) ?_
    · rcases hO with hO | ⟨hO, _⟩
      · exact hn hO
      · cases hO
    · rw [Nat.zero_add]; rfl
    · refine RpS.agg arr s (fun i => arr.getD i undef) (by rw [hsz, litsOf_len hs]) (fun i hi => ?_) (fun i B hB => ?_)
      · obtain ⟨v, _, hl⟩ := litsOf_get hs (List.getElem?_eq_getElem hi) (B := s[i])
        obtain ⟨x, h1, h2, _⟩ := hc i _ hl
        rw [Array.getD_eq_getD_getElem?, h1]
        exact ⟨rfl, h2⟩
      · obtain ⟨v, rfl, hl⟩ := litsOf_get hs hB
        obtain ⟨x, h1, h2, h3⟩ := hc i _ hl
        rw [Array.getD_eq_getD_getElem?, h1]
        have h4 : x = v ∧ v.oneCell' = true := h3
        obtain ⟨rfl, _⟩ := h4
        exact RpS.lit _ h2
  refine ⟨hd.defers, hd.size, hd.keep, hd.o0, fun t' A hA => ?_, hd.kept, hd.hp, hd.low, hd.pin⟩
  have hA : get? ((t, .st false (.sadr (.agg s))) :: (Γ.drop k).tmps) t' = some A := hA
  simp only [get?] at hA
  split at hA
  · rename_i he
    have he := Nat.eq_of_beq_eq_true he
    cases hA
    subst he
    rw [hv]
    exact key
  · exact hd.tmps t' A hA
theorem W.frz {P : Program} {n : Nat} {Q : Exit → Sy → Prop} {Γ : Sy} {x : Code} {t k : Nat} {l : List AV} {s : List SV} (ht : get? Γ.tmps t = some (.padr k 0)) (hk : get? Γ.own k = some (.box l)) (hs : litsOf l = some s) (h : W P n x (Γ.frz t k s) Q) : W P n x Γ Q :=
  ⟨fun c g a w hn hst => h.out c g a w hn (hst.frzBox ht hk hs)⟩
end Go.Vc

