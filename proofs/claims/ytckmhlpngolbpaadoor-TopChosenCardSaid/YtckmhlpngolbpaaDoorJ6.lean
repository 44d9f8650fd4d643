/- Joined of: C3 Re1 Re2 Re3 Re4 C4 Vc33 K1 R1 R2 Vc37 R3 R4. No condition. -/
import Derived.Test.YtckmhlpngolbpaaDoorJ5
import Derived.Test.YtckmhlpngolbpaaDoorJ4
import Derived.Lib.SliceRun
import Derived.Deep.Upon
import Derived.WalkKit
import Derived.WalkSpells
import Derived.Deep.LoopGhost
import Derived.Deep.RegionLaw
import Derived.Shelf.RegionOpenPlain
set_option linter.unusedVariables false
set_option linter.unusedSimpArgs false
namespace Go.Proofs.YtckmhlpngolbpaaDoor
open Int renaming reduceToNat → zr, reduceTDiv → zd, reduceTMod → zm
open Go Go.Vc Go.Rg
def rot (l : List UInt8) (i : Nat) : List UInt8 := l.drop i ++ l.take i
def tb (l : List UInt8) : Nat → Nat
 | 0 => 0
 | i + 1 => if Op.bytesLess (rot l i) (rot l (tb l i)) = true then i else tb l i
theorem tb_le (l : List UInt8) : ∀ i, tb l i ≤ i
 | 0 => Nat.le_refl _
 | i + 1 => by
  unfold tb
  have := tb_le l i
  split <;> omega
theorem check_at {l : List UInt8} (h1 : l ≠ []) (h2 : l.length ≤ 200) (h3 : ∀ x ∈ l, x ∈ ([97, 98, 99, 100] : List UInt8)) : FnAt Tryd.prog false 14 [(.lit (.string ⟨⟨l⟩⟩))] (.lit (.int .i64 (0 : Int))) [] := by
 have c1 := trim_at (s := ⟨⟨l⟩⟩) (cut := ⟨#[97, 98, 99, 100]⟩) (r := []) (by show l.length ≤ _; omega) (by decide) (ascii_of_all (by decide)) (trim_all h3).symm
 have hb0 : decide (l = []) = false := decide_eq_false h1
 refine FnAt.of_body tys_ok Tryd.func14 (by rfl) rfl Tryd.ntmps14 (by rw [Tryd.results14]) (by simp) ?_
 repeat' (first
 | refine W.seq ?_
 | refine W.block ?_
 | (refine W.region tys_ok [] ?_; conv => whnf)
 | (refine W.drawAll tys_ok [] mixed rfl ?_; conv => whnf)
 | (refine W.ret ?_; conv => whnf)
 | (refine W.skip ?_; conv => whnf)
 | (refine W.exit ?_; conv => whnf)
 | (refine call_at (al := false) (c1) rfl rfl rfl rfl ?_; conv => whnf)
 | (refine W.cond rfl (fun hb => ?_) (fun hb => ?_) <;> (try simp only [zr, zd, zm, minL, maxL, pickB, zA] at hb) <;> (try (first | (cases hb; done) | exact absurd hb (by decide) | (exfalso; omega) | (omega) | ((simp [h1] at hb; done)) | ((simp_all; done)))))
 | ((with_reducible refine And.intro ?_ ?_); exact zc; conv => whnf)
 | ((with_reducible refine And.intro (Side.out ?_) ?_); rotate_left; (conv => whnf))
 | ((first | refine retF1 ?_ | refine retF2 ?_) <;> (conv => whnf) <;> repeat' (first
 | exact trivial
 | (with_reducible rfl)
 | ((with_reducible refine And.intro ?_ ?_) <;> conv => whnf)
 | omega
 | rfl
 | (refine congrArg (SV.arr _) ?_)
 | (refine congrArg (Value.int _) ?_)
 | (refine congrArg Value.bool ?_)))); all_goals (try unfold Side)
 all_goals try (repeat' (first | exact zb | with_reducible refine And.intro ?_ ?_))
set_option maxHeartbeats 4000000 in
theorem turn_at {l : List UInt8} (h1 : l ≠ []) (h2 : l.length ≤ 200) (h3 : ∀ x ∈ l, x ∈ ([97, 98, 99, 100] : List UInt8)) : FnAt Tryd.prog false 6 [(.lit (.string ⟨⟨l⟩⟩))] (.tup [(.lit (.int .i64 (tb l l.length : Int))), (.lit (.int .i64 (0 : Int)))]) [] := by
 have c1 := check_at h1 h2 h3
 refine FnAt.of_body tys_ok Tryd.func6 (by rfl) rfl Tryd.ntmps6 (by rw [Tryd.results6]) (by simp) ?_
 repeat' (first
 | refine W.seq ?_
 | refine W.block ?_
 | (refine W.region tys_ok [] ?_; conv => whnf)
 | (refine W.drawAll tys_ok [] mixed rfl ?_; conv => whnf)
 | (refine W.ret ?_; conv => whnf)
 | (refine W.skip ?_; conv => whnf)
 | (refine W.exit ?_; conv => whnf)
 | (refine call_at (al := false) (c1) rfl rfl rfl rfl ?_; conv => whnf)
 | (refine W.cond rfl (fun hb => ?_) (fun hb => ?_) <;> (try simp only [zr, zd, zm, minL, maxL, pickB, zA] at hb) <;> (try (first | (cases hb; done) | exact absurd hb (by decide) | (exfalso; omega) | (omega))))
 | ((with_reducible refine And.intro ?_ ?_); exact zc; conv => whnf)
 | ((with_reducible refine And.intro (Side.out ?_) ?_); rotate_left; (conv => whnf))
 | ((first | refine retF1 ?_ | refine retF2 ?_) <;> (conv => whnf) <;> repeat' (first
 | exact trivial
 | (with_reducible rfl)
 | ((with_reducible refine And.intro ?_ ?_) <;> conv => whnf)
 | omega
 | rfl
 | (refine congrArg (SV.arr _) ?_)
 | (refine congrArg (Value.int _) ?_)
 | (refine congrArg Value.bool ?_)))); all_goals (try unfold Side)
 all_goals try (repeat' (first | exact zb | with_reducible refine And.intro ?_ ?_))
 refine W.loop (fun i : Nat => ⟨[(0, (.lit (.string ⟨⟨l⟩⟩))), (5, (.lit (.int .i64 ((tb l i : Nat) : Int)))), (13, .padr 14000 0)], [(14000, .sit ⟨⟨l⟩⟩ i)]⟩) (fun i => i ≤ l.length) (fun i => l.length - i) (0) ?_ ?_
 · refine ⟨Nat.zero_le _, ?_⟩
   refine subF.ok ?_ <;> (conv => whnf) <;> repeat' (first
 | exact trivial
 | (with_reducible rfl)
 | ((with_reducible refine And.intro ?_ ?_) <;> conv => whnf)
 | omega
 | rfl
 | (refine congrArg (SV.arr _) ?_)
 | (refine congrArg (Value.int _) ?_)
 | (refine congrArg Value.bool ?_))
 · rintro i hi
   have hle := tb_le l i
   by_cases hil : i < l.length
   · have hby : (l.getD i 0).toNat < 128 := by
      have : l.getD i 0 ∈ l := by rw [List.getD_eq_getElem?_getD, List.getElem?_eq_getElem hil]; exact List.getElem_mem _
      have := h3 _ this
      have h4 : ∀ x ∈ ([97, 98, 99, 100] : List UInt8), x.toNat < 128 := by decide
      exact h4 _ this
     have hnx : i < l.length ∧ (l.getD i 0).toNat < 128 := ⟨hil, hby⟩
     repeat' (first
 | refine W.seq ?_
 | refine W.block ?_
 | (refine W.drawPh (id := 8) tys_ok [] mixed [0, 0, 3, 0, 0, 24, 36, 0, 0, 384, 0, 0, 3072, 4608, 8256] [([0, 1, 2, 3, 4, 5, 6, 7, 8, 9, 10, 11, 12, 13, 14], 0, 32767)] (by decide +kernel) ?_; conv => whnf)
 | (refine W.region tys_ok [] ?_; conv => whnf)
 | (refine W.drawAll tys_ok [] mixed rfl ?_; conv => whnf)
 | (refine W.ret ?_; conv => whnf)
 | (refine W.skip ?_; conv => whnf)
 | (refine W.exit ?_; conv => whnf)
 | (refine Or.inl (And.intro hnx ?_); (conv => whnf))
 | (refine Both.mk ?_ ?_ <;> (conv => whnf))
 | (refine W.cond rfl (fun hb => ?_) (fun hb => ?_) <;> (try simp only [zr, zd, zm, minL, maxL, pickB, zA] at hb) <;> (try (first | (cases hb; done) | exact absurd hb (by decide) | (exfalso; omega) | (omega))))
 | ((with_reducible refine And.intro ?_ ?_); exact zc; conv => whnf)
 | ((with_reducible refine And.intro (Side.out ?_) ?_); rotate_left; (conv => whnf))
 | ((first | refine retF1 ?_ | refine retF2 ?_ | refine subF.leaf ?_ | refine subF.side ?_) <;> (conv => whnf) <;> repeat' (first
 | exact trivial
 | (with_reducible rfl)
 | ((with_reducible refine And.intro ?_ ?_) <;> conv => whnf)
 | omega
 | rfl
 | (refine congrArg (SV.arr _) ?_)
 | (refine congrArg (Value.int _) ?_)
 | (refine congrArg Value.bool ?_)))); all_goals (try unfold Side)
     all_goals first | (refine Path.imp_of ?_; show (List.drop _ (List.take _ l)).length + (List.drop _ (List.take _ l)).length ≤ 9223372036854775807; simp only [List.length_drop, List.length_take]; omega) | skip
     all_goals try (repeat' (first | exact zb | with_reducible refine And.intro ?_ ?_))
     · have hb' : Op.bytesLess (rot l i) (rot l (tb l i)) = true := by simpa [rot] using hb
       have e : tb l (i + 1) = i := by unfold tb; rw [if_pos hb']
       refine ⟨i + 1, ⟨by omega, by omega⟩, ?_⟩
       refine subF.ok ?_ <;> (conv => whnf) <;> repeat' (first
 | exact trivial
 | (with_reducible rfl)
 | ((with_reducible refine And.intro ?_ ?_) <;> conv => whnf)
 | omega
 | rfl
 | (refine congrArg (SV.arr _) ?_)
 | (refine congrArg (Value.int _) ?_)
 | (refine congrArg Value.bool ?_))
       all_goals rw [e]
     · have hb' : ¬ Op.bytesLess (rot l i) (rot l (tb l i)) = true := by simpa [rot] using hb
       have e : tb l (i + 1) = tb l i := by rw [tb, if_neg hb']
       refine ⟨i + 1, ⟨by omega, by omega⟩, ?_⟩
       refine subF.ok ?_ <;> (conv => whnf) <;> repeat' (first
 | exact trivial
 | (with_reducible rfl)
 | ((with_reducible refine And.intro ?_ ?_) <;> conv => whnf)
 | omega
 | rfl
 | (refine congrArg (SV.arr _) ?_)
 | (refine congrArg (Value.int _) ?_)
 | (refine congrArg Value.bool ?_))
       all_goals rw [e]
   · have hge : l.length ≤ i := by omega
     have hin : i = l.length := by omega
     repeat' (first
 | refine W.seq ?_
 | refine W.block ?_
 | (refine W.region tys_ok [] ?_; conv => whnf)
 | (refine W.drawAll tys_ok [] mixed rfl ?_; conv => whnf)
 | (refine W.ret ?_; conv => whnf)
 | (refine W.skip ?_; conv => whnf)
 | (refine W.exit ?_; conv => whnf)
 | (refine Or.inr (And.intro hge ?_); (conv => whnf))
 | (refine W.cond rfl (fun hb => ?_) (fun hb => ?_) <;> (try simp only [zr, zd, zm, minL, maxL, pickB, zA] at hb) <;> (try (first | (cases hb; done) | exact absurd hb (by decide) | (exfalso; omega) | (omega))))
 | ((with_reducible refine And.intro ?_ ?_); exact zc; conv => whnf)
 | ((with_reducible refine And.intro (Side.out ?_) ?_); rotate_left; (conv => whnf))
 | ((first | refine retF1 ?_ | refine retF2 ?_) <;> (conv => whnf) <;> repeat' (first
 | exact trivial
 | (with_reducible rfl)
 | ((with_reducible refine And.intro ?_ ?_) <;> conv => whnf)
 | omega
 | rfl
 | (refine congrArg (SV.arr _) ?_)
 | (refine congrArg (Value.int _) ?_)
 | (refine congrArg Value.bool ?_)))); all_goals (try unfold Side)
     all_goals try (repeat' (first | exact zb | with_reducible refine And.intro ?_ ?_))
     all_goals rw [hin]
end Go.Proofs.YtckmhlpngolbpaaDoor
namespace Go.Rg
abbrev Ct := Int × Int × Int
def bump (k : Int) (c : Ct) : Ct := if k = 1 then (c.1 + 1, c.2.1, c.2.2) else if k = 2 then (c.1, c.2.1 + 1, c.2.2) else (c.1, c.2.1, c.2.2 + 1)
theorem bump_sum {k : Int} {c : Ct} : (bump k c).1 + (bump k c).2.1 + (bump k c).2.2 = c.1 + c.2.1 + c.2.2 + 1 := by
 unfold bump
 split
 · dsimp only; omega
 · split <;> (dsimp only; omega)
def F' (r : Rn) : Nat → List Nt := fun i => r.2.1.getD i []
def pA (_ : Nt) : Int := 1
theorem cs_pA : ∀ {l : List Nt}, cs pA l = l.length
 | [] => rfl
 | x :: l => by rw [cs, cs_pA, List.length_cons]; unfold pA; omega
theorem prv_next {n i : Nat} (h : i < n) : prv n ((i + 1) % n) = i := by
 unfold prv
 by_cases e : i + 1 = n
 · rw [e, Nat.mod_self, if_pos rfl]; omega
 · rw [Nat.mod_eq_of_lt (by omega), if_neg (by omega)]; omega
theorem pB_set {l : List Pe} {i : Nat} {x : Pe} (hi : i < l.length) (j : Nat) : pB (l.set i x) j = if j = i then x.2.1 else pB l j := by
 unfold pB; rw [getD_setP hi]; split <;> rfl
theorem pL_set {l : List Pe} {i : Nat} {x : Pe} (hi : i < l.length) (j : Nat) : pL (l.set i x) j = if j = i then x.2.2.1 else pL l j := by
 unfold pL; rw [getD_setP hi]; split <;> rfl
theorem pN_set {l : List Pe} {i : Nat} {x : Pe} (hi : i < l.length) (j : Nat) : pN (l.set i x) j = if j = i then x.1 else pN l j := by
 unfold pN; rw [getD_setP hi]; split <;> rfl
theorem pV_set {l : List Pe} {i : Nat} {x : Pe} (hi : i < l.length) (j : Nat) : pV (l.set i x) j = if j = i then x.2.2.2.1 else pV l j := by
 unfold pV; rw [getD_setP hi]; split <;> rfl
theorem pO_set {l : List Pe} {i : Nat} {x : Pe} (hi : i < l.length) (j : Nat) : pO (l.set i x) j = if j = i then x.2.2.2.2.1 else pO l j := by
 unfold pO; rw [getD_setP hi]; split <;> rfl
theorem pR_set {l : List Pe} {i : Nat} {x : Pe} (hi : i < l.length) (j : Nat) : pR (l.set i x) j = if j = i then x.2.2.2.2.2.1 else pR l j := by
 unfold pR; rw [getD_setP hi]; split <;> rfl
theorem F_set {l : List (List Nt)} {i : Nat} {x : List Nt} (hi : i < l.length) (j : Nat) : (l.set i x).getD j [] = if j = i then x else l.getD j [] := getD_setF hi
structure Nm (n : Nat) (num : Nat → Int) (r : Rn) : Prop where
 nm : ∀ i, i < n → pN r.1 i = num i
 nv : ∀ i, i < n → pV r.1 i = num i
structure EC (n m0 : Nat) (num : Nat → Int) (M : Int) (r : Rn) (c : Ct) : Prop where
 ok : ROk n false r
 nm : Nm n num r
 ci : ∃ X ph, CI n m0 num M X ph ⟨pB r.1, pL r.1, F' r, c.1, c.2.2⟩
 c2 : c.2.1 = 0
 sent : r.2.2 = c.1 + c.2.2 + sumR (fun i => cs pA (F' r i)) n
variable {n m0 : Nat} {num : Nat → Int} {M : Int} {r : Rn} {c : Ct}
theorem upd_fun {α : Type} {f g : Nat → α} {i : Nat} {x : α} (h : ∀ j, g j = if j = i then x else f j) : g = upd f i x := funext fun j => by rw [h]; rfl
theorem F_send {r : Rn} {i : Nat} {k v : Int} (hi : i < r.2.1.length) : F' (sendR i k v r) = upd (F' r) i (F' r i ++ [(k, v, ())]) := upd_fun fun j => F_set hi j
theorem F_drop {ps : List Pe} {fl : List (List Nt)} {s : Int} {i : Nat} {rest : List Nt} (hi : i < fl.length) : F' (ps, fl.set i rest, s) = upd (F' (ps, fl, s)) i rest := upd_fun fun j => F_set hi j
theorem Nm.set (h : Nm n num r) {i : Nat} {x : Pe} (hi : i < r.1.length) (h1 : x.1 = pN r.1 i) (h2 : x.2.2.2.1 = pV r.1 i) {f : List (List Nt) × Int} : Nm n num (r.1.set i x, f) := by
 refine ⟨fun j hj => ?_, fun j hj => ?_⟩
 · show pN (r.1.set i x) j = _
   rw [pN_set hi]
   split
   · rename_i e; rw [h1, ← e]; exact h.nm j hj
   · exact h.nm j hj
 · show pV (r.1.set i x) j = _
   rw [pV_set hi]
   split
   · rename_i e; rw [h2, ← e]; exact h.nv j hj
   · exact h.nv j hj
theorem EC.begin (hM : Mx n m0 num M) (h : EC n m0 num M r c) {i : Nat} (hi : i < n) (hb : pB r.1 i = false) : EC n m0 num M (beginR i r) c := by
 have hip : i < r.1.length := by rw [h.ok.len]; exact hi
 have hif : i < r.2.1.length := by rw [h.ok.fln]; exact hi
 obtain ⟨X, ph, hc⟩ := h.ci
 obtain ⟨X', ph', hc'⟩ := ci_beg hM hc hi hb
 have hv := h.nm.nv i hi
 have eF : F' (beginR i r) = upd (F' r) i (F' r i ++ [(1, num i, ())]) := by
  unfold beginR
  rw [F_send (r := (setB r.1 i, r.2)) hif, hv]; rfl
 refine ⟨h.ok.begin hi, ?_, ⟨X', ph', ?_⟩, h.c2, ?_⟩
 · have e := h.nm.set (i := i) (x := (pN r.1 i, true, pL r.1 i, pV r.1 i, pO r.1 i, pR r.1 i, pW r.1 i, ())) (f := (beginR i r).2) hip rfl rfl
   exact e
 · have e1 : pB (beginR i r).1 = upd (pB r.1) i true := upd_fun fun j => pB_set hip j
   have e2 : pL (beginR i r).1 = pL r.1 := funext fun j => by
    show pL (setB r.1 i) j = _
    unfold setB
    rw [pL_set hip]
    split
    · rename_i e; rw [e]
    · rfl
   rw [e1, e2, eF]
   exact hc'
 · rw [eF, ap_sum1 hi]
   have := h.sent
   show r.2.2 + 1 = c.1 + c.2.2 + (sumR (fun i => cs pA (F' r i)) n + cs pA [(1, num i, ())])
   rw [this, cs_pA, List.length_singleton]; omega
theorem head_of {l : List Nt} (h : l.length ≠ 0) : l = l.getD 0 N0 :: l.drop 1 := by
 cases l with
 | nil => exact absurd rfl h
 | cons x t => rfl
theorem fd_nil {F : Nat → List Nt} {a b : Nat} {rest : List Nt} : Fd F a b rest [] = upd F a rest := funext fun j => by
 unfold Fd
 by_cases e : j = b
 · rw [e, upd_at, List.append_nil]
 · rw [upd_ne e]
theorem F_deliver {r : Rn} {ps : List Pe} {i b : Nat} {rest : List Nt} {k v s : Int} (hi : i < r.2.1.length) (hb : b < r.2.1.length) : F' (sendR b k v (ps, r.2.1.set i rest, s)) = Fd (F' r) i b rest [(k, v, ())] := by
 rw [F_send (r := (ps, r.2.1.set i rest, s)) (by rw [List.length_set]; exact hb), F_drop hi]; rfl
theorem F_deliver0 {r : Rn} {ps : List Pe} {i b : Nat} {rest : List Nt} {s : Int} (hi : i < r.2.1.length) : F' (ps, r.2.1.set i rest, s) = Fd (F' r) i b rest [] := by
 rw [fd_nil, F_drop hi]; rfl
theorem EC.fin (h : EC n m0 num M r c) {i : Nat} (hi : i < n) {m : Nt} {rest out : List Nt} (hm : F' r i = m :: rest) {r2 : Rn} {c' : Ct} (hok : ROk n false r2) (hnm : Nm n num r2) (hF : F' r2 = Fd (F' r) i ((i + 1) % n) rest out)
  (hs : r2.2.2 = r.2.2 + out.length) (hc : c'.1 + c'.2.2 = c.1 + c.2.2 + 1) (h2 : c'.2.1 = 0) (hci : ∃ X ph, CI n m0 num M X ph ⟨pB r2.1, pL r2.1, F' r2, c'.1, c'.2.2⟩) : EC n m0 num M r2 c' := by
 refine ⟨hok, hnm, hci, h2, ?_⟩
 have hn := h.ok.n0
 rw [hF, fd_sum1 hi (Nat.mod_lt _ hn) hm, cs_pA, hs, h.sent]
 have : pA m = 1 := rfl
 omega
theorem rdel_eq {pet : Bool} {i : Nat} (h : ROk n pet r) (hi : i < n) (hne : (F' r i).length ≠ 0) : rdelK pet (i : Int) r = rdelL pet i r := by
 have e : rdelE (i : Int) r = 0 := by
  unfold rdelE
  rw [if_pos (has_of (by rw [h.len]; exact hi)), Int.toNat_natCast]
  exact if_neg hne
 unfold rdelK
 rw [if_pos e, Int.toNat_natCast]
theorem EC.del (hM : Mx n m0 num M) (h : EC n m0 num M r c) {i : Nat} (hi : i < n) (hne : (F' r i).length ≠ 0) : EC n m0 num M (rdelK false (i : Int) r) (bump ((F' r i).getD 0 N0).1 c) := by
 have hhd := head_of hne
 have hkd := h.ok.head hne rfl
 have hok := h.ok.del (i := (i : Int))
 rw [rdel_eq h.ok hi hne] at hok ⊢
 obtain ⟨m, hmd⟩ : ∃ m, m = (F' r i).getD 0 N0 := ⟨_, rfl⟩
 obtain ⟨rest, hrd⟩ : ∃ rest, rest = (F' r i).drop 1 := ⟨_, rfl⟩
 have hm : F' r i = m :: rest := by rw [hmd, hrd]; exact hhd
 have hkd : m.1 = 1 ∨ m.1 = 3 := by rw [hmd]; exact hkd
 rw [← hmd]
 obtain ⟨b, hbd⟩ : ∃ b, b = (i + 1) % n := ⟨_, rfl⟩
 have hbn : b < n := by rw [hbd]; exact Nat.mod_lt _ h.ok.n0
 have hpb : prv n b = i := by rw [hbd]; exact prv_next hi
 have hfi : i < r.2.1.length := by rw [h.ok.fln]; exact hi
 have hfb : b < r.2.1.length := by rw [h.ok.fln]; exact hbn
 have hpl : b < r.1.length := by rw [h.ok.len]; exact hbn
 have eL : rdelL false i r = changR b m.1 m.2.1 (r.1, r.2.1.set i rest, r.2.2) := by
  unfold rdelL recvR
  rw [if_neg (by decide), h.ok.len, ← hbd, hmd, hrd]; rfl
 rw [eL] at hok ⊢
 obtain ⟨X, ph, hc⟩ := h.ci
 have hmF : (⟨pB r.1, pL r.1, F' r, c.1, c.2.2⟩ : Cn).F (prv n b) = m :: rest := by rw [hpb]; exact hm
 have hnb := h.nm.nm b hbn
 have hvb := h.nm.nv b hbn
 have keep : ∀ {f : List (List Nt) × Int}, Nm n num (r.1, f) := fun {f} => ⟨h.nm.nm, h.nm.nv⟩
 have eL1 : ∀ v, pL (setL r.1 b v) = upd (pL r.1) b v := fun v => upd_fun fun j => pL_set hpl j
 have eB1 : ∀ v, pB (setL r.1 b v) = pB r.1 := fun v => funext fun j => by
  unfold setL; rw [pB_set hpl]; split
  · rename_i e; rw [e]
  · rfl
 have eB2 : pB (setB r.1 b) = upd (pB r.1) b true := upd_fun fun j => pB_set hpl j
 have eL2 : pL (setB r.1 b) = pL r.1 := funext fun j => by
  unfold setB; rw [pL_set hpl]; split
  · rename_i e; rw [e]
  · rfl
 have nL : ∀ {v : Int} {f : List (List Nt) × Int}, Nm n num (setL r.1 b v, f) := fun {v f} => h.nm.set (x := (pN r.1 b, pB r.1 b, v, pV r.1 b, pO r.1 b, pR r.1 b, pW r.1 b, ())) hpl rfl rfl
 have nB : ∀ {f : List (List Nt) × Int}, Nm n num (setB r.1 b, f) := fun {f} => h.nm.set (x := (pN r.1 b, true, pL r.1 b, pV r.1 b, pO r.1 b, pR r.1 b, pW r.1 b, ())) hpl rfl rfl
 have c2 := h.c2
 unfold changR at hok ⊢
 dsimp only at hok ⊢
 rw [hnb] at hok ⊢
 by_cases k3 : m.1 = 3
 · obtain ⟨l1, l2, l3⟩ := ci_lead hM hc hbn hmF k3
   have eb : bump m.1 c = (c.1, c.2.1, c.2.2 + 1) := by unfold bump; rw [if_neg (by omega), if_neg (by omega)]
   rw [eb]
   rw [if_pos k3] at hok ⊢
   by_cases own : m.2.1 = num b
   · rw [if_pos own] at hok ⊢
     refine h.fin hi hm (out := []) hok keep (by rw [← hbd]; exact F_deliver0 hfi) (by simp) (by dsimp only; omega) c2 ⟨X, 3, ?_⟩
     have q := l2 (by rw [← own, l1])
     unfold dlC at q
     rw [hpb] at q
     rw [F_deliver0 (b := b) hfi]
     exact q
   · rw [if_neg own] at hok ⊢
     refine h.fin hi hm (out := [(m.1, m.2.1, ())]) hok nL (by rw [← hbd]; exact F_deliver hfi hfb) rfl (by dsimp only; omega) c2 ⟨X, 2, ?_⟩
     have q := l3 (fun e => own (by rw [l1, e]))
     unfold dlC at q
     rw [hpb] at q
     rw [F_deliver hfi hfb]
     show CI n m0 num M X 2 ⟨pB (setL r.1 b m.2.1), pL (setL r.1 b m.2.1), _, _, _⟩
     rw [eB1, eL1, k3, l1]
     exact q
 · have k1 : m.1 = 1 := by omega
   have eb : bump m.1 c = (c.1 + 1, c.2.1, c.2.2) := by unfold bump; rw [if_pos k1]
   rw [eb]
   rw [if_neg k3] at hok ⊢
   by_cases own : m.2.1 = num b
   · rw [if_pos own] at hok ⊢
     obtain ⟨l1, l2⟩ := ci_own hM hc hbn hmF k1 own
     refine h.fin hi hm (out := [(3, m.2.1, ())]) hok nL (by rw [← hbd]; exact F_deliver hfi hfb) rfl (by dsimp only; omega) c2 ⟨X, 2, ?_⟩
     have q := l2
     unfold dlC at q
     rw [hpb] at q
     rw [F_deliver hfi hfb]
     show CI n m0 num M X 2 ⟨pB (setL r.1 b m.2.1), pL (setL r.1 b m.2.1), _, _, _⟩
     rw [eB1, eL1, own, l1]
     exact q
   · rw [if_neg own] at hok ⊢
     by_cases big : num b < m.2.1
     · rw [if_pos big] at hok ⊢
       have q := ci_fwd hM hc hbn hmF k1 big
       refine h.fin hi hm (out := [(m.1, m.2.1, ())]) hok nB (by rw [← hbd]; exact F_deliver hfi hfb) rfl (by dsimp only; omega) c2 ⟨X, ph, ?_⟩
       unfold dlC at q
       rw [hpb] at q
       rw [F_deliver hfi hfb]
       show CI n m0 num M X ph ⟨pB (setB r.1 b), pL (setB r.1 b), _, _, _⟩
       rw [eB2, eL2, k1]
       exact q
     · rw [if_neg big] at hok ⊢
       have small : m.2.1 < num b := by omega
       by_cases beg : pB r.1 b = true
       · rw [if_pos beg] at hok ⊢
         have q := ci_swa hM hc hbn hmF k1 small beg
         refine h.fin hi hm (out := []) hok keep (by rw [← hbd]; exact F_deliver0 hfi) (by simp) (by dsimp only; omega) c2 ⟨X, ph, ?_⟩
         unfold dlC at q
         rw [hpb] at q
         rw [F_deliver0 (b := b) hfi]
         exact q
       · rw [if_neg beg] at hok ⊢
         have beg : pB r.1 b = false := by simpa using beg
         obtain ⟨X', ph', q⟩ := ci_wake hM hc hbn hmF k1 small beg
         refine h.fin hi hm (out := [(1, pV r.1 b, ())]) hok nB (by rw [← hbd]; exact F_deliver hfi hfb) rfl (by dsimp only; omega) c2 ⟨X', ph', ?_⟩
         unfold dlC at q
         rw [hpb] at q
         unfold beginR
         rw [F_deliver hfi hfb]
         show CI n m0 num M X' ph' ⟨pB (setB r.1 b), pL (setB r.1 b), Fd (F' r) i b rest [(1, pV r.1 b, ())], _, _⟩
         rw [eB2, eL2, hvb]
         exact q
theorem EC.quiet (hM : Mx n m0 num M) (h : EC n m0 num M r c) (hq : ∀ i, i < n → F' r i = []) (hs : ∃ i, i < n ∧ pB r.1 i = true) :
  (∀ i, i < n → pL r.1 i = M) ∧ r.2.2 = c.1 + c.2.1 + c.2.2 ∧ c.2.2 = n ∧ (n : Int) ≤ c.1 ∧ 2 * c.1 ≤ n * (n + 1) := by
 obtain ⟨X, ph, hc⟩ := h.ci
 obtain ⟨q1, q2, q3⟩ := hc.quiet hq hs
 refine ⟨q1, ?_, q2, q3, hc.few⟩
 have e : sumR (fun i => cs pA (F' r i)) n = 0 := by
  rw [sumR_congr (g := fun _ => 0) fun i hi => by rw [hq i hi]; rfl, sumR_const]; omega
 have := h.sent
 have := h.c2
 omega
theorem EC.tot (hM : Mx n m0 num M) (h : EC n m0 num M r c) : c.1 + c.2.1 + c.2.2 ≤ 65 ∧ 0 ≤ c.1 ∧ 0 ≤ c.2.1 ∧ 0 ≤ c.2.2 := by
 obtain ⟨X, ph, hc⟩ := h.ci
 have h1 := hc.few
 have h2 := hc.cl
 have h3 := hc.nn
 have h4 := h.c2
 have h5 : n ≤ 10 := h.ok.n1
 have h6 : (n : Int) * (n + 1) ≤ 10 * 11 := Int.mul_le_mul (by omega) (by omega) (by omega) (by omega)
 dsimp only at h1 h2 h3
 omega
def pw (ps : List Pe) (i : Nat) : PW := ⟨pV ps i, pO ps i, pL ps i, pR ps i⟩
def p2 (x : Nt) : Int := if x.1 = 2 then 1 else 0
theorem p2_nn (x : Nt) : 0 ≤ p2 x := by unfold p2; split <;> omega
def cD (n : Nat) (p : Nt → Int) (t : Net) : Int := sumR (fun i => cs p ((t.H i).take (t.D i))) n
structure EP (n : Nat) (num : Nat → Int) (M : Int) (R : Nat) (r : Rn) (c : Ct) : Prop where
 ok : ROk n true r
 ni : ∃ t : Net, NI n num M R t ∧ (∀ i, i < n → t.B i = pB r.1 i ∧ t.S i = pw r.1 i ∧ t.F i = F' r i) ∧ (c.1 = cD n p1 t ∧ c.2.1 = cD n p2 t ∧ c.2.2 = cD n p3 t) ∧ r.2.2 = sumR (fun i => ((t.H i).length : Int)) n
variable {n m0 : Nat} {num : Nat → Int} {M : Int} {R : Nat} {r : Rn} {c : Ct}
theorem gpre_kd {q i : Nat} {x : Nt} : ∀ {r : Nat}, x ∈ gpre n num r i → x.1 = 1 ∨ x.1 = 2
 | 0, h => by cases h
 | r + 1, h => by
  rw [gpre, List.mem_append] at h
  rcases h with h | h
  · exact gpre_kd (q := q) h
  · simp only [List.mem_cons, List.not_mem_nil, or_false] at h
    rcases h with rfl | rfl
    · exact .inl rfl
    · exact .inr rfl
theorem gAll_kd {i : Nat} {x : Nt} (h : x ∈ gAll n num M R i) : x.1 = 1 ∨ x.1 = 2 ∨ x.1 = 3 := by
 unfold gAll at h
 rw [List.mem_append] at h
 rcases h with h | h
 · rcases gpre_kd (q := 0) h with h | h
   · exact .inl h
   · exact .inr (.inl h)
 · simp only [List.mem_cons, List.not_mem_nil, or_false] at h
   rcases h with rfl | rfl
   · exact .inl rfl
   · exact .inr (.inr rfl)
theorem gpre_cs {i : Nat} : ∀ {r : Nat}, cs p1 (gpre n num r i) = r ∧ cs p2 (gpre n num r i) = r ∧ cs p3 (gpre n num r i) = 0
 | 0 => ⟨rfl, rfl, rfl⟩
 | r + 1 => by
  obtain ⟨a, b, d⟩ := gpre_cs (i := i) (r := r)
  have e : ∀ x y : Int, cs p1 [(1, x, ()), (2, y, ())] = 1 ∧ cs p2 [(1, x, ()), (2, y, ())] = 1 ∧ cs p3 [(1, x, ()), (2, y, ())] = 0 := fun x y => ⟨rfl, rfl, rfl⟩
  obtain ⟨e1, e2, e3⟩ := e (Cr n (rd n num r).1 (rd n num r).2 i) (Pr n (rd n num r).1 (rd n num r).2 i)
  rw [gpre, cs_app, cs_app, cs_app, a, b, d, e1, e2, e3]
  omega
theorem gAll_cs {i : Nat} : cs p1 (gAll n num M R i) = R + 1 ∧ cs p2 (gAll n num M R i) = R ∧ cs p3 (gAll n num M R i) = 1 := by
 obtain ⟨a, b, d⟩ := gpre_cs (n := n) (num := num) (i := i) (r := R)
 have e : cs p1 [((1 : Int), M, ()), ((3 : Int), M, ())] = 1 ∧ cs p2 [((1 : Int), M, ()), ((3 : Int), M, ())] = 0 ∧ cs p3 [((1 : Int), M, ()), ((3 : Int), M, ())] = 1 := ⟨rfl, rfl, rfl⟩
 obtain ⟨e1, e2, e3⟩ := e
 unfold gAll
 rw [cs_app, cs_app, cs_app, a, b, d, e1, e2, e3]
 omega
theorem cs_three : ∀ {l : List Nt}, (∀ x ∈ l, x.1 = 1 ∨ x.1 = 2 ∨ x.1 = 3) → cs p1 l + cs p2 l + cs p3 l = l.length
 | [], _ => rfl
 | x :: l, h => by
  have h1 := cs_three (l := l) fun y hy => h y (List.mem_cons_of_mem _ hy)
  have h2 : p1 x + p2 x + p3 x = 1 := by
   unfold p1 p2 p3
   rcases h x List.mem_cons_self with e | e | e <;> rw [e] <;> rfl
  rw [cs, cs, cs, List.length_cons]
  omega
theorem EP.kind (h : EP n num M R r c) {i : Nat} (hi : i < n) {x : Nt} (hx : x ∈ F' r i) : x.1 = 1 ∨ x.1 = 2 ∨ x.1 = 3 := by
 obtain ⟨t, ht, hr, _⟩ := h.ni
 rw [← (hr i hi).2.2, (ht.way i hi).1] at hx
 exact gAll_kd ((ht.pre i hi).subset (List.mem_of_mem_drop hx))
theorem setB_pw {ps : List Pe} {i : Nat} (hi : i < ps.length) (j : Nat) : pw (setB ps i) j = pw ps j := by
 unfold setB pw
 rw [pV_set hi, pO_set hi, pL_set hi, pR_set hi]
 split
 · rename_i e; rw [e]
 · rfl
theorem EP.begin (hl : Last n num M R) (h : EP n num M R r c) {i : Nat} (hi : i < n) (hb : pB r.1 i = false) : EP n num M R (beginR i r) c := by
 obtain ⟨t, ht, hr, hc, hs⟩ := h.ni
 have hip : i < r.1.length := by rw [h.ok.len]; exact hi
 have hif : i < r.2.1.length := by rw [h.ok.fln]; exact hi
 have hbt : t.B i = false := by rw [(hr i hi).1]; exact hb
 obtain ⟨o1, o2, o3⟩ := ht.off i hi hbt
 have hv : pV r.1 i = num i := by
  have := (hr i hi).2.1
  rw [o3] at this
  exact (congrArg PW.val this).symm
 have hD : t.D i = 0 := by have := (ht.way i hi).2; rw [o1] at this; simpa using this
 refine ⟨h.ok.begin hi, begN num i t, ni_beg hl ht hi hbt, fun j hj => ⟨?_, ?_, ?_⟩, ?_, ?_⟩
 · show upd t.B i true j = pB (setB r.1 i) j
   unfold setB
   rw [pB_set hip]
   unfold upd
   split
   · rfl
   · exact (hr j hj).1
 · show t.S j = pw (setB r.1 i) j
   rw [setB_pw hip]; exact (hr j hj).2.1
 · show upd t.F i (t.F i ++ [(1, num i, ())]) j = F' (sendR i 1 (pV r.1 i) (setB r.1 i, r.2)) j
   rw [F_send (r := (setB r.1 i, r.2)) hif, hv]
   unfold upd
   split
   · rw [(hr i hi).2.2]; rfl
   · exact (hr j hj).2.2
 · have e : ∀ p, cD n p (begN num i t) = cD n p t := fun p => sumR_congr fun j hj => by
    show cs p ((upd t.H i (t.H i ++ [(1, num i, ())]) j).take (t.D j)) = _
    unfold upd
    split
    · rename_i e; rw [e, hD]; rfl
    · rfl
   rw [e, e, e]; exact hc
 · show r.2.2 + 1 = sumR (fun j => ((upd t.H i (t.H i ++ [(1, num i, ())]) j).length : Int)) n
   have e : sumR (fun j => ((upd t.H i (t.H i ++ [(1, num i, ())]) j).length : Int)) n = sumR (fun j => ((t.H j).length : Int) + 1 * ind i j) n := sumR_congr fun j hj => by
    unfold upd ind
    split
    · rename_i e; rw [e, List.length_append, List.length_singleton]; omega
    · omega
   rw [hs, e, sumR_add, sumR_pick hi]
theorem peter_eq {b : Nat} (hb : b < r.1.length) {k v : Int} (hk : k = 1 ∨ k = 2 ∨ k = 3) :
  (∀ j, pB (peterS b k v r).1 j = pB r.1 j) ∧ (∀ j, pw (peterS b k v r).1 j = if j = b then (peS (pw r.1 b) (k, v, ())).1 else pw r.1 j) ∧
  (∀ j, b < r.2.1.length → F' (peterS b k v r) j = if j = b then F' r b ++ (peS (pw r.1 b) (k, v, ())).2 else F' r j) ∧ (peterS b k v r).2.2 = r.2.2 + ((peS (pw r.1 b) (k, v, ())).2.length : Int) := by
 have fs : ∀ {ps : List Pe} {k v : Int} j, b < r.2.1.length → F' (sendR b k v (ps, r.2)) j = if j = b then F' r b ++ [(k, v, ())] else F' r j := fun {ps k v} j hbf => by
  rw [F_send (r := (ps, r.2)) hbf]; rfl
 have keepB : ∀ {x : Pe} j, x.2.1 = pB r.1 b → pB (r.1.set b x) j = pB r.1 j := fun {x} j hx => by
  rw [pB_set hb]; split
  · rename_i e; rw [hx, e]
  · rfl
 have spw : ∀ {x : Pe} j, pw (r.1.set b x) j = if j = b then ⟨x.2.2.2.1, x.2.2.2.2.1, x.2.2.1, x.2.2.2.2.2.1⟩ else pw r.1 j := fun {x} j => by
  unfold pw
  rw [pV_set hb, pO_set hb, pL_set hb, pR_set hb]
  split <;> rfl
 have same : ∀ j, pw r.1 j = if j = b then pw r.1 b else pw r.1 j := fun j => by
  split
  · rename_i e; rw [e]
  · rfl
 have noF : ∀ j, F' r j = if j = b then F' r b ++ [] else F' r j := fun j => by
  split
  · rename_i e; rw [e, List.append_nil]
  · rfl
 have eL : (pw r.1 b).leader = pL r.1 b := rfl
 have eV : (pw r.1 b).val = pV r.1 b := rfl
 have eO : (pw r.1 b).noted = pO r.1 b := rfl
 have eR : (pw r.1 b).psv = pR r.1 b := rfl
 unfold Go.Rg.peterS peS
 dsimp only
 rw [eL, eV, eO, eR]
 by_cases k3 : k = 3
 · rw [if_pos k3, if_pos k3]
   by_cases l0 : pL r.1 b = 0
   · rw [if_pos l0, if_pos l0]
     refine ⟨fun j => keepB j rfl, fun j => spw j, fun j hf => ?_, rfl⟩
     rw [← k3]
     exact fs j hf
   · rw [if_neg l0, if_neg l0]
     exact ⟨fun _ => rfl, same, fun j _ => noF j, (Int.add_zero _).symm⟩
 · rw [if_neg k3, if_neg k3]
   by_cases pr : pR r.1 b = true
   · rw [if_pos pr, if_pos pr]
     exact ⟨fun _ => rfl, same, fun j hf => fs j hf, rfl⟩
   · rw [if_neg pr, if_neg pr]
     by_cases k1 : k = 1
     · rw [if_pos k1]
       by_cases hv : v = pV r.1 b
       · rw [if_pos hv, if_pos ⟨k1, hv⟩]
         exact ⟨fun j => keepB j rfl, fun j => spw j, fun j hf => fs j hf, rfl⟩
       · rw [if_neg hv, if_neg (fun c : k = 1 ∧ v = pV r.1 b => hv c.2), if_pos k1]
         exact ⟨fun j => keepB j rfl, fun j => spw j, fun j hf => fs j hf, rfl⟩
     · rw [if_neg k1, if_neg (fun c : k = 1 ∧ v = pV r.1 b => k1 c.1), if_neg k1]
       by_cases hv : pV r.1 b < pO r.1 b ∧ v < pO r.1 b
       · rw [if_pos hv, if_pos hv]
         exact ⟨fun j => keepB j rfl, fun j => spw j, fun j hf => fs j hf, rfl⟩
       · rw [if_neg hv, if_neg hv]
         exact ⟨fun j => keepB j rfl, fun j => spw j, fun j _ => noF j, (Int.add_zero _).symm⟩
theorem cD_del {t : Net} {b i : Nat} (hi : i < n) (hb : b < n) (hpb : prv n b = i) {m : Nt} {rest : List Nt} (hw : ∀ j, j < n → t.F j = (t.H j).drop (t.D j) ∧ t.D j ≤ (t.H j).length) (hm : t.F i = m :: rest) {p : Nt → Int} : cD n p (delN n b m rest t) = cD n p t + p m := by
 have e : cD n p (delN n b m rest t) = sumR (fun j => cs p ((t.H j).take (t.D j)) + p m * ind i j) n := sumR_congr fun j hj => by
  obtain ⟨w1, w2⟩ := hw j hj
  have eH : ∃ o, (delN n b m rest t).H j = t.H j ++ o := by
   show ∃ o, upd t.H b (t.H b ++ (peS (t.S b) m).2) j = t.H j ++ o
   unfold upd
   split
   · rename_i e; rw [e]; exact ⟨_, rfl⟩
   · exact ⟨[], (List.append_nil _).symm⟩
  obtain ⟨o, eH⟩ := eH
  have eD : (delN n b m rest t).D j = if j = i then t.D i + 1 else t.D j := by
   show upd t.D (prv n b) (t.D (prv n b) + 1) j = _
   rw [hpb]; rfl
  rw [eH, eD]
  unfold ind
  by_cases e : j = i
  · subst e
    rw [if_pos rfl, if_pos rfl]
    rw [hm] at w1
    obtain ⟨k1, k2, k3⟩ := take_more w1.symm
    rw [List.take_append_of_le_length (by omega), k1, cs_app, cs, cs]; omega
  · rw [if_neg e, if_neg e, List.take_append_of_le_length w2]; omega
 rw [e, sumR_add, sumR_pick hi]; rfl
theorem bump_is {m : Nt} (h : m.1 = 1 ∨ m.1 = 2 ∨ m.1 = 3) : bump m.1 c = (c.1 + p1 m, c.2.1 + p2 m, c.2.2 + p3 m) := by
 unfold bump p1 p2 p3
 rcases h with e | e | e
 · rw [if_pos e, if_pos e, if_neg (by omega), if_neg (by omega), Int.add_zero, Int.add_zero]
 · rw [if_neg (by omega), if_pos e, if_neg (by omega), if_pos e, if_neg (by omega), Int.add_zero, Int.add_zero]
 · rw [if_neg (by omega), if_neg (by omega), if_neg (by omega), if_neg (by omega), if_pos e, Int.add_zero, Int.add_zero]
theorem EP.step (hl : Last n num M R) (h : EP n num M R r c) {i b : Nat} (hi : i < n) (hb : b < n) (hpb : prv n b = i) (hB : pB r.1 b = true) {m : Nt} {rest : List Nt} (hm : F' r i = m :: rest) :
  EP n num M R (peterS b m.1 m.2.1 (r.1, r.2.1.set i rest, r.2.2)) (bump m.1 c) := by
 have hkd := h.kind hi (by rw [hm]; exact List.mem_cons_self)
 have hok : ROk n true (r.1, r.2.1.set i rest, r.2.2) := by
  have := h.ok.drop hi
  have e : (r.2.1.getD i []).drop 1 = rest := by
   have hm' : r.2.1.getD i [] = m :: rest := hm
   rw [hm']; rfl
  rwa [e] at this
 obtain ⟨t, ht, hr, hc, hs⟩ := h.ni
 have hfi : i < r.2.1.length := by rw [h.ok.fln]; exact hi
 have hfb : b < r.2.1.length := by rw [h.ok.fln]; exact hb
 have hpl : b < r.1.length := by rw [h.ok.len]; exact hb
 obtain ⟨q1, q2, q3, q4⟩ := peter_eq (r := (r.1, r.2.1.set i rest, r.2.2)) (b := b) hpl (v := m.2.1) hkd
 have hmt : t.F (prv n b) = m :: rest := by rw [hpb, (hr i hi).2.2]; exact hm
 have hBt : t.B b = true := by rw [(hr b hb).1]; exact hB
 have hSb : t.S b = pw r.1 b := (hr b hb).2.1
 have eF : ∀ j, j < n → upd t.F i rest j = F' (r.1, r.2.1.set i rest, r.2.2) j := fun j hj => by
  rw [F_drop hfi]
  unfold upd
  split
  · rfl
  · exact (hr j hj).2.2
 have hlen := q4
 refine ⟨hok.peterS hb, delN n b m rest t, ni_del hl ht hb hBt hmt, fun j hj => ⟨?_, ?_, ?_⟩, ?_, ?_⟩
 · rw [q1]; exact (hr j hj).1
 · rw [q2]
   show upd t.S b (peS (t.S b) m).1 j = _
   rw [hSb]
   unfold upd
   split
   · rfl
   · exact (hr j hj).2.1
 · rw [q3 j (by rw [List.length_set]; exact hfb)]
   show upd (upd t.F (prv n b) rest) b (upd t.F (prv n b) rest b ++ (peS (t.S b) m).2) j = _
   rw [hpb, eF b hb, hSb]
   by_cases e : j = b
   · rw [e, upd_at, if_pos rfl]
   · rw [upd_ne e, if_neg e]; exact eF j hj
 · rw [bump_is hkd, cD_del hi hb hpb ht.way (by rw [← hpb]; exact hmt), cD_del hi hb hpb ht.way (by rw [← hpb]; exact hmt), cD_del hi hb hpb ht.way (by rw [← hpb]; exact hmt), hc.1, hc.2.1, hc.2.2]
   exact ⟨rfl, rfl, rfl⟩
 · have e : sumR (fun j => (((delN n b m rest t).H j).length : Int)) n = sumR (fun j => ((t.H j).length : Int) + ((peS (t.S b) m).2.length : Int) * ind b j) n := sumR_congr fun j hj => by
    show ((upd t.H b (t.H b ++ (peS (t.S b) m).2) j).length : Int) = _
    unfold upd ind
    split
    · rename_i e; rw [e, List.length_append]; omega
    · omega
   rw [e, sumR_add, sumR_pick hb, ← hs, hSb]
   exact q4
theorem wake_drop {b i : Nat} {m : Nt} {rest : List Nt} (hi : i < r.2.1.length) (hb : b < r.2.1.length) (hm : F' r i = m :: rest) :
  ∃ rest', F' (wakeR b r) i = m :: rest' ∧ wakeR b (r.1, r.2.1.set i rest, r.2.2) = ((wakeR b r).1, (wakeR b r).2.1.set i rest', (wakeR b r).2.2) := by
 unfold wakeR
 dsimp only
 by_cases hB : pB r.1 b = true
 · rw [if_pos hB, if_pos hB]; exact ⟨rest, hm, rfl⟩
 · rw [if_neg hB, if_neg hB]
   have eF : F' (beginR b r) = upd (F' r) b (F' r b ++ [(1, pV r.1 b, ())]) := by
    unfold beginR
    rw [F_send (r := (setB r.1 b, r.2)) hb]; rfl
   by_cases e : i = b
   · subst e
     refine ⟨rest ++ [(1, pV r.1 i, ())], by rw [eF, upd_at, hm]; rfl, ?_⟩
     unfold beginR sendR
     dsimp only
     rw [List.set_set, List.set_set]
     have e2 : (r.2.1.set i rest).getD i [] = rest := by rw [F_set hi, if_pos rfl]
     rw [e2]
   · refine ⟨rest, by rw [eF, upd_ne e]; exact hm, ?_⟩
     unfold beginR sendR
     dsimp only
     have e2 : (r.2.1.set i rest).getD b [] = r.2.1.getD b [] := by rw [F_set hi, if_neg fun c => e c.symm]
     rw [e2, List.set_comm _ _ e]
theorem EP.del (hl : Last n num M R) (h : EP n num M R r c) {i : Nat} (hi : i < n) (hne : (F' r i).length ≠ 0) : EP n num M R (rdelK true (i : Int) r) (bump ((F' r i).getD 0 N0).1 c) := by
 have hhd := head_of hne
 rw [rdel_eq h.ok hi hne]
 obtain ⟨m, hmd⟩ : ∃ m, m = (F' r i).getD 0 N0 := ⟨_, rfl⟩
 obtain ⟨rest, hrd⟩ : ∃ rest, rest = (F' r i).drop 1 := ⟨_, rfl⟩
 have hm : F' r i = m :: rest := by rw [hmd, hrd]; exact hhd
 rw [← hmd]
 obtain ⟨b, hbd⟩ : ∃ b, b = (i + 1) % n := ⟨_, rfl⟩
 have hbn : b < n := by rw [hbd]; exact Nat.mod_lt _ h.ok.n0
 have hpb : prv n b = i := by rw [hbd]; exact prv_next hi
 have hfi : i < r.2.1.length := by rw [h.ok.fln]; exact hi
 have hfb : b < r.2.1.length := by rw [h.ok.fln]; exact hbn
 have hpl : b < r.1.length := by rw [h.ok.len]; exact hbn
 have eL : rdelL true i r = peterS b m.1 m.2.1 (wakeR b (r.1, r.2.1.set i rest, r.2.2)) := by
  unfold rdelL recvR
  rw [if_pos rfl, h.ok.len, ← hbd, hmd, hrd]; rfl
 obtain ⟨rest', w1, w2⟩ := wake_drop hfi hfb hm
 rw [eL, w2]
 have hw : EP n num M R (wakeR b r) c := by
  unfold wakeR
  split
  · exact h
  · rename_i hB
    exact h.begin hl hbn (by simpa using hB)
 refine hw.step hl hi hbn hpb ?_ w1
 unfold wakeR
 split
 · rename_i hB; exact hB
 · show pB (setB r.1 b) b = true
   unfold setB
   rw [pB_set hpl, if_pos rfl]
theorem EP.quiet (hl : Last n num M R) (h : EP n num M R r c) (hq : ∀ i, i < n → F' r i = []) (hs : ∃ i, i < n ∧ pB r.1 i = true) :
  (∀ i, i < n → pL r.1 i = M) ∧ r.2.2 = c.1 + c.2.1 + c.2.2 ∧ c.2.2 = n ∧ c.1 + c.2.1 = n * (2 * R + 1) := by
 obtain ⟨t, ht, hr, hc, hsn⟩ := h.ni
 obtain ⟨i0, hi0, hb0⟩ := hs
 have q := ht.quiet hl (fun i hi => by rw [(hr i hi).2.2]; exact hq i hi) ⟨i0, hi0, by rw [(hr i0 hi0).1]; exact hb0⟩
 have e : ∀ p, cD n p t = sumR (fun i => cs p (gAll n num M R i)) n := fun p => sumR_congr fun i hi => by
  obtain ⟨q1, q2, _⟩ := q i hi
  rw [q1, q2, List.take_of_length_le (by rw [gAll_len]; omega)]
 have e1 : c.1 = (R + 1) * n := by
  rw [hc.1, e, sumR_congr (g := fun _ => (R : Int) + 1) fun i _ => gAll_cs.1, sumR_const]
 have e2 : c.2.1 = R * n := by
  rw [hc.2.1, e, sumR_congr (g := fun _ => (R : Int)) fun i _ => gAll_cs.2.1, sumR_const]
 have e3 : c.2.2 = n := by
  rw [hc.2.2, e, sumR_congr (g := fun _ => (1 : Int)) fun i _ => gAll_cs.2.2, sumR_const]; omega
 have e4 : r.2.2 = (2 * R + 2) * n := by
  rw [hsn, sumR_congr (g := fun _ => (2 : Int) * R + 2) fun i hi => by
   rw [(q i hi).1, gAll_len]; omega, sumR_const]
 have x1 : ((R : Int) + 1) * n = R * n + n := by rw [Int.add_mul, Int.one_mul]
 have x2 : (2 * (R : Int) + 2) * n = 2 * (R * n) + 2 * n := by rw [Int.add_mul, Int.mul_assoc]
 have x3 : (n : Int) * (2 * R + 1) = 2 * (R * n) + n := by rw [Int.mul_comm, Int.add_mul, Int.mul_assoc, Int.one_mul]
 refine ⟨fun i hi => ?_, ?_, e3, ?_⟩
 · have e : (t.S i).leader = pL r.1 i := by rw [(hr i hi).2.1]; rfl
   rw [← e]; exact (q i hi).2.2
 · rw [e1, e2, e3, e4, x1, x2]; omega
 · rw [e1, e2, x1, x3]; omega
theorem EP.tot (h : EP n num M R r c) (hR : 2 ^ R ≤ n) : c.1 + c.2.1 + c.2.2 ≤ 80 ∧ 0 ≤ c.1 ∧ 0 ≤ c.2.1 ∧ 0 ≤ c.2.2 := by
 obtain ⟨t, ht, hr, hc, hsn⟩ := h.ni
 have h5 : n ≤ 10 := h.ok.n1
 have hR3 : R ≤ 3 := Classical.byContradiction fun hc => by
  have : 2 ^ 4 ≤ 2 ^ R := Nat.pow_le_pow_right (by decide) (by omega)
  omega
 have s : ∀ i, i < n → cs p1 ((t.H i).take (t.D i)) + cs p2 ((t.H i).take (t.D i)) + cs p3 ((t.H i).take (t.D i)) ≤ 8 := fun i hi => by
  rw [cs_three fun x hx => gAll_kd ((ht.pre i hi).subset (List.mem_of_mem_take hx))]
  have h1 := (ht.pre i hi).length_le
  rw [gAll_len] at h1
  have h2 := List.length_take_le (t.D i) (t.H i)
  rw [List.length_take]
  omega
 have s2 : sumR (fun i => cs p1 ((t.H i).take (t.D i)) + cs p2 ((t.H i).take (t.D i)) + cs p3 ((t.H i).take (t.D i))) n ≤ sumR (fun _ => 8) n := sumR_le s
 rw [sumR_add (f := fun i => cs p1 ((t.H i).take (t.D i)) + cs p2 ((t.H i).take (t.D i))), sumR_add, sumR_const] at s2
 have g : ∀ p : Nt → Int, (∀ x, 0 ≤ p x) → 0 ≤ cD n p t := fun p hp => sumR_nn fun i _ => cs_nn hp
 have g1 := g p1 p1_nn
 have g2 := g p2 p2_nn
 have g3 := g p3 p3_nn
 have s3 : cD n p1 t + cD n p2 t + cD n p3 t ≤ 8 * n := s2
 rw [hc.1, hc.2.1, hc.2.2]
 omega
structure El (n m0 : Nat) (num : Nat → Int) (M : Int) (R : Nat) : Prop where
 mx : Mx n m0 num M
 last : Last n num M R
 rr : 2 ^ R ≤ n
structure EI (pet : Bool) (n m0 : Nat) (num : Nat → Int) (M : Int) (R : Nat) (r : Rn) (c : Ct) : Prop where
 ec : pet = false → EC n m0 num M r c
 ep : pet = true → EP n num M R r c
 some : ∃ i, i < n ∧ pB r.1 i = true
def fin (pet : Bool) (n R : Nat) (c : Ct) : Prop := c.2.2 = n ∧ (pet = false → c.2.1 = 0 ∧ (n : Int) ≤ c.1 ∧ 2 * c.1 ≤ n * (n + 1)) ∧ (pet = true → c.1 + c.2.1 = n * (2 * R + 1))
variable {pet : Bool} {n m0 : Nat} {num : Nat → Int} {M : Int} {R : Nat} {r : Rn} {c : Ct}
theorem EI.ok (h : EI pet n m0 num M R r c) : ROk n pet r := by
 cases pet with
 | false => exact (h.ec rfl).ok
 | true => exact (h.ep rfl).ok
theorem begin_some {i : Nat} (hi : i < r.1.length) (j : Nat) : pB (beginR i r).1 j = if j = i then true else pB r.1 j := by
 show pB (setB r.1 i) j = _
 unfold setB
 rw [pB_set hi]
theorem pB_keep {l : List Pe} {i : Nat} {x : Pe} (hi : i < l.length) (hx : pB l i = true → x.2.1 = true) {j : Nat} (h : pB l j = true) : pB (l.set i x) j = true := by
 rw [pB_set hi]
 split
 · rename_i e; rw [e] at h; exact hx h
 · exact h
theorem keepL {ps : List Pe} {i j : Nat} {v : Int} (hi : i < ps.length) (h : pB ps j = true) : pB (setL ps i v) j = true := by
 unfold setL; refine pB_keep hi ?_ h; exact fun q => q
theorem keepNo {ps : List Pe} {i j : Nat} {v : Int} (hi : i < ps.length) (h : pB ps j = true) : pB (setNo ps i v) j = true := by
 unfold setNo; refine pB_keep hi ?_ h; exact fun q => q
theorem keepV {ps : List Pe} {i j : Nat} (hi : i < ps.length) (h : pB ps j = true) : pB (setV ps i) j = true := by
 unfold setV; refine pB_keep hi ?_ h; exact fun q => q
theorem keepR {ps : List Pe} {i j : Nat} (hi : i < ps.length) (h : pB ps j = true) : pB (setR ps i) j = true := by
 unfold setR; refine pB_keep hi ?_ h; exact fun q => q
theorem recv_keep {i : Nat} {k v : Int} (hi : i < r.1.length) {j : Nat} (h : pB r.1 j = true) : pB (recvR pet i k v r).1 j = true := by
 have hbeg : pB (beginR i r).1 j = true := by rw [begin_some hi]; split <;> first | rfl | exact h
 have hp : ∀ r : Rn, i < r.1.length → pB r.1 j = true → pB (peterS i k v r).1 j = true := fun r hi h => by
  unfold Go.Rg.peterS
  repeat' split
  all_goals first
   | exact h
   | exact keepL hi h
   | exact keepNo hi h
   | exact keepV hi h
   | exact keepR hi h
 have hr : i < (beginR i r).1.length := by show i < (setB r.1 i).length; rw [setB_len]; exact hi
 unfold recvR peterR wakeR changR
 repeat' split
 all_goals first
  | exact h
  | exact hp _ hi h
  | exact hp _ hr hbeg
  | exact hbeg
  | exact keepL hi h
  | exact keepB hi h
theorem EI.del (hl : El n m0 num M R) (h : EI pet n m0 num M R r c) {i : Nat} (hi : i < n) (hne : (F' r i).length ≠ 0) : EI pet n m0 num M R (rdelK pet (i : Int) r) (bump ((F' r i).getD 0 N0).1 c) ∧ rdelE (i : Int) r = 0 := by
 refine ⟨⟨fun hp => ?_, fun hp => ?_, ?_⟩, ?_⟩
 · subst hp; exact (h.ec rfl).del hl.mx hi hne
 · subst hp; exact (h.ep rfl).del hl.last hi hne
 · obtain ⟨j, hj, hb⟩ := h.some
   refine ⟨j, hj, ?_⟩
   rw [rdel_eq h.ok hi hne]
   unfold rdelL
   exact recv_keep (by rw [h.ok.len]; exact Nat.mod_lt _ h.ok.n0) hb
 · unfold rdelE
   rw [if_pos (has_of (by rw [h.ok.len]; exact hi)), Int.toNat_natCast]
   exact if_neg hne
theorem EI.tot (hl : El n m0 num M R) (h : EI pet n m0 num M R r c) : c.1 + c.2.1 + c.2.2 ≤ 80 ∧ 0 ≤ c.1 ∧ 0 ≤ c.2.1 ∧ 0 ≤ c.2.2 := by
 cases pet with
 | false => have := (h.ec rfl).tot hl.mx; omega
 | true => exact (h.ep rfl).tot hl.rr
theorem EI.quiet (hl : El n m0 num M R) (h : EI pet n m0 num M R r c) (hq : ∀ i, i < n → (F' r i).length = 0) : (∀ i, i < n → pL r.1 i = M) ∧ r.2.2 = c.1 + c.2.1 + c.2.2 ∧ fin pet n R c := by
 have hq : ∀ i, i < n → F' r i = [] := fun i hi => List.eq_nil_of_length_eq_zero (hq i hi)
 cases pet with
 | false =>
  obtain ⟨a, b, d, e, f⟩ := (h.ec rfl).quiet hl.mx hq h.some
  exact ⟨a, b, d, fun _ => ⟨(h.ec rfl).c2, e, f⟩, fun h => Bool.noConfusion h⟩
 | true =>
  obtain ⟨a, b, d, e⟩ := (h.ep rfl).quiet hl.last hq h.some
  exact ⟨a, b, d, fun h => Bool.noConfusion h, fun _ => e⟩
theorem start_sent {i : Int} : (startK i r).2.2 ≤ r.2.2 + 1 := by
 unfold startK
 split
 · exact Int.le_refl _
 · omega
theorem del_sent {i : Int} : (rdelK pet i r).2.2 ≤ r.2.2 + 2 := by
 unfold rdelK
 split
 · exact recv_sent
 · omega
def gr (l : List Int) : Nat → Int
 | 0 => 0
 | k + 1 => max (gr l k) (l.getD k 0)
theorem gr_le {l : List Int} : ∀ {k i : Nat}, i < k → l.getD i 0 ≤ gr l k
 | k + 1, i, h => by
  rw [gr]
  by_cases e : i = k
  · rw [e]; omega
  · have := gr_le (l := l) (k := k) (i := i) (by omega); omega
theorem gr_mem {l : List Int} : ∀ {k : Nat}, (∀ i, i < k → 1 ≤ l.getD i 0) → 0 < k → ∃ i, i < k ∧ l.getD i 0 = gr l k
 | 1, h, _ => ⟨0, by omega, by rw [gr, gr]; have := h 0 (by omega); omega⟩
 | k + 2, h, _ => by
  obtain ⟨i, hi, e⟩ := gr_mem (l := l) (k := k + 1) (fun i hi => h i (by omega)) (by omega)
  rw [gr]
  by_cases c : gr l (k + 1) ≤ l.getD (k + 1) 0
  · exact ⟨k + 1, by omega, by omega⟩
  · exact ⟨i, by omega, by omega⟩
structure Nb (l : List Int) : Prop where
 l0 : 1 ≤ l.length
 l1 : l.length ≤ 10
 rg : ∀ i, i < l.length → 1 ≤ l.getD i 0 ∧ l.getD i 0 ≤ 1000
 dif : ∀ i j, i < l.length → j < l.length → l.getD i 0 = l.getD j 0 → i = j
theorem Nb.el {l : List Int} (h : Nb l) : ∃ m0 R, El l.length m0 (fun i => l.getD i 0) (gr l l.length) R := by
 obtain ⟨m0, hm0, hmv⟩ := gr_mem (l := l) (k := l.length) (fun i hi => (h.rg i hi).1) h.l0
 have hg : Gd l.length (gr l l.length) (fun _ => true) (fun i => l.getD i 0) := ⟨fun i j hi hj _ _ e => h.dif i j hi hj e, fun i hi _ => gr_le hi, ⟨m0, hm0, rfl, hmv⟩⟩
 obtain ⟨R, h1, h2, h3, h4⟩ := rounds hg
 refine ⟨m0, R, ⟨hm0, by have := h.l1; omega, h.dif, fun i hi => gr_le hi, hmv, fun i hi => (h.rg i hi).1⟩, ⟨h2, h3, h4, ?_⟩, h1⟩
 rw [← hmv]
 have := (h.rg m0 hm0).1
 show l.getD m0 0 ≠ 0
 omega
theorem rnew_get {l : List Int} (j : Nat) (hj : j < l.length) : pB (rnew l).1 j = false ∧ pL (rnew l).1 j = 0 ∧ pN (rnew l).1 j = l.getD j 0 ∧ pw (rnew l).1 j = p0 (l.getD j 0) := by
 have e : (rnew l).1.getD j P0 = (l.getD j 0, false, 0, l.getD j 0, 0, false, 1, ()) := by
  unfold rnew
  rw [List.getD_eq_getElem?_getD, List.getElem?_map, List.getElem?_eq_getElem hj, List.getD_eq_getElem?_getD, List.getElem?_eq_getElem hj]; rfl
 unfold pB pL pN pw pV pO pL pR
 rw [e]; exact ⟨rfl, rfl, rfl, rfl⟩
theorem rnew_F {l : List Int} (j : Nat) : F' (rnew l) j = [] := by
 unfold F' rnew
 rw [List.getD_eq_getElem?_getD, List.getElem?_replicate]
 split <;> rfl
theorem rnew_out {l : List Int} (j : Nat) (hj : ¬ j < l.length) : pB (rnew l).1 j = false ∧ pL (rnew l).1 j = 0 := by
 have e : (rnew l).1.getD j P0 = P0 := by
  unfold rnew
  rw [List.getD_eq_getElem?_getD, List.getElem?_map, List.getElem?_eq_none (Nat.le_of_not_lt hj)]; rfl
 unfold pB pL
 rw [e]; exact ⟨rfl, rfl⟩
theorem Nb.ec {l : List Int} (h : Nb l) {m0 R : Nat} (hl : El l.length m0 (fun i => l.getD i 0) (gr l l.length) R) : EC l.length m0 (fun i => l.getD i 0) (gr l l.length) (rnew l) (0, 0, 0) := by
 refine ⟨ROk.new h.l0 h.l1, ⟨fun i hi => (rnew_get i hi).2.2.1, fun i hi => congrArg PW.val (rnew_get i hi).2.2.2⟩, ⟨0, 0, ?_⟩, rfl, ?_⟩
 · have e1 : pB (rnew l).1 = fun _ => false := funext fun j => by
    by_cases c : j < l.length
    · exact (rnew_get j c).1
    · exact (rnew_out j c).1
   have e2 : pL (rnew l).1 = fun _ => 0 := funext fun j => by
    by_cases c : j < l.length
    · exact (rnew_get j c).2.1
    · exact (rnew_out j c).2
   have e3 : F' (rnew l) = fun _ => [] := funext rnew_F
   rw [e1, e2, e3]
   exact ci_zero hl.mx
 · rw [sumR_congr (g := fun _ => 0) fun i hi => by rw [rnew_F]; rfl, sumR_const]
   show (0 : Int) = 0 + 0 + 0 * (l.length : Int)
   omega
theorem Nb.ep {l : List Int} (h : Nb l) {m0 R : Nat} (hl : El l.length m0 (fun i => l.getD i 0) (gr l l.length) R) : EP l.length (fun i => l.getD i 0) (gr l l.length) R (rnew l) (0, 0, 0) := by
 have z : ∀ p, cD l.length p (net0 fun i => l.getD i 0) = 0 := fun p => by
  have e : cD l.length p (net0 fun i => l.getD i 0) = sumR (fun _ => 0) l.length := rfl
  rw [e, sumR_const]; omega
 refine ⟨ROk.new h.l0 h.l1, net0 _, ni_zero, fun i hi => ⟨(rnew_get i hi).1.symm, (rnew_get i hi).2.2.2.symm, (rnew_F i).symm⟩, ⟨(z _).symm, (z _).symm, (z _).symm⟩, ?_⟩
 have e : sumR (fun i => (((net0 fun i => l.getD i 0).H i).length : Int)) l.length = sumR (fun _ => 0) l.length := rfl
 rw [e, sumR_const]
 show (0 : Int) = 0 * (l.length : Int)
 omega
theorem Nb.begin {l : List Int} (h : Nb l) {m0 R : Nat} (hl : El l.length m0 (fun i => l.getD i 0) (gr l l.length) R) {i : Nat} (hi : i < l.length) :
  EI pet l.length m0 (fun i => l.getD i 0) (gr l l.length) R (startK (i : Int) (rnew l)) (0, 0, 0) ∧ startE (i : Int) (rnew l) = 0 := by
 have hlen : (rnew l).1.length = l.length := by unfold rnew; simp
 have hip : i < (rnew l).1.length := by rw [hlen]; exact hi
 have hb := (rnew_get i hi).1
 have e1 : startE (i : Int) (rnew l) = 0 := by
  unfold startE
  rw [if_pos (has_of hip), Int.toNat_natCast, hb]
  exact if_neg (by decide)
 refine ⟨?_, e1⟩
 unfold startK
 rw [e1, if_pos rfl, Int.toNat_natCast]
 exact ⟨fun _ => (h.ec hl).begin hl.mx hi hb, fun _ => (h.ep hl).begin hl.last hi hb, i, hi, by rw [begin_some hip, if_pos rfl]⟩
theorem Nb.good {l : List Int} (h : Nb l) {i : Nat} (hi : i < l.length) : 1 ≤ l.getD i 0 ∧ l.getD i 0 ≤ 1000 ∧ l.getD i 0 ∉ l.take i := by
 refine ⟨(h.rg i hi).1, (h.rg i hi).2, fun hm => ?_⟩
 obtain ⟨j, hj, e⟩ := List.mem_iff_getElem.1 hm
 rw [List.length_take] at hj
 rw [List.getElem_take] at e
 have := h.dif j i (by omega) hi (by rw [List.getD_eq_getElem?_getD, List.getElem?_eq_getElem (by omega)]; exact e)
 omega
def atF (n v : Nat) (r : Rn) : Nat → Nat → Option Nat
 | 0, _ => none
 | k + 1, i => if (F' r ((v + i) % n)).length ≠ 0 then some ((v + i) % n) else atF n v r k (i + 1)
variable {pet : Bool} {n m0 : Nat} {num : Nat → Int} {M : Int} {R : Nat} {r : Rn} {c : Ct} {os : List Int}
theorem atF_some {v a : Nat} (hn : 0 < n) : ∀ {k i : Nat}, atF n v r k i = some a → a < n ∧ (F' r a).length ≠ 0
 | 0, i, h => by cases h
 | k + 1, i, h => by
  rw [atF] at h
  split at h
  · rename_i hne
    injection h with h
    subst h
    exact ⟨Nat.mod_lt _ hn, hne⟩
  · exact atF_some hn h
theorem atF_none' {v : Nat} : ∀ {k i : Nat}, atF n v r k i = none → ∀ j, i ≤ j → j < i + k → (F' r ((v + j) % n)).length = 0
 | 0, i, _, j, h1, h2 => by omega
 | k + 1, i, h, j, h1, h2 => by
  rw [atF] at h
  split at h
  · cases h
  · rename_i hne
    by_cases e : j = i
    · rw [e]; exact Classical.byContradiction hne
    · exact atF_none' h j (by omega) (by omega)
theorem atF_none {v : Nat} (hn : 0 < n) (h : atF n v r n 0 = none) : ∀ k, k < n → (F' r k).length = 0 := fun k hk => by
 have h1 := atF_none' h ((k + n - v % n) % n) (Nat.zero_le _) (by rw [Nat.zero_add]; exact Nat.mod_lt _ hn)
 have hv := Nat.mod_lt v hn
 have e : (v + (k + n - v % n) % n) % n = k := by
  rw [Nat.add_mod_mod]
  have e2 : v + (k + n - v % n) = k + n * (v / n + 1) := by
   have := Nat.div_add_mod v n
   rw [Nat.mul_add, Nat.mul_one]
   omega
  rw [e2, Nat.add_mul_mod_self_left, Nat.mod_eq_of_lt hk]
 rwa [e] at h1
end Go.Rg
namespace Go.Proofs.YtckmhlpngolbpaaDoor
open Int renaming reduceToNat → zr, reduceTDiv → zd, reduceTMod → zm
open Go Go.Vc Go.Rg
def nst (n k : Nat) : Nat → List Int
 | 0 => List.replicate n 0
 | i + 1 => (nst n k i).set (i * k % n) ((i : Int) + 1)
def letB (n : Nat) (v : Int) : UInt8 := if v = (n : Int) then 97 else 98
def strB (n : Nat) (l : List Int) (i : Nat) : List UInt8 := (l.take i).map (letB n)
theorem nst_len (n k i : Nat) : (nst n k i).length = n := by
 induction i with
 | zero => simp [nst]
 | succ i ih => simp [nst, ih]
def okN (n k : Nat) : Bool :=
 ((List.range n).all fun i => decide (1 ≤ (nst n k n).getD i 0) && decide ((nst n k n).getD i 0 ≤ 1000) && ((List.range n).all fun j => decide ((nst n k n).getD i 0 = (nst n k n).getD j 0 → i = j))) &&
 decide (gr (nst n k n) n = (n : Int)) && decide (tb (strB n (nst n k n) n) n < n) && decide ((nst n k n).getD (tb (strB n (nst n k n) n) n) 0 = (n : Int))
theorem all_okN : ∀ n, n < 11 → ∀ k, k < n → badG n k = false → okN n k = true := by decide +kernel
structure Chosen (n k : Nat) (l : List Int) : Prop where
 len : l.length = n
 nb : Nb l
 gr : gr l l.length = (n : Int)
 lt : tb (strB n l n) n < n
 at' : l.getD (tb (strB n l n) n) 0 = (n : Int)
theorem chosen {n k : Nat} (hn : n < 11) (hk : k < n) (h : badG n k = false) : Chosen n k (nst n k n) := by
 have h1 := all_okN n hn k hk h
 unfold okN at h1
 simp only [Bool.and_eq_true, List.all_eq_true, List.mem_range, decide_eq_true_eq] at h1
 obtain ⟨⟨⟨h2, h3⟩, h4⟩, h5⟩ := h1
 have hl := nst_len n k n
 refine ⟨hl, ⟨by omega, by omega, fun i hi => ?_, fun i j hi hj e => ?_⟩, by rw [hl]; exact h3, h4, h5⟩
 · exact (h2 i (by omega)).1
 · exact (h2 i (by omega)).2 j (by omega) e
theorem strB_len {n : Nat} {l : List Int} {i : Nat} (h : i ≤ l.length) : (strB n l i).length = i := by
 unfold strB; rw [List.length_map, List.length_take]; omega
theorem strB_mem {n : Nat} {l : List Int} {i : Nat} : ∀ x ∈ strB n l i, x ∈ ([97, 98, 99, 100] : List UInt8) := by
 intro x hx
 unfold strB at hx
 obtain ⟨v, _, rfl⟩ := List.mem_map.1 hx
 unfold letB
 split <;> simp
theorem strB_succ {n : Nat} {l : List Int} {i : Nat} (h : i < l.length) : strB n l (i + 1) = strB n l i ++ [letB n (l.getD i 0)] := by
 unfold strB
 rw [List.take_succ_eq_append_getElem h, List.map_append, List.getD_eq_getElem?_getD, List.getElem?_eq_getElem h]
 rfl
def vT (os : List Int) (t : Nat) : Nat := if 0 < os.length then (os.getD (t % os.length) 0).toNat else t
end Go.Proofs.YtckmhlpngolbpaaDoor
namespace Go.Vc
theorem setCells_heap (b : Nat) {e : TypeId} {fz : Nat × Nat} : ∀ (vs : List Value) (o : Nat) (w : World) (cur : Array Value), w.heap[b]? = some (.cells cur e fz) → o + vs.length ≤ cur.size →
  ∃ cur' : Array Value, (w.setCells b o vs).heap[b]? = some (.cells cur' e fz) ∧ cur'.size = cur.size ∧ cur'.toList = cur.toList.take o ++ vs ++ cur.toList.drop (o + vs.length)
 | [], o, w, cur, h, hl => ⟨cur, h, rfl, by simp⟩
 | v :: r, o, w, cur, h, hl => by
  have h1 : (w.setCell ⟨b, o, none⟩ v).heap[b]? = some (.cells (cur.setIfInBounds o v) e fz) := by simp [World.setCell, Array.getElem?_modify, h]
  rw [List.length_cons] at hl
  obtain ⟨cur', h2, h3, h4⟩ := setCells_heap b r (o + 1) _ _ h1 (by simp; omega)
  refine ⟨cur', h2, by simpa using h3, ?_⟩
  rw [h4, Array.toList_setIfInBounds]
  have ho : o < cur.toList.length := by simpa using (show o < cur.size by omega)
  have e1 : (cur.toList.set o v).take (o + 1) = cur.toList.take o ++ [v] := by
   rw [List.take_add_one, List.take_set_of_le (Nat.le_refl _), List.getElem?_set_self ho]
   rfl
  have e2 : (cur.toList.set o v).drop (o + 1 + r.length) = cur.toList.drop (o + (v :: r).length) := by
   rw [List.drop_set_of_lt (by omega), List.length_cons, Nat.add_assoc, Nat.add_comm 1]
  rw [e1, e2]
  simp
theorem setCells_size (b : Nat) : ∀ (vs : List Value) (o : Nat) (w : World), (w.setCells b o vs).heap.size = w.heap.size
 | [], o, w => rfl
 | v :: r, o, w => by
  rw [World.setCells, setCells_size b r]
  simp [World.setCell]
theorem setCells_tape (b : Nat) : ∀ (vs : List Value) (o : Nat) (w : World), (w.setCells b o vs).tape = w.tape
 | [], o, w => rfl
 | v :: r, o, w => by
  rw [World.setCells, setCells_tape b r]
  rfl
theorem del_cells {w W1 W2 : World} {e : TypeId} {g size n cap i j : Nat} {cur : Array Value} (hg : w.heap[g]? = some (.cells cur e (0, 0))) (hn : n ≤ cap) (hs : cur.size = cap * size) (hij : i ≤ j) (hj : j ≤ n)
  {zs : List Value} (hz : zs.length = (j - i) * size) (h1 : W1 = w.drew.setCells g (i * size) ((cur.toList.take (n * size)).drop (j * size))) (h2 : W2 = W1.setCells g ((i + (n - j)) * size) zs) :
  (∃ cur' : Array Value, W2.heap[g]? = some (.cells cur' e (0, 0)) ∧ cur'.size = cap * size ∧ cur'.toList.take ((n - (j - i)) * size) = (cur.toList.take (n * size)).take (i * size) ++ (cur.toList.take (n * size)).drop (j * size)) ∧
   w.grownBy W2 (some g) := by
 have a1 : i * size ≤ j * size := Nat.mul_le_mul_right _ hij
 have a2 : j * size ≤ n * size := Nat.mul_le_mul_right _ hj
 have a3 : n * size ≤ cap * size := Nat.mul_le_mul_right _ hn
 have a4 : (j - i) * size = j * size - i * size := Nat.sub_mul ..
 have a5 : (i + (n - j)) * size = i * size + (n * size - j * size) := by rw [Nat.add_mul, Nat.sub_mul]
 have a6 : (n - (j - i)) * size = i * size + (n * size - j * size) := by rw [← a5]; congr 1; omega
 have hl : cur.toList.length = cap * size := by simpa using hs
 have hd : ((cur.toList.take (n * size)).drop (j * size)).length = n * size - j * size := by rw [List.length_drop, List.length_take]; omega
 obtain ⟨c1, b1, b2, b3⟩ := setCells_heap g ((cur.toList.take (n * size)).drop (j * size)) (i * size) w.drew cur hg (by rw [hd]; omega)
 rw [← h1] at b1
 obtain ⟨c2, b4, b5, b6⟩ := setCells_heap g zs ((i + (n - j)) * size) W1 c1 b1 (by rw [hz, b2, hs, a5]; omega)
 rw [← h2] at b4
 refine ⟨⟨c2, b4, by rw [b5, b2, hs], ?_⟩, ?_⟩
 · rw [b6, a6, a5, b3, List.take_append_of_le_length, List.take_append_of_le_length, List.take_take, Nat.min_self, List.take_append_of_le_length, List.take_of_length_le, List.take_take, Nat.min_eq_left (by omega)]
   · rw [List.length_append, hd, List.length_take]; omega
   · rw [List.length_append, hd, List.length_take]; omega
   · rw [List.length_take, List.length_append, List.length_append, hd, List.length_take, List.length_drop]; omega
   · rw [List.length_append, List.length_take, List.length_append, List.length_append, hd, List.length_take, List.length_drop]; omega
 · subst h2 h1
   refine ⟨by rw [World.os_setCells, World.os_setCells]; rfl, by rw [setCells_tape, setCells_tape]; rfl, by rw [World.output_setCells, World.output_setCells]; rfl, by rw [setCells_size, setCells_size]; exact Nat.le_refl _, fun b hb hne => ?_⟩
   have hne' : b ≠ g := fun e => hne (by rw [e])
   refine (World.heap_setCells_other _ _ _ _ (by rw [setCells_size]; exact hb) hne').trans ?_
   exact World.heap_setCells_other w.drew _ _ _ hb hne'
theorem run_clear_cells {P : Program} (w : World) (t e ty : TypeId) (z : Value) (ht : P.underlying t = some (.slice e)) (hv : ∀ w, (zeroValue e).run P w = .ok z w) (b o n c : Nat) (zs : List Value) (hz : (Builtin.zeroCells z.cells n).toList = zs) (h1 : ∀ u ∈ zs, u.oneCell' = true) (hn : 0 < n)
  (hc : ∀ j, j < zs.length → (w.cell? ⟨b, o + j, none⟩).isSome = true) (hf : ∀ j, j < zs.length → w.frozen? ⟨b, o + j, none⟩ = false) :
  (Builtin.clear_ #[t] ty #[.slice (some ⟨b, o, none⟩) n c]).run P w = .ok (.tuple #[]) (w.setCells b o zs) := by
 have hst := run_storeCells_cells (P := P) b o zs 0 w (by simpa using hc) (by simpa using hf) h1
 simp only [Nat.add_zero] at hst
 obtain ⟨m, rfl⟩ : ∃ m, n = m + 1 := ⟨n - 1, by omega⟩
 simp [Builtin.clear_, run_underlying ht, hv, hz, hst]
end Go.Vc
namespace Go.Proofs.YtckmhlpngolbpaaDoor
open Int renaming reduceToNat → zr, reduceTDiv → zd, reduceTMod → zm
open Go Go.Vc Go.RowKit Go.Lib
theorem zero_run {P : Program} {t : TypeId} {te : TE} (h : te.ok P t) : ∀ w, (zeroValue t).run P w = .ok te.zero w := by
 intro w
 obtain ⟨i, hi, hz, _⟩ := h.info
 simp [zeroValue, typeInfo, hi, hz]
set_option maxHeartbeats 4000000 in
set_option maxRecDepth 1000000 in
theorem del_note : DelC Tryd.prog 19 79 2 := by
 refine ⟨⟨Tryd.f19, Tryd.func19, rfl, rfl⟩, fun w base n i j v zs hown hone hij hj hn => ?_⟩
 obtain ⟨hz, hv⟩ := hown
 rcases hv with ⟨_, h⟩ | ⟨g, cap, cur, rfl, hb, hg, hnc, hcm, hs, ht⟩
 · omega
 obtain ⟨news, hnews⟩ : ∃ news, news = (cur.toList.take (n * 2)).drop (j * 2) := ⟨_, rfl⟩
 have hcl : cur.toList.length = cap * 2 := by simpa using hs
 have hlen : news.length = (n - j) * 2 := by rw [hnews, List.length_drop, List.length_take]; omega
 have hcell : ∀ p, p < cap * 2 → ∃ u, cur[p]? = some u := fun p hp => ⟨cur[p]'(by omega), Array.getElem?_eq_getElem _⟩
 obtain ⟨A, hA, hsrc⟩ : ∃ A : Addr, (if cap = j then some (⟨g, 0, none⟩ : Addr) else some ⟨g, j * 2, none⟩) = some A ∧ Hid (∀ t u, news[t]? = some u → w.drew.cell? (A.add t) = some u) := by
  by_cases h : cap = j
  · refine ⟨⟨g, 0, none⟩, by simp [h], fun t u hu => ?_⟩
    have h0 : news.length = 0 := by rw [hlen]; omega
    rw [List.length_eq_zero_iff.1 h0] at hu
    simp at hu
  · refine ⟨⟨g, j * 2, none⟩, by simp [h], fun t u hu => ?_⟩
    have h1 : t < (n - j) * 2 := by
     have := (List.getElem?_eq_some_iff.1 hu).1
     rwa [hlen] at this
    rw [hnews, List.getElem?_drop, List.getElem?_take, if_pos (by omega), Array.getElem?_toList] at hu
    rw [Addr.add_lit]
    show (match w.heap[g]? with | some (.cells c _ _) => _ | _ => _) = _
    rw [hg]
    exact hu
 have s1 : Hid (news.length = (n - j) * 2) := hlen
 have s2 : Hid (∀ u ∈ news, u.oneCell' = true) := fun u hu => hone u (by rw [← ht]; rw [hnews] at hu; exact List.mem_of_mem_drop hu)
 have s3 : Hid (∀ t, t < news.length → (w.drew.cell? ⟨g, 0 + i * 2 + t, none⟩).isSome = true ∧ w.drew.frozen? ⟨g, 0 + i * 2 + t, none⟩ = false) := by
  intro t ht
  rw [hlen] at ht
  obtain ⟨u, hu⟩ := hcell (0 + i * 2 + t) (by omega)
  refine ⟨?_, ?_⟩
  · show (World.cell? w _).isSome = true
    simp only [World.cell?, hg]
    have : 0 + i * 2 + t < cur.size := by omega
    simpa using this
  · show World.frozen? w _ = false
    simp [World.frozen?, hg]
 obtain ⟨W1, hW1⟩ : ∃ W1, W1 = w.drew.setCells g (0 + i * 2) news := ⟨_, rfl⟩
 have hW : Hid (W1 = w.drew.setCells g (0 + i * 2) news) := hW1
 have hzv := zero_run te79_ok
 obtain ⟨c1, hc1, hc2, _⟩ := setCells_heap g news (0 + i * 2) w.drew cur hg (by rw [hlen]; omega)
 rw [← hW1] at hc1
 have hzl : (Builtin.zeroCells te79.zero.cells (n - (i + (n - j)))).toList.length = (n - (i + (n - j))) * 2 := by simp [Builtin.zeroCells, te79, Value.cells]
 have hz1 : ∀ u ∈ (Builtin.zeroCells te79.zero.cells (n - (i + (n - j)))).toList, u.oneCell' = true := by
  intro u hu
  obtain ⟨p, hp, rfl⟩ := List.mem_iff_getElem.1 hu
  simp [Builtin.zeroCells, te79, Value.cells]
  have : p % 2 = 0 ∨ p % 2 = 1 := by omega
  rcases this with h | h <;> simp [h] <;> rfl
 obtain ⟨zz, hzz⟩ : ∃ zz, (Builtin.zeroCells te79.zero.cells (n - (i + (n - j)))).toList = zz := ⟨_, rfl⟩
 have hclr : ∀ ty, (Builtin.clear_ #[77] ty #[.slice (some ⟨g, (i + (n - j)) * 2, none⟩) (n - (i + (n - j))) (cap - (i + (n - j)))]).run Tryd.prog W1 = .ok (.tuple #[]) (W1.setCells g ((i + (n - j)) * 2) zz) := fun ty =>
  run_clear_cells W1 77 79 ty te79.zero (by kernel_rfl) hzv g ((i + (n - j)) * 2) _ _ zz hzz (fun u hu => hz1 u (by rw [hzz]; exact hu)) (by omega) (fun p hp => by
   rw [← hzz, hzl] at hp
   have : (i + (n - j)) * 2 + p < c1.size := by omega
   simp only [World.cell?, hc1]
   simpa using this) (fun p hp => by simp [World.frozen?, hc1])
 rw [hzz] at hzl
 have hzl : Hid (zz.length = (n - (i + (n - j))) * 2) := hzl
 have hgH : Hid (w.heap[g]? = some (Obj.cells cur 79 (0, 0))) := hg
 have hsH : Hid (cur.size = cap * 2) := hs
 have hnH : Hid (news = (cur.toList.take (n * 2)).drop (j * 2)) := hnews
 have htH : Hid (List.take (n * 2) cur.toList = zs) := ht
 obtain ⟨ti, hti, _, hts, _⟩ := te79_ok.info
 have hts : ti.size = 2 := hts
 have hic : i ≤ cap := by omega
 have hjc : j ≤ cap := by omega
 have hnm : cap ≤ 9223372036854775807 := by unfold maxLen at hcm; omega
 clear hW1 hg hcell hcl hone hz1 hzz hc1 hc2 hnews ht hlen hs
 go_enter Tryd.func19, Tryd.ntmps19
 go_wp2
 go_region_law (refine step_append_room rfl (.tmp 22) (.tmp 25) 77 rfl 79 ti 2 (by kernel_rfl) hti hts g 0 i cap (by simp [Act.eval, Act.put]) A (n - j) (cap - j) news (by simp [Act.eval, Act.put]) s1.out hsrc.out s2.out (by omega) s3.out ?_; rw [← hW.out])
 go_wp2
 go_ret
 have hW' := hW.out
 rw [Nat.zero_add, hnH.out] at hW'
 obtain ⟨⟨c3, b1, b2, b3⟩, b4⟩ := del_cells (W1 := W1) (W2 := W1.setCells g ((i + (n - j)) * 2) zz) (zs := zz) hgH.out hnc hsH.out (Nat.le_of_lt hij) hj (by rw [hzl.out]; congr 1; omega) hW' rfl
 rw [htH.out] at b3
 refine ⟨_, rfl, ⟨?_, .inr ⟨g, cap, c3, ?_, hb, b1, by omega, hcm, b2, b3⟩⟩, b4, rfl⟩
 · rw [List.length_append, List.length_take, List.length_drop, hz]
   omega
 · show Value.slice _ (i + (n - j)) cap = _
   rw [show i + (n - j) = n - (j - i) by omega]
open Go Go.Vc Go.Rg
variable {n : Nat} {pet : Bool} {r : Rn}
theorem ris_at : FnM Tryd.prog 16 [.padr 1000000000 0] [(1000000000, .box [.lit (.bool true), .lit (.bool pet), .own 1000000001, .mown 1000000002, (.lit (.int .i64 ((r).2.2 : Int)))]), (1000000001, .row 73 PT true (r).1), (1000000002, .mat 77 79 NT true (r).2.1 none)] (.lit (.bool true)) [(1000000000, .box [.lit (.bool true), .lit (.bool pet), .own 1000000001, .mown 1000000002, (.lit (.int .i64 ((r).2.2 : Int)))]), (1000000001, .row 73 PT true (r).1), (1000000002, .mat 77 79 NT true (r).2.1 none)] := by
 refine FnM.of_body tys_ok Tryd.func16 (by rfl) rfl Tryd.ntmps16 (by rw [Tryd.results16]) (by simp) ?_
 repeat' (first
 | refine W.seq ?_
 | refine W.block ?_
 | (refine W.region tys_ok [] ?_; conv => whnf)
 | (refine W.drawAll tys_ok [] mixed rfl ?_; conv => whnf)
 | (refine W.ret ?_; conv => whnf)
 | (refine W.skip ?_; conv => whnf)
 | (refine W.exit ?_; conv => whnf)
 | (refine W.cond rfl (fun hb => ?_) (fun hb => ?_) <;> (try simp only [zr, zd, zm, minL, maxL, pickB, zA] at hb) <;> (try (first | (cases hb; done) | exact absurd hb (by decide) | (exfalso; omega) | (omega))))
 | ((with_reducible refine And.intro ?_ ?_); exact zc; conv => whnf)
 | ((with_reducible refine And.intro (Side.out ?_) ?_); rotate_left; (conv => whnf))
 | ((first | refine retM1 ?_ | refine retM2 ?_) <;> (conv => whnf) <;> repeat' (first
 | exact trivial
 | (with_reducible rfl)
 | ((with_reducible refine And.intro ?_ ?_) <;> conv => whnf)
 | omega
 | rfl
 | (refine congrArg (SV.arr _) ?_)
 | (refine congrArg (Value.int _) ?_)
 | (refine congrArg Value.bool ?_)))); all_goals (try unfold Side)
 all_goals try (repeat' (first | exact zb | with_reducible refine And.intro ?_ ?_))
theorem rhas_at {i : Int} {b : Bool} (h : b = hasB r.1.length i) : FnM Tryd.prog 17 [.padr 1000000000 0, (.lit (.int .i64 (i : Int)))] [(1000000000, .box [.lit (.bool true), .lit (.bool pet), .own 1000000001, .mown 1000000002, (.lit (.int .i64 ((r).2.2 : Int)))]), (1000000001, .row 73 PT true (r).1), (1000000002, .mat 77 79 NT true (r).2.1 none)] (.lit (.bool b)) [(1000000000, .box [.lit (.bool true), .lit (.bool pet), .own 1000000001, .mown 1000000002, (.lit (.int .i64 ((r).2.2 : Int)))]), (1000000001, .row 73 PT true (r).1), (1000000002, .mat 77 79 NT true (r).2.1 none)] := by
 subst h
 have hl : @List.length PT.T r.1 = r.1.length := rfl
 refine FnM.of_body tys_ok Tryd.func17 (by rfl) rfl Tryd.ntmps17 (by rw [Tryd.results17]) (by simp) ?_
 repeat' (first
 | refine W.seq ?_
 | refine W.block ?_
 | (refine W.region tys_ok [] ?_; conv => whnf)
 | (refine W.drawAll tys_ok [] mixed rfl ?_; conv => whnf)
 | (refine W.ret ?_; conv => whnf)
 | (refine W.skip ?_; conv => whnf)
 | (refine W.exit ?_; conv => whnf)
 | (refine W.cond rfl (fun hb => ?_) (fun hb => ?_) <;> (try simp only [zr, zd, zm, minL, maxL, pickB, zA] at hb) <;> (try (first | (cases hb; done) | exact absurd hb (by decide) | (exfalso; omega) | (omega))))
 | ((with_reducible refine And.intro ?_ ?_); exact zc; conv => whnf)
 | ((with_reducible refine And.intro (Side.out ?_) ?_); rotate_left; (conv => whnf))
 | ((first | refine retM1 ?_ | refine retM2 ?_) <;> (conv => whnf) <;> repeat' (first
 | exact trivial
 | (with_reducible rfl)
 | ((with_reducible refine And.intro ?_ ?_) <;> conv => whnf)
 | omega
 | rfl
 | (refine congrArg (SV.arr _) ?_)
 | (refine congrArg (Value.int _) ?_)
 | (refine congrArg Value.bool ?_)))); all_goals (try unfold Side)
 all_goals try (repeat' (first | exact zb | with_reducible refine And.intro ?_ ?_))
set_option maxHeartbeats 4000000 in
theorem sendp_at {i : Nat} {k v : Int} (hi : i < r.2.1.length) (hf : ((r.2.1.getD i []).length : Int) ≤ r.2.2) (hs : 0 ≤ r.2.2 ∧ r.2.2 ≤ 1000000) : FnM Tryd.prog 38 [.padr 1000000000 0, (.lit (.int .i64 (i : Int))), (.lit (.int .i64 (k : Int))), (.lit (.int .i64 (v : Int)))] [(1000000000, .box [.lit (.bool true), .lit (.bool pet), .own 1000000001, .mown 5, (.lit (.int .i64 ((r).2.2 : Int)))]), (1000000001, .row 73 PT true (r).1), (5, .mat 77 79 NT true (r).2.1 none)] (.tup []) [(1000000000, .box [.lit (.bool true), .lit (.bool pet), .own 1000000001, .mown 5, (.lit (.int .i64 (((sendR i k v r)).2.2 : Int)))]), (1000000001, .row 73 PT true ((sendR i k v r)).1), (5, .mat 77 79 NT true ((sendR i k v r)).2.1 none)] := by
 have e0 : i < r.2.1.length := hi
 have e1 : i < (r.2.1.set i (r.2.1.getD i [] ++ [(k, v, ())])).length := by rw [List.length_set]; exact hi
 have e2 : (r.2.1.getD i []).length + [((k, v, ()) : Nt)].length ≤ 4294967296 := by rw [List.length_singleton]; omega
 have e3 : 0 ≤ (i : Int) ∧ i < (r.2.1.set i (r.2.1.getD i [] ++ [(k, v, ())])).length := ⟨by omega, e1⟩
 have e4 : 0 ≤ (i : Int) ∧ i < r.2.1.length := ⟨by omega, e0⟩
 refine FnM.of_body tys_ok Tryd.func38 (by rfl) rfl Tryd.ntmps38 (by rw [Tryd.results38]) (by simp) ?_
 repeat' (first
 | refine W.seq ?_
 | refine W.block ?_
 | (refine W.resub (x := Code.region 0 _ _) (Γ' := ⟨[(0, .padr 1000000000 0), (1, (.lit (.int .i64 (i : Int)))), (2, (.lit (.int .i64 (k : Int)))), (3, (.lit (.int .i64 (v : Int))))], [(1000000000, .box [.lit (.bool true), .lit (.bool pet), .own 1000000001, .mown 5, (.lit (.int .i64 ((r).2.2 : Int)))]), (1000000001, .row 73 PT true (r).1), (5, .mat 77 79 NT true (r).2.1 none)]⟩) ?_ ?_; rotate_left; refine W.drawPhTo (id := 0) tys_ok [] mixed [0, 1, 2, 4, 0, 0, 32, 64, 128, 0, 768, 1024, 0, 0, 12288, 16384, 34816, 131071, 262143] [([0, 1, 2, 4, 5, 6, 7, 9, 12, 13], 7, 131071), ([17], 1, 524287)] ⟨[(0, .padr 1000000000 0)], [(1000000000, .box [.lit (.bool true), .lit (.bool pet), .own 1000000001, .mown 5, (.lit (.int .i64 (r.2.2 : Int)))]), (1000000001, .row 73 PT true r.1), (5, .mat 77 79 NT true (sendR i k v r).2.1 none)]⟩ (by decide +kernel) ?_ ?_; (conv => whnf); rotate_left; (conv => whnf))
 | (refine W.region tys_ok [] ?_; conv => whnf)
 | (refine W.drawAll tys_ok [] mixed rfl ?_; conv => whnf)
 | (refine W.ret ?_; conv => whnf)
 | (refine W.skip ?_; conv => whnf)
 | (refine W.exit ?_; conv => whnf)
 | (refine Both.mk ?_ ?_ <;> (conv => whnf))
 | (refine W.cond rfl (fun hb => ?_) (fun hb => ?_) <;> (try simp only [zr, zd, zm, minL, maxL, pickB, zA] at hb) <;> (try (first | (cases hb; done) | exact absurd hb (by decide) | (exfalso; omega) | (omega))))
 | ((with_reducible refine And.intro ?_ ?_); exact zc; conv => whnf)
 | ((with_reducible refine And.intro (Side.out ?_) ?_); rotate_left; (conv => whnf))
 | ((first | refine retM1 ?_ | refine retM2 ?_ | refine subF.leaf ?_ | refine subF.side ?_) <;> (conv => whnf) <;> repeat' (first
 | exact trivial
 | (with_reducible rfl)
 | ((with_reducible refine And.intro ?_ ?_) <;> conv => whnf)
 | omega
 | rfl
 | (refine congrArg (SV.arr _) ?_)
 | (refine congrArg (Value.int _) ?_)
 | (refine congrArg Value.bool ?_)))); all_goals (try unfold Side)
 all_goals try (repeat' (first | exact zb | with_reducible refine And.intro ?_ ?_))
 all_goals first | exact e0 | exact e1 | exact Path.imp_of e0 | exact e2 | exact Path.imp_of e3 | exact Path.imp_of e4 | skip
open Int renaming reduceToNat → zr, reduceTDiv → zd, reduceTMod → zm
open Go Go.Vc Go.Rg
variable {n : Nat} {pet : Bool} {r : Rn}
theorem begin_ring {i : Nat} (hp : i < r.1.length) (hi : i < r.2.1.length) (hf : ((r.2.1.getD i []).length : Int) ≤ r.2.2) (hs : 0 ≤ r.2.2 ∧ r.2.2 ≤ 1000000) : FnM Tryd.prog 18 [.padr 1000000000 0, (.lit (.int .i64 (i : Int)))] [(1000000000, .box [.lit (.bool true), .lit (.bool pet), .own 1000000001, .mown 5, (.lit (.int .i64 ((r).2.2 : Int)))]), (1000000001, .row 73 PT true (r).1), (5, .mat 77 79 NT true (r).2.1 none)] (.tup []) [(1000000000, .box [.lit (.bool true), .lit (.bool pet), .own 1000000001, .mown 5, (.lit (.int .i64 (((beginR i r)).2.2 : Int)))]), (1000000001, .row 73 PT true ((beginR i r)).1), (5, .mat 77 79 NT true ((beginR i r)).2.1 none)] := by
 have c1 := sendp_at (pet := pet) (r := (setB r.1 i, r.2)) (i := i) (k := 1) (v := pV r.1 i) hi hf hs
 have hl : @List.length PT.T r.1 = r.1.length := rfl
 have e1 : pV (setB r.1 i) i = pV r.1 i := by unfold pV setB; rw [getD_setP hp, if_pos rfl]; rfl
 have e2 : i < (setB r.1 i).length := by rw [setB_len]; exact hp
 have e3 : 0 ≤ (i : Int) ∧ i < (setB r.1 i).length := ⟨by omega, e2⟩
 refine FnM.of_body tys_ok Tryd.func18 (by rfl) rfl Tryd.ntmps18 (by rw [Tryd.results18]) (by simp) ?_
 repeat' (first
 | refine W.seq ?_
 | refine W.block ?_
 | (refine W.regionM (id := 1) tys_ok [] [10] ?_; conv => whnf)
 | (refine W.region tys_ok [] ?_; conv => whnf)
 | (refine W.drawAll tys_ok [] mixed rfl ?_; conv => whnf)
 | (refine W.ret ?_; conv => whnf)
 | (refine W.skip ?_; conv => whnf)
 | (refine W.exit ?_; conv => whnf)
 | (refine callM_at (c1) ?_; conv => whnf)
 | (refine W.cond rfl (fun hb => ?_) (fun hb => ?_) <;> (try simp only [zr, zd, zm, minL, maxL, pickB, zA] at hb) <;> (try (first | (cases hb; done) | exact absurd hb (by decide) | (exfalso; omega) | (omega))))
 | (refine Or.inl (And.intro trivial ?_); (conv => whnf))
 | ((with_reducible refine And.intro ?_ ?_); exact zc; conv => whnf)
 | ((with_reducible refine And.intro (Side.out ?_) ?_); rotate_left; (conv => whnf))
 | ((first | refine retM1 ?_ | refine retM2 ?_) <;> (conv => whnf) <;> repeat' (first
 | exact trivial
 | (with_reducible rfl)
 | ((with_reducible refine And.intro ?_ ?_) <;> conv => whnf)
 | omega
 | rfl
 | (refine congrArg (SV.arr _) ?_)
 | (refine congrArg (Value.int _) ?_)
 | (refine congrArg Value.bool ?_)))); all_goals (try unfold Side)
 all_goals try (repeat' (first | exact zb | with_reducible refine And.intro ?_ ?_))
 all_goals first | exact e1 | exact e2 | exact Path.imp_of e3 | rfl
theorem start_arg {i : Int} (h : hasB r.1.length i = false) : FnM Tryd.prog 8 [.padr 1000000000 0, (.lit (.int .i64 (i : Int)))] [(1000000000, .box [.lit (.bool true), .lit (.bool pet), .own 1000000001, .mown 5, (.lit (.int .i64 ((r).2.2 : Int)))]), (1000000001, .row 73 PT true (r).1), (5, .mat 77 79 NT true (r).2.1 none)] (.lit (.int .i64 (1 : Int))) [(1000000000, .box [.lit (.bool true), .lit (.bool pet), .own 1000000001, .mown 5, (.lit (.int .i64 ((r).2.2 : Int)))]), (1000000001, .row 73 PT true (r).1), (5, .mat 77 79 NT true (r).2.1 none)] := by
 have c1 := ris_at (pet := pet) (r := r)
 have c2 := rhas_at (pet := pet) (r := r) h.symm
 refine FnM.of_body tys_ok Tryd.func8 (by rfl) rfl Tryd.ntmps8 (by rw [Tryd.results8]) (by simp) ?_
 repeat' (first
 | refine W.seq ?_
 | refine W.block ?_
 | (refine W.regionM (id := 1) tys_ok [] [1] ?_; conv => whnf)
 | (refine W.regionM (id := 3) tys_ok [] [2] ?_; conv => whnf)
 | (refine W.region tys_ok [] ?_; conv => whnf)
 | (refine W.drawAll tys_ok [] mixed rfl ?_; conv => whnf)
 | (refine W.ret ?_; conv => whnf)
 | (refine W.skip ?_; conv => whnf)
 | (refine W.exit ?_; conv => whnf)
 | (refine callM_at (c1) ?_; conv => whnf)
 | (refine callM_at (c2) ?_; conv => whnf)
 | (refine W.cond rfl (fun hb => ?_) (fun hb => ?_) <;> (try simp only [zr, zd, zm, minL, maxL, pickB, zA] at hb) <;> (try (first | (cases hb; done) | exact absurd hb (by decide) | (exfalso; omega) | (omega))))
 | (refine Or.inl (And.intro trivial ?_); (conv => whnf))
 | ((with_reducible refine And.intro ?_ ?_); exact zc; conv => whnf)
 | ((with_reducible refine And.intro (Side.out ?_) ?_); rotate_left; (conv => whnf))
 | ((first | refine retM1 ?_ | refine retM2 ?_) <;> (conv => whnf) <;> repeat' (first
 | exact trivial
 | (with_reducible rfl)
 | ((with_reducible refine And.intro ?_ ?_) <;> conv => whnf)
 | omega
 | rfl
 | (refine congrArg (SV.arr _) ?_)
 | (refine congrArg (Value.int _) ?_)
 | (refine congrArg Value.bool ?_)))); all_goals (try unfold Side)
 all_goals try (repeat' (first | exact zb | with_reducible refine And.intro ?_ ?_))
theorem start_none {i : Nat} (hp : i < r.1.length) (hb0 : pB r.1 i = true) : FnM Tryd.prog 8 [.padr 1000000000 0, (.lit (.int .i64 (i : Int)))] [(1000000000, .box [.lit (.bool true), .lit (.bool pet), .own 1000000001, .mown 5, (.lit (.int .i64 ((r).2.2 : Int)))]), (1000000001, .row 73 PT true (r).1), (5, .mat 77 79 NT true (r).2.1 none)] (.lit (.int .i64 (5 : Int))) [(1000000000, .box [.lit (.bool true), .lit (.bool pet), .own 1000000001, .mown 5, (.lit (.int .i64 ((r).2.2 : Int)))]), (1000000001, .row 73 PT true (r).1), (5, .mat 77 79 NT true (r).2.1 none)] := by
 have c1 := ris_at (pet := pet) (r := r)
 have c2 := rhas_at (pet := pet) (r := r) (has_of hp).symm
 have hl : @List.length PT.T r.1 = r.1.length := rfl
 have hb' : (r.1.getD i P0).2.1 = true := hb0
 refine FnM.of_body tys_ok Tryd.func8 (by rfl) rfl Tryd.ntmps8 (by rw [Tryd.results8]) (by simp) ?_
 repeat' (first
 | refine W.seq ?_
 | refine W.block ?_
 | (refine W.regionM (id := 1) tys_ok [] [1] ?_; conv => whnf)
 | (refine W.regionM (id := 3) tys_ok [] [2] ?_; conv => whnf)
 | (refine W.region tys_ok [] ?_; conv => whnf)
 | (refine W.drawAll tys_ok [] mixed rfl ?_; conv => whnf)
 | (refine W.ret ?_; conv => whnf)
 | (refine W.skip ?_; conv => whnf)
 | (refine W.exit ?_; conv => whnf)
 | (refine callM_at (c1) ?_; conv => whnf)
 | (refine callM_at (c2) ?_; conv => whnf)
 | (refine W.cond rfl (fun hb => ?_) (fun hb => ?_) <;> (try simp only [zr, zd, zm, minL, maxL, pickB, zA] at hb) <;> (try (first | (cases hb; done) | exact absurd hb (by decide) | (exfalso; omega) | (omega) | ((simp_all; done)))))
 | (refine Or.inl (And.intro trivial ?_); (conv => whnf))
 | ((with_reducible refine And.intro ?_ ?_); exact zc; conv => whnf)
 | ((with_reducible refine And.intro (Side.out ?_) ?_); rotate_left; (conv => whnf))
 | ((first | refine retM1 ?_ | refine retM2 ?_) <;> (conv => whnf) <;> repeat' (first
 | exact trivial
 | (with_reducible rfl)
 | ((with_reducible refine And.intro ?_ ?_) <;> conv => whnf)
 | omega
 | rfl
 | (refine congrArg (SV.arr _) ?_)
 | (refine congrArg (Value.int _) ?_)
 | (refine congrArg Value.bool ?_)))); all_goals (try unfold Side)
 all_goals try (repeat' (first | exact zb | with_reducible refine And.intro ?_ ?_))
theorem start_ok {i : Nat} (hp : i < r.1.length) (hi : i < r.2.1.length) (hf : ((r.2.1.getD i []).length : Int) ≤ r.2.2) (hs : 0 ≤ r.2.2 ∧ r.2.2 ≤ 1000000) (hb0 : pB r.1 i = false) : FnM Tryd.prog 8 [.padr 1000000000 0, (.lit (.int .i64 (i : Int)))] [(1000000000, .box [.lit (.bool true), .lit (.bool pet), .own 1000000001, .mown 5, (.lit (.int .i64 ((r).2.2 : Int)))]), (1000000001, .row 73 PT true (r).1), (5, .mat 77 79 NT true (r).2.1 none)] (.lit (.int .i64 (0 : Int))) [(1000000000, .box [.lit (.bool true), .lit (.bool pet), .own 1000000001, .mown 5, (.lit (.int .i64 (((beginR i r)).2.2 : Int)))]), (1000000001, .row 73 PT true ((beginR i r)).1), (5, .mat 77 79 NT true ((beginR i r)).2.1 none)] := by
 have c1 := ris_at (pet := pet) (r := r)
 have c2 := rhas_at (pet := pet) (r := r) (has_of hp).symm
 have c3 := begin_ring (pet := pet) hp hi hf hs
 have hl : @List.length PT.T r.1 = r.1.length := rfl
 have hb' : (r.1.getD i P0).2.1 = false := hb0
 refine FnM.of_body tys_ok Tryd.func8 (by rfl) rfl Tryd.ntmps8 (by rw [Tryd.results8]) (by simp) ?_
 repeat' (first
 | refine W.seq ?_
 | refine W.block ?_
 | (refine W.regionM (id := 1) tys_ok [] [1] ?_; conv => whnf)
 | (refine W.regionM (id := 3) tys_ok [] [2] ?_; conv => whnf)
 | (refine W.regionM (id := 7) tys_ok [] [2] ?_; conv => whnf)
 | (refine W.region tys_ok [] ?_; conv => whnf)
 | (refine W.drawAll tys_ok [] mixed rfl ?_; conv => whnf)
 | (refine W.ret ?_; conv => whnf)
 | (refine W.skip ?_; conv => whnf)
 | (refine W.exit ?_; conv => whnf)
 | (refine callM_at (c1) ?_; conv => whnf)
 | (refine callM_at (c2) ?_; conv => whnf)
 | (refine callM_at (c3) ?_; conv => whnf)
 | (refine W.cond rfl (fun hb => ?_) (fun hb => ?_) <;> (try simp only [zr, zd, zm, minL, maxL, pickB, zA] at hb) <;> (try (first | (cases hb; done) | exact absurd hb (by decide) | (exfalso; omega) | (omega) | ((simp_all; done)))))
 | (refine Or.inl (And.intro trivial ?_); (conv => whnf))
 | ((with_reducible refine And.intro ?_ ?_); exact zc; conv => whnf)
 | ((with_reducible refine And.intro (Side.out ?_) ?_); rotate_left; (conv => whnf))
 | ((first | refine retM1 ?_ | refine retM2 ?_) <;> (conv => whnf) <;> repeat' (first
 | exact trivial
 | (with_reducible rfl)
 | ((with_reducible refine And.intro ?_ ?_) <;> conv => whnf)
 | omega
 | rfl
 | (refine congrArg (SV.arr _) ?_)
 | (refine congrArg (Value.int _) ?_)
 | (refine congrArg Value.bool ?_)))); all_goals (try unfold Side)
 all_goals try (repeat' (first | exact zb | with_reducible refine And.intro ?_ ?_))
set_option maxHeartbeats 4000000 in
theorem chang_at {i : Nat} {k v : Int} (hp : i < r.1.length) (hi : i < r.2.1.length) (hf : ((r.2.1.getD i []).length : Int) ≤ r.2.2) (hs : 0 ≤ r.2.2 ∧ r.2.2 ≤ 1000000) : FnM Tryd.prog 20 [.padr 1000000000 0, (.lit (.int .i64 (i : Int))), .strct [(.lit (.int .i64 (k : Int))), (.lit (.int .i64 (v : Int)))]] [(1000000000, .box [.lit (.bool true), .lit (.bool pet), .own 1000000001, .mown 5, (.lit (.int .i64 ((r).2.2 : Int)))]), (1000000001, .row 73 PT true (r).1), (5, .mat 77 79 NT true (r).2.1 none)] (.tup []) [(1000000000, .box [.lit (.bool true), .lit (.bool pet), .own 1000000001, .mown 5, (.lit (.int .i64 (((changR i k v r)).2.2 : Int)))]), (1000000001, .row 73 PT true ((changR i k v r)).1), (5, .mat 77 79 NT true ((changR i k v r)).2.1 none)] := by
 obtain ⟨d2, hd⟩ : ∃ d2, changR i k v r = d2 := ⟨_, rfl⟩
 rw [hd]
 have hl : @List.length PT.T r.1 = r.1.length := rfl
 have c1 := sendp_at (pet := pet) (r := (setL r.1 i v, r.2)) (i := i) (k := k) (v := v) hi hf hs
 have c2 := sendp_at (pet := pet) (r := (setL r.1 i v, r.2)) (i := i) (k := 3) (v := v) hi hf hs
 have c3 := sendp_at (pet := pet) (r := (setB r.1 i, r.2)) (i := i) (k := k) (v := v) hi hf hs
 have c4 := begin_ring (pet := pet) hp hi hf hs
 obtain ⟨N, hN⟩ : ∃ N, (r.1.getD i P0).1 = N := ⟨_, rfl⟩
 obtain ⟨B, hB⟩ : ∃ B, (r.1.getD i P0).2.1 = B := ⟨_, rfl⟩
 have key : (k = 3 ∧ v ≠ N ∧ sendR i k v (setL r.1 i v, r.2) = d2) ∨ (k ≠ 3 ∧ v = N ∧ sendR i 3 v (setL r.1 i v, r.2) = d2) ∨ (k ≠ 3 ∧ N < v ∧ sendR i k v (setB r.1 i, r.2) = d2) ∨ (k ≠ 3 ∧ v < N ∧ B = false ∧ beginR i r = d2) ∨ (k ≠ 3 ∧ v < N ∧ B = true ∧ r = d2) ∨ (k = 3 ∧ v = N ∧ r = d2) := by
  unfold changR at hd
  have hN' : pN r.1 i = N := hN
  have hB' : pB r.1 i = B := hB
  rw [hN', hB'] at hd
  by_cases k3 : k = 3
  · rw [if_pos k3] at hd
    by_cases e : v = N
    · rw [if_pos e] at hd; exact .inr (.inr (.inr (.inr (.inr ⟨k3, e, hd⟩))))
    · rw [if_neg e] at hd; exact .inl ⟨k3, e, hd⟩
  · rw [if_neg k3] at hd
    by_cases e : v = N
    · rw [if_pos e] at hd; exact .inr (.inl ⟨k3, e, hd⟩)
    · rw [if_neg e] at hd
      by_cases g : N < v
      · rw [if_pos g] at hd; exact .inr (.inr (.inl ⟨k3, g, hd⟩))
      · rw [if_neg g] at hd
        by_cases b : B = true
        · rw [if_pos b] at hd; exact .inr (.inr (.inr (.inr (.inl ⟨k3, by omega, b, hd⟩))))
        · rw [if_neg b] at hd; exact .inr (.inr (.inr (.inl ⟨k3, by omega, by simpa using b, hd⟩)))
 clear hd
 have ea : decide (v = (r.1.getD i P0).1) = decide (v = N) := by rw [hN]
 have ec : decide ((r.1.getD i P0).1 < v) = decide (N < v) := by rw [hN]
 rcases key with ⟨h1, h2, rfl⟩ | ⟨h1, h2, rfl⟩ | ⟨h1, h2, rfl⟩ | ⟨h1, h2, h3, rfl⟩ | ⟨h1, h2, h3, rfl⟩ | ⟨h1, h2, rfl⟩
 all_goals
  refine FnM.of_body tys_ok Tryd.func20 (by rfl) rfl Tryd.ntmps20 (by rw [Tryd.results20]) (by simp) ?_
  repeat' (first
 | refine W.seq ?_
 | refine W.block ?_
 | (refine W.drawPhTo (id := 2) tys_ok [] mixed [0, 1, 0, 4, 8, 16, 32, 66, 255] [([0, 2, 3, 4, 5], 2, 127), ([7, 8], 0, 511)] ⟨[(0, .padr 1000000000 0), (1, (.lit (.int .i64 (i : Int)))), (5, .padr 6000 0), (6, .oadr 1000000001 7 i 0), (7, .lit (.bool (decide (v = N))))], [(1000000000, .box [.lit (.bool true), .lit (.bool pet), .own 1000000001, .mown 5, (.lit (.int .i64 ((r).2.2 : Int)))]), (1000000001, .row 73 PT true (r).1), (5, .mat 77 79 NT true (r).2.1 none), (6000, .box [(.lit (.int .i64 (k : Int))), (.lit (.int .i64 (v : Int)))])]⟩ (by decide +kernel) ?_ ?_ <;> (conv => whnf))
 | (refine W.drawPhTo (id := 10) tys_ok [] mixed [0, 1, 0, 4, 8, 16, 32, 66, 128] [([0, 2, 3, 4, 5], 2, 127), ([7, 8], 0, 511)] ⟨[(0, .padr 1000000000 0), (1, (.lit (.int .i64 (i : Int)))), (5, .padr 6000 0), (6, .oadr 1000000001 7 i 0), (60, .lit (.bool (decide (N < v))))], [(1000000000, .box [.lit (.bool true), .lit (.bool pet), .own 1000000001, .mown 5, (.lit (.int .i64 ((r).2.2 : Int)))]), (1000000001, .row 73 PT true (r).1), (5, .mat 77 79 NT true (r).2.1 none), (6000, .box [(.lit (.int .i64 (k : Int))), (.lit (.int .i64 (v : Int)))])]⟩ (by decide +kernel) ?_ ?_ <;> (conv => whnf))
 | (refine W.regionM (id := 5) tys_ok [] [6] ?_; conv => whnf)
 | (refine W.regionM (id := 9) tys_ok [] [4] ?_; conv => whnf)
 | (refine W.regionM (id := 12) tys_ok [] [6] ?_; conv => whnf)
 | (refine W.regionM (id := 14) tys_ok [] [2] ?_; conv => whnf)
 | (refine W.region tys_ok [] ?_; conv => whnf)
 | (refine W.drawAll tys_ok [] mixed rfl ?_; conv => whnf)
 | (refine W.ret ?_; conv => whnf)
 | (refine W.skip ?_; conv => whnf)
 | (refine W.exit ?_; conv => whnf)
 | (have _ : k = 3 := h1; refine callM_at c1 ?_; conv => whnf)
 | (have _ : v = N := h2; refine callM_at c2 ?_; conv => whnf)
 | (have _ : N < v := h2; refine callM_at c3 ?_; conv => whnf)
 | (refine callM_at (c4) ?_; conv => whnf)
 | (refine Both.mk ?_ ?_ <;> (conv => whnf))
 | (refine W.cond rfl (fun hb => ?_) (fun hb => ?_) <;> (try simp only [zr, zd, zm, minL, maxL, pickB, zA] at hb) <;> (try (first | (cases hb; done) | exact absurd hb (by decide) | (exfalso; omega) | (omega) | ((rw [hB] at hb; simp_all; done)) | ((simp [pickB] at hb; omega)) | ((simp_all; done)))))
 | (refine Or.inl (And.intro trivial ?_); (conv => whnf))
 | ((with_reducible refine And.intro ?_ ?_); exact zc; conv => whnf)
 | ((with_reducible refine And.intro (Side.out ?_) ?_); rotate_left; (conv => whnf))
 | ((first | refine retM1 ?_ | refine retM2 ?_ | refine subF.leaf ?_ | refine subF.side ?_) <;> (conv => whnf) <;> repeat' (first
 | exact trivial
 | (with_reducible rfl)
 | ((with_reducible refine And.intro ?_ ?_) <;> conv => whnf)
 | omega
 | rfl
 | (refine congrArg (SV.arr _) ?_)
 | (refine congrArg (Value.int _) ?_)
 | (refine congrArg Value.bool ?_)))); all_goals (try unfold Side)
 all_goals first | exact ea | exact ec | skip
 all_goals try (repeat' (first | exact zb | with_reducible refine And.intro ?_ ?_))
end Go.Proofs.YtckmhlpngolbpaaDoor
namespace Go.Vc
theorem W.joinTo {P : Program} {n : Nat} {Q : Exit → Sy → Prop} {Γ : Sy} {t : Nat} {u x y z : Code} (Γ' : Sy) (h1 : W P n (.seq u (.cond (.tmp t) x y)) Γ (thenQ (fun Γ1 => Leaf (Sub Γ1 Γ' (mkRen Γ1 Γ'))) Q)) (h2 : W P n z Γ' Q) : W P n (.seq (.seq u (.cond (.tmp t) x y)) z) Γ Q := by
 refine W.seq ⟨fun c g a w hn hst => wp_mono (h1.out c g a w hn hst) fun e a' w' hq => ?_⟩
 obtain ⟨Γ1, g', h3, h4⟩ := hq
 cases e with
 | normal => exact ⟨Γ1, g', (let ⟨h5⟩ := h3; W.sub h5 h2), h4⟩
 | _ => exact ⟨Γ1, g', h3, h4⟩
end Go.Vc
namespace Go.Proofs.YtckmhlpngolbpaaDoor
open Int renaming reduceToNat → zr, reduceTDiv → zd, reduceTMod → zm
open Go Go.Vc Go.Rg
variable {n : Nat} {pet : Bool} {r : Rn}
def sp3 (ps : List Pe) (i : Nat) (v : Int) : List Pe := ps.set i ((ps.getD i P0).1, (ps.getD i P0).2.1, (ps.getD i P0).2.2.1, v, (ps.getD i P0).2.2.2.2)
def sp4 (ps : List Pe) (i : Nat) (v : Int) : List Pe := ps.set i ((ps.getD i P0).1, (ps.getD i P0).2.1, (ps.getD i P0).2.2.1, (ps.getD i P0).2.2.2.1, v, (ps.getD i P0).2.2.2.2.2)
def sp6 (ps : List Pe) (i : Nat) (v : Int) : List Pe := ps.set i ((ps.getD i P0).1, (ps.getD i P0).2.1, (ps.getD i P0).2.2.1, (ps.getD i P0).2.2.2.1, (ps.getD i P0).2.2.2.2.1, (ps.getD i P0).2.2.2.2.2.1, v, (ps.getD i P0).2.2.2.2.2.2.2)
theorem sp_no {ps : List Pe} {i : Nat} {v : Int} (hi : i < ps.length) : sp6 (sp4 ps i v) i 2 = setNo ps i v := by
 have e : (sp4 ps i v).getD i P0 = ((ps.getD i P0).1, (ps.getD i P0).2.1, (ps.getD i P0).2.2.1, (ps.getD i P0).2.2.2.1, v, (ps.getD i P0).2.2.2.2.2) := by unfold sp4; rw [getD_setP hi, if_pos rfl]
 unfold sp6
 rw [e]
 unfold sp4
 rw [List.set_set]
 rfl
theorem sp_v {ps : List Pe} {i : Nat} (hi : i < ps.length) : sp6 (sp3 ps i (pO ps i)) i 1 = setV ps i := by
 have e : (sp3 ps i (pO ps i)).getD i P0 = ((ps.getD i P0).1, (ps.getD i P0).2.1, (ps.getD i P0).2.2.1, pO ps i, (ps.getD i P0).2.2.2.2) := by unfold sp3; rw [getD_setP hi, if_pos rfl]
 unfold sp6
 rw [e]
 unfold sp3
 rw [List.set_set]
 rfl
theorem sp3_len {ps : List Pe} {i : Nat} {v : Int} (hi : i < ps.length) : i < (sp3 ps i v).length := by unfold sp3; rw [List.length_set]; exact hi
theorem sp4_len {ps : List Pe} {i : Nat} {v : Int} (hi : i < ps.length) : i < (sp4 ps i v).length := by unfold sp4; rw [List.length_set]; exact hi
theorem getV_setV {ps : List Pe} {i : Nat} (hi : i < ps.length) : pV (setV ps i) i = pO ps i := by unfold pV setV; rw [getD_setP hi, if_pos rfl]
theorem beginR_ok {i : Nat} (hp : i < r.1.length) (hi : i < r.2.1.length) (hf : ((r.2.1.getD i []).length : Int) ≤ r.2.2) : i < (beginR i r).1.length ∧ i < (beginR i r).2.1.length ∧ (((beginR i r).2.1.getD i []).length : Int) ≤ (beginR i r).2.2 ∧ (beginR i r).2.2 = r.2.2 + 1 := by
 refine ⟨by show i < (setB r.1 i).length; rw [setB_len]; exact hp, by show i < (r.2.1.set i _).length; rw [List.length_set]; exact hi, ?_, rfl⟩
 show (((r.2.1.set i (r.2.1.getD i [] ++ [(1, pV r.1 i, ())])).getD i []).length : Int) ≤ r.2.2 + 1
 rw [getD_setF hi, if_pos rfl, List.length_append, List.length_singleton]; omega
set_option maxHeartbeats 8000000 in
theorem peter_at {i : Nat} {k v : Int} (hp0 : i < r.1.length) (hi0 : i < r.2.1.length) (hf0 : ((r.2.1.getD i []).length : Int) ≤ r.2.2) (hs0 : 0 ≤ r.2.2 ∧ r.2.2 ≤ 999999) : FnM Tryd.prog 21 [.padr 1000000000 0, (.lit (.int .i64 (i : Int))), .strct [(.lit (.int .i64 (k : Int))), (.lit (.int .i64 (v : Int)))]] [(1000000000, .box [.lit (.bool true), .lit (.bool pet), .own 1000000001, .mown 5, (.lit (.int .i64 ((r).2.2 : Int)))]), (1000000001, .row 73 PT true (r).1), (5, .mat 77 79 NT true (r).2.1 none)] (.tup []) [(1000000000, .box [.lit (.bool true), .lit (.bool pet), .own 1000000001, .mown 5, (.lit (.int .i64 (((peterR i k v r)).2.2 : Int)))]), (1000000001, .row 73 PT true ((peterR i k v r)).1), (5, .mat 77 79 NT true ((peterR i k v r)).2.1 none)] := by
  obtain ⟨d2, hd⟩ : ∃ d2, peterR i k v r = d2 := ⟨_, rfl⟩
  rw [hd]
  have hl0 : @List.length PT.T r.1 = r.1.length := rfl
  have e00 : 0 ≤ (i : Int) ∧ i < r.1.length := ⟨by omega, hp0⟩
  have c0 := begin_ring (pet := pet) (r := r) (i := i) hp0 hi0 hf0 ⟨by omega, by omega⟩
  have hb0 : (r.1.getD i P0).2.1 = pB r.1 i := rfl
  obtain ⟨x, hx⟩ : ∃ x, x = wakeR i r := ⟨_, rfl⟩
  obtain ⟨hw1, hw2, hp, hi, hf, hs⟩ : (pB r.1 i = true → r = x) ∧ (pB r.1 i = false → beginR i r = x) ∧ i < x.1.length ∧ i < x.2.1.length ∧ ((x.2.1.getD i []).length : Int) ≤ x.2.2 ∧ 0 ≤ x.2.2 ∧ x.2.2 ≤ 1000000 := by
    obtain ⟨q1, q2, q3, q4⟩ := beginR_ok hp0 hi0 hf0
    rw [hx]
    unfold wakeR
    by_cases hb : pB r.1 i = true
    · rw [if_pos hb]; exact ⟨fun _ => rfl, (fun h => by rw [hb] at h; cases h), hp0, hi0, hf0, by omega, by omega⟩
    · rw [if_neg hb]; exact ⟨fun h => absurd h hb, fun _ => rfl, q1, q2, q3, by omega, by omega⟩
  have hw3 : (!(r.1.getD i P0).2.1) = false → r = x := fun h => hw1 (by rw [hb0] at h; simpa using h)
  have hw4 : (!(r.1.getD i P0).2.1) = true → beginR i r = x := fun h => hw2 (by rw [hb0] at h; simpa using h)
  have hl : @List.length PT.T x.1 = x.1.length := rfl
  have e0 : 0 ≤ (i : Int) ∧ i < x.1.length := ⟨by omega, hp⟩
  have c1 := sendp_at (pet := pet) (r := (setL x.1 i v, x.2)) (i := i) (k := 3) (v := v) hi hf hs
  have c2 := sendp_at (pet := pet) (r := x) (i := i) (k := k) (v := v) hi hf hs
  have c3 := sendp_at (pet := pet) (r := (setNo x.1 i v, x.2)) (i := i) (k := 2) (v := v) hi hf hs
  have c4 := sendp_at (pet := pet) (r := (setV x.1 i, x.2)) (i := i) (k := 1) (v := pO x.1 i) hi hf hs
  obtain ⟨V, hV⟩ : ∃ V, (x.1.getD i P0).2.2.2.1 = V := ⟨_, rfl⟩
  obtain ⟨O, hO⟩ : ∃ O, (x.1.getD i P0).2.2.2.2.1 = O := ⟨_, rfl⟩
  obtain ⟨L, hL⟩ : ∃ L, (x.1.getD i P0).2.2.1 = L := ⟨_, rfl⟩
  obtain ⟨P, hP⟩ : ∃ P, (x.1.getD i P0).2.2.2.2.2.1 = P := ⟨_, rfl⟩
  have key : (k = 3 ∧ L = 0 ∧ sendR i 3 v (setL x.1 i v, x.2) = d2) ∨ (k = 3 ∧ L ≠ 0 ∧ x = d2) ∨ (k ≠ 3 ∧ P = true ∧ sendR i k v x = d2) ∨ (k = 1 ∧ P = false ∧ v = V ∧ sendR i 3 v (setL x.1 i v, x.2) = d2) ∨ (k = 1 ∧ P = false ∧ v ≠ V ∧ sendR i 2 v (setNo x.1 i v, x.2) = d2) ∨
      ((k ≠ 3 ∧ k ≠ 1) ∧ P = false ∧ (V < O ∧ v < O) ∧ sendR i 1 O (setV x.1 i, x.2) = d2) ∨ ((k ≠ 3 ∧ k ≠ 1) ∧ P = false ∧ ¬ (V < O ∧ v < O) ∧ (setR x.1 i, x.2) = d2) := by
    unfold peterR at hd
    rw [← hx] at hd
    unfold peterS at hd
    have hV' : pV x.1 i = V := hV
    have hO' : pO x.1 i = O := hO
    have hL' : pL x.1 i = L := hL
    have hP' : pR x.1 i = P := hP
    rw [hV', hO', hL', hP'] at hd
    by_cases k3 : k = 3
    · rw [if_pos k3] at hd
      by_cases l0 : L = 0
      · rw [if_pos l0, k3] at hd; exact .inl ⟨k3, l0, hd⟩
      · rw [if_neg l0] at hd; exact .inr (.inl ⟨k3, l0, hd⟩)
    · rw [if_neg k3] at hd
      by_cases p1 : P = true
      · rw [if_pos p1] at hd; exact .inr (.inr (.inl ⟨k3, p1, hd⟩))
      · rw [if_neg p1] at hd
        have p1 : P = false := by simpa using p1
        by_cases k1 : k = 1
        · rw [if_pos k1] at hd
          by_cases v1 : v = V
          · rw [if_pos v1] at hd; exact .inr (.inr (.inr (.inl ⟨k1, p1, v1, hd⟩)))
          · rw [if_neg v1] at hd; exact .inr (.inr (.inr (.inr (.inl ⟨k1, p1, v1, hd⟩))))
        · rw [if_neg k1] at hd
          by_cases u : V < O ∧ v < O
          · rw [if_pos u] at hd; exact .inr (.inr (.inr (.inr (.inr (.inl ⟨⟨k3, k1⟩, p1, u, hd⟩)))))
          · rw [if_neg u] at hd; exact .inr (.inr (.inr (.inr (.inr (.inr ⟨⟨k3, k1⟩, p1, u, hd⟩)))))
  clear hd
  have q3 : 0 ≤ (i : Int) ∧ i < (sp3 x.1 i (pO x.1 i)).length := ⟨by omega, sp3_len hp⟩
  have q5 : i < (sp6 (sp3 x.1 i (pO x.1 i)) i 1).length := by unfold sp6; rw [List.length_set]; exact sp3_len hp
  have q4 : 0 ≤ (i : Int) ∧ i < (sp4 x.1 i v).length := ⟨by omega, sp4_len hp⟩
  have hU : pV (sp6 (sp3 x.1 i (pO x.1 i)) i 1) i = pO x.1 i := by rw [sp_v hp]; exact getV_setV hp
  have ep1 : pickB (decide (k = 1)) (Operand.tmp 71) (Operand.const (Value.bool false)) (decide (v = (x.1.getD i P0).2.2.2.1)) false = (decide (k = 1) && decide (v = V)) := by rw [hV]; rfl
  have ep2 : pickB (decide ((x.1.getD i P0).2.2.2.1 < (x.1.getD i P0).2.2.2.2.1)) (Operand.tmp 118) (Operand.const (Value.bool false)) (decide (v < (x.1.getD i P0).2.2.2.2.1)) false = (decide (V < O) && decide (v < O)) := by rw [hV, hO]; rfl
  clear hx
  rcases key with ⟨h1, h2, rfl⟩ | ⟨h1, h2, rfl⟩ | ⟨h1, h2, rfl⟩ | ⟨h1, h2, h3, rfl⟩ | ⟨h1, h2, h3, rfl⟩ | ⟨h1, h2, h3, rfl⟩ | ⟨h1, h2, h3, rfl⟩
  all_goals
    refine FnM.of_body tys_ok Tryd.func21 (by rfl) rfl Tryd.ntmps21 (by rw [Tryd.results21]) (by simp) ?_
    repeat' (first
 | refine W.joinTo (t := 18) ⟨[(0, .padr 1000000000 0), (1, (.lit (.int .i64 (i : Int)))), (5, .padr 6000 0), (6, .oadr 1000000001 7 i 0)], [(1000000000, .box [.lit (.bool true), .lit (.bool pet), .own 1000000001, .mown 5, (.lit (.int .i64 ((x).2.2 : Int)))]), (1000000001, .row 73 PT true (x).1), (5, .mat 77 79 NT true (x).2.1 none), (6000, .box [(.lit (.int .i64 (k : Int))), (.lit (.int .i64 (v : Int)))])]⟩ ?_ ?_
 | refine W.seq ?_
 | refine W.block ?_
 | (refine W.regionM (id := 3) tys_ok [] [2] ?_; conv => whnf)
 | (refine W.regionM (id := 8) tys_ok [] [6] ?_; conv => whnf)
 | (refine W.regionM (id := 10) tys_ok [] [6] ?_; conv => whnf)
 | (refine W.regionM (id := 13) tys_ok [] [4] ?_; conv => whnf)
 | (refine W.regionM (id := 16) tys_ok [] [4] ?_; conv => whnf)
 | (refine W.regionM (id := 19) tys_ok [] [6] ?_; conv => whnf)
 | (refine W.drawPhTo (id := 11) tys_ok [] mixed [0, 1, 2, 4, 8, 24, 8, 72, 136, 264, 552, 1032, 2056] [([0], 1, 3), ([2, 3, 4, 6, 7, 8], 2, 1023), ([10, 11, 12], 0, 8191)] ⟨[(0, .padr 1000000000 0), (1, (.lit (.int .i64 (i : Int)))), (5, .padr 6000 0), (6, .oadr 1000000001 7 i 0), (60, .lit (.bool (decide (k = 1) && decide (v = V))))], [(1000000000, .box [.lit (.bool true), .lit (.bool pet), .own 1000000001, .mown 5, (.lit (.int .i64 ((x).2.2 : Int)))]), (1000000001, .row 73 PT true (x).1), (5, .mat 77 79 NT true (x).2.1 none), (6000, .box [(.lit (.int .i64 (k : Int))), (.lit (.int .i64 (v : Int)))])]⟩ (by decide +kernel) ?_ ?_ <;> (conv => whnf))
 | (refine W.drawPhTo (id := 17) tys_ok [] mixed [0, 1, 2, 4, 0, 16, 32, 64, 136, 256, 512, 1536, 2560, 4608, 512, 16896, 41472, 66048, 131584] [([0, 1, 2, 4, 5, 6], 2, 255), ([8, 9, 10, 11, 12, 14], 2, 65535), ([16, 17, 18], 0, 524287)] ⟨[(0, .padr 1000000000 0), (1, (.lit (.int .i64 (i : Int)))), (5, .padr 6000 0), (6, .oadr 1000000001 7 i 0), (101, .lit (.bool (decide (V < O) && decide (v < O))))], [(1000000000, .box [.lit (.bool true), .lit (.bool pet), .own 1000000001, .mown 5, (.lit (.int .i64 ((x).2.2 : Int)))]), (1000000001, .row 73 PT true (x).1), (5, .mat 77 79 NT true (x).2.1 none), (6000, .box [(.lit (.int .i64 (k : Int))), (.lit (.int .i64 (v : Int)))])]⟩ (by decide +kernel) ?_ ?_ <;> (conv => whnf))
 | (refine W.region tys_ok [] ?_; conv => whnf)
 | (refine W.drawAll tys_ok [] mixed rfl ?_; conv => whnf)
 | (refine W.ret ?_; conv => whnf)
 | (refine W.skip ?_; conv => whnf)
 | (refine W.exit ?_; conv => whnf)
 | (refine callM_at (c0) ?_; conv => whnf)
 | (have _ : P = true := h2; refine callM_at c2 ?_; conv => whnf)
 | (have _ : L = 0 := h2; refine callM_at c1 ?_; conv => whnf)
 | (have _ : v = V := h3; refine callM_at c1 ?_; conv => whnf)
 | (have _ : k = 1 := h1; refine callM_at c3 ?_; conv => whnf)
 | (refine callM_at (c4) ?_; conv => whnf)
 | (refine Both.mk ?_ ?_ <;> (conv => whnf))
 | (refine W.cond rfl (fun hb => ?_) (fun hb => ?_) <;> (try simp only [zr, zd, zm, minL, maxL, pickB, zA] at hb) <;> (try (first | (cases hb; done) | exact absurd hb (by decide) | (exfalso; omega) | (omega) | ((simp [pickB, hV, hO, hL, hP] at hb; omega)) | ((rw [hL] at hb; omega)) | ((rw [hP, h2] at hb; cases hb; done)))))
 | (refine Or.inl (And.intro trivial ?_); (conv => whnf))
 | ((with_reducible refine And.intro ?_ ?_); exact zc; conv => whnf)
 | ((with_reducible refine And.intro (Side.out ?_) ?_); rotate_left; (conv => whnf))
 | ((first | refine retM1 ?_ | refine retM2 ?_ | refine subF.leaf ?_ | refine subF.side ?_) <;> (conv => whnf) <;> repeat' (first
 | exact trivial
 | (with_reducible rfl)
 | ((with_reducible refine And.intro ?_ ?_) <;> conv => whnf)
 | omega
 | rfl
 | (refine congrArg (SV.arr _) ?_)
 | (refine congrArg (Value.int _) ?_)
 | (refine congrArg Value.bool ?_)))); all_goals (try unfold Side)
  all_goals first
    | exact congrArg (fun r : Rn => r.2.2) (hw3 hb)
    | exact congrArg (fun r : Rn => r.1) (hw3 hb)
    | exact congrArg (fun r : Rn => r.2.1) (hw3 hb)
    | exact congrArg (fun r : Rn => r.2.2) (hw4 hb)
    | exact congrArg (fun r : Rn => r.1) (hw4 hb)
    | exact congrArg (fun r : Rn => r.2.1) (hw4 hb)
    | exact ep1 | exact ep2 | exact congrArg (fun O => (sendR i 1 O (setV x.1 i, x.2)).2.1) (show pO x.1 i = O from hO) | rfl | exact sp3_len hp | exact sp4_len hp | exact Path.imp_of e0 | exact Path.imp_of e00 | exact Path.imp_of q3 | exact Path.imp_of q5 | exact Path.imp_of q4 | exact sp_no hp | exact sp_v hp | exact congrArg _ (sp_no hp) | exact congrArg _ (sp_v hp) | exact hU | skip
  all_goals try (repeat' (first | exact zb | with_reducible refine And.intro ?_ ?_))
open Go Go.Vc Go.Rg
variable {n : Nat} {pet : Bool} {r : Rn}
theorem leader_in {i : Nat} (hp : i < r.1.length) : FnM Tryd.prog 10 [.padr 1000000000 0, (.lit (.int .i64 (i : Int)))] [(1000000000, .box [.lit (.bool true), .lit (.bool pet), .own 1000000001, .mown 1000000002, (.lit (.int .i64 ((r).2.2 : Int)))]), (1000000001, .row 73 PT true (r).1), (1000000002, .mat 77 79 NT true (r).2.1 none)] (.lit (.int .i64 (pL r.1 i : Int))) [(1000000000, .box [.lit (.bool true), .lit (.bool pet), .own 1000000001, .mown 1000000002, (.lit (.int .i64 ((r).2.2 : Int)))]), (1000000001, .row 73 PT true (r).1), (1000000002, .mat 77 79 NT true (r).2.1 none)] := by
 have c1 := ris_at (pet := pet) (r := r)
 have c2 := rhas_at (pet := pet) (r := r) (has_of hp).symm
 have hl : @List.length PT.T r.1 = r.1.length := rfl
 refine FnM.of_body tys_ok Tryd.func10 (by rfl) rfl Tryd.ntmps10 (by rw [Tryd.results10]) (by simp) ?_
 repeat' (first
 | refine W.seq ?_
 | refine W.block ?_
 | (refine W.regionM (id := 1) tys_ok [] [1,6] ?_; conv => whnf)
 | (refine W.region tys_ok [] ?_; conv => whnf)
 | (refine W.drawAll tys_ok [] mixed rfl ?_; conv => whnf)
 | (refine W.ret ?_; conv => whnf)
 | (refine W.skip ?_; conv => whnf)
 | (refine W.exit ?_; conv => whnf)
 | (refine callM_at (c1) ?_; conv => whnf)
 | (refine callM_at (c2) ?_; conv => whnf)
 | (refine W.cond rfl (fun hb => ?_) (fun hb => ?_) <;> (try simp only [zr, zd, zm, minL, maxL, pickB, zA] at hb) <;> (try (first | (cases hb; done) | exact absurd hb (by decide) | (exfalso; omega) | (omega) | ((simp_all; done)))))
 | (refine Or.inl (And.intro ?_ ?_); exact zi; conv => whnf)
 | (refine Or.inr (And.intro ?_ ?_); exact zj; conv => whnf)
 | ((with_reducible refine And.intro ?_ ?_); exact zc; conv => whnf)
 | ((with_reducible refine And.intro (Side.out ?_) ?_); rotate_left; (conv => whnf))
 | ((first | refine retM1 ?_ | refine retM2 ?_) <;> (conv => whnf) <;> repeat' (first
 | exact trivial
 | (with_reducible rfl)
 | ((with_reducible refine And.intro ?_ ?_) <;> conv => whnf)
 | omega
 | rfl
 | (refine congrArg (SV.arr _) ?_)
 | (refine congrArg (Value.int _) ?_)
 | (refine congrArg Value.bool ?_)))); all_goals (try unfold Side)
 all_goals try (repeat' (first | exact zb | with_reducible refine And.intro ?_ ?_))
theorem rdel_arg {i : Int} (h : hasB r.1.length i = false) : FnM Tryd.prog 9 [.padr 1000000000 0, (.lit (.int .i64 (i : Int)))] [(1000000000, .box [.lit (.bool true), .lit (.bool pet), .own 1000000001, .mown 5, (.lit (.int .i64 ((r).2.2 : Int)))]), (1000000001, .row 73 PT true (r).1), (5, .mat 77 79 NT true (r).2.1 none)] (.lit (.int .i64 (1 : Int))) [(1000000000, .box [.lit (.bool true), .lit (.bool pet), .own 1000000001, .mown 5, (.lit (.int .i64 ((r).2.2 : Int)))]), (1000000001, .row 73 PT true (r).1), (5, .mat 77 79 NT true (r).2.1 none)] := by
 have c1 := ris_at (pet := pet) (r := r)
 have c2 := rhas_at (pet := pet) (r := r) h.symm
 refine FnM.of_body tys_ok Tryd.func9 (by rfl) rfl Tryd.ntmps9 (by rw [Tryd.results9]) (by simp) ?_
 repeat' (first
 | refine W.seq ?_
 | refine W.block ?_
 | (refine W.regionM (id := 1) tys_ok [] [1] ?_; conv => whnf)
 | (refine W.regionM (id := 3) tys_ok [] [2] ?_; conv => whnf)
 | (refine W.region tys_ok [] ?_; conv => whnf)
 | (refine W.drawAll tys_ok [] mixed rfl ?_; conv => whnf)
 | (refine W.ret ?_; conv => whnf)
 | (refine W.skip ?_; conv => whnf)
 | (refine W.exit ?_; conv => whnf)
 | (refine callM_at (c1) ?_; conv => whnf)
 | (refine callM_at (c2) ?_; conv => whnf)
 | (refine W.cond rfl (fun hb => ?_) (fun hb => ?_) <;> (try simp only [zr, zd, zm, minL, maxL, pickB, zA] at hb) <;> (try (first | (cases hb; done) | exact absurd hb (by decide) | (exfalso; omega) | (omega))))
 | (refine Or.inl (And.intro trivial ?_); (conv => whnf))
 | ((with_reducible refine And.intro ?_ ?_); exact zc; conv => whnf)
 | ((with_reducible refine And.intro (Side.out ?_) ?_); rotate_left; (conv => whnf))
 | ((first | refine retM1 ?_ | refine retM2 ?_) <;> (conv => whnf) <;> repeat' (first
 | exact trivial
 | (with_reducible rfl)
 | ((with_reducible refine And.intro ?_ ?_) <;> conv => whnf)
 | omega
 | rfl
 | (refine congrArg (SV.arr _) ?_)
 | (refine congrArg (Value.int _) ?_)
 | (refine congrArg Value.bool ?_)))); all_goals (try unfold Side)
 all_goals try (repeat' (first | exact zb | with_reducible refine And.intro ?_ ?_))
theorem rdel_none {i : Nat} (hp : i < r.1.length) (hi : i < r.2.1.length) (h0 : (r.2.1.getD i []).length = 0) : FnM Tryd.prog 9 [.padr 1000000000 0, (.lit (.int .i64 (i : Int)))] [(1000000000, .box [.lit (.bool true), .lit (.bool pet), .own 1000000001, .mown 5, (.lit (.int .i64 ((r).2.2 : Int)))]), (1000000001, .row 73 PT true (r).1), (5, .mat 77 79 NT true (r).2.1 none)] (.lit (.int .i64 (5 : Int))) [(1000000000, .box [.lit (.bool true), .lit (.bool pet), .own 1000000001, .mown 5, (.lit (.int .i64 ((r).2.2 : Int)))]), (1000000001, .row 73 PT true (r).1), (5, .mat 77 79 NT true (r).2.1 none)] := by
 have c1 := ris_at (pet := pet) (r := r)
 have c2 := rhas_at (pet := pet) (r := r) (has_of hp).symm
 have e0 : @List.length NT.T (@List.getD (List NT.T) r.2.1 i []) = 0 := h0
 have e1 : 0 ≤ (i : Int) ∧ i < r.2.1.length := ⟨by omega, hi⟩
 refine FnM.of_body tys_ok Tryd.func9 (by rfl) rfl Tryd.ntmps9 (by rw [Tryd.results9]) (by simp) ?_
 repeat' (first
 | refine W.seq ?_
 | refine W.block ?_
 | (refine W.regionM (id := 1) tys_ok [] [1] ?_; conv => whnf)
 | (refine W.regionM (id := 3) tys_ok [] [2] ?_; conv => whnf)
 | (refine W.region tys_ok [] ?_; conv => whnf)
 | (refine W.drawAll tys_ok [] mixed rfl ?_; conv => whnf)
 | (refine W.ret ?_; conv => whnf)
 | (refine W.skip ?_; conv => whnf)
 | (refine W.exit ?_; conv => whnf)
 | (refine callM_at (c1) ?_; conv => whnf)
 | (refine callM_at (c2) ?_; conv => whnf)
 | (refine W.cond rfl (fun hb => ?_) (fun hb => ?_) <;> (try simp only [zr, zd, zm, minL, maxL, pickB, zA] at hb) <;> (try (first | (cases hb; done) | exact absurd hb (by decide) | (exfalso; omega) | (omega) | ((simp_all; done)))))
 | (refine Or.inl (And.intro trivial ?_); (conv => whnf))
 | ((with_reducible refine And.intro ?_ ?_); exact zc; conv => whnf)
 | ((with_reducible refine And.intro (Side.out ?_) ?_); rotate_left; (conv => whnf))
 | ((first | refine retM1 ?_ | refine retM2 ?_) <;> (conv => whnf) <;> repeat' (first
 | exact trivial
 | (with_reducible rfl)
 | ((with_reducible refine And.intro ?_ ?_) <;> conv => whnf)
 | omega
 | rfl
 | (refine congrArg (SV.arr _) ?_)
 | (refine congrArg (Value.int _) ?_)
 | (refine congrArg Value.bool ?_)))); all_goals (try unfold Side)
 all_goals try (repeat' (first | exact zb | with_reducible refine And.intro ?_ ?_))
 all_goals first | exact hi | exact Path.imp_of hi | exact Path.imp_of e1 | skip
end Go.Proofs.YtckmhlpngolbpaaDoor
