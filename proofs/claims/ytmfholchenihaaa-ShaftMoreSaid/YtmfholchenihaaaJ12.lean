/- Joined of: H30 Ha19 H33. No condition. -/
import Derived.Test.YtmfholchenihaaaJ9
import Derived.Test.YtmfholchenihaaaJ11

namespace Go.Proofs.Ytmfholchenihaaa
open Go Go.Vc Go.Sh
set_option linter.unusedVariables false
set_option linter.unusedSimpArgs false
theorem sm4_wf {x : List Jb} (h : (Ty.sl U4).wf x) : sm4 x := fun i => by
  have h2 : ∀ y ∈ x, U4.wf y := h.2
  by_cases hi : i < x.length
  · have h3 := h2 _ (getD_mem (d := J0) hi)
    exact ⟨wf_u8 h3.1, wf_u8 h3.2.1, wf_u8 h3.2.2.1, wf_u8 h3.2.2.2.1⟩
  · have : x.getD i J0 = J0 := by simp [List.getD, List.getElem?_eq_none (Nat.le_of_not_lt hi)]
    rw [this]; decide
theorem sm2_wf {y : List Od} (h : (Ty.sl U2).wf y) : sm2 y := fun i => by
  have h2 : ∀ z ∈ y, U2.wf z := h.2
  by_cases hi : i < y.length
  · have h3 := h2 _ (getD_mem (d := O0) hi)
    exact ⟨wf_u8 h3.1, wf_u8 h3.2.1⟩
  · have : y.getD i O0 = O0 := by simp [List.getD, List.getElem?_eq_none (Nat.le_of_not_lt hi)]
    rw [this]; decide
theorem made_eq {p Q : Int} {x J : List Jb} {y O : List Od} (hp : 0 ≤ p ∧ p ≤ 255) (hx : sm4 x) (hy : sm2 y) (hQ : Q = p % 6 + 1) (hJ : J = mkJs x) (hO : O = mkOs J.length y) :
    VS Q J O ∧ (1 ≤ Q ∧ Q ≤ 6) ∧ FnAt Try.prog false 27 [.agg [.lit (.int .u8 p), .arr U4 x, .arr U2 y]] (.strct [.lit (.int .i64 Q), .own 0, .own 1]) [(0, .row 45 JT true J), (1, .row 79 OT true O)] := by
  subst hQ hO hJ
  exact ⟨mk_vs (by omega), by omega, made_at hp hx hy⟩
end Go.Proofs.Ytmfholchenihaaa
namespace Go.Sh
set_option linter.unusedVariables false
set_option linter.unusedSimpArgs false
def moJ (l : List Jb) (j : Nat) (a b : Int) : List Jb := l.set j (max 0 (jf l j - a), min 24 (jt l j + b), jl l j, jp l j, ())
theorem moJ_len {l : List Jb} {j : Nat} {a b : Int} : (moJ l j a b).length = l.length := by simp [moJ]
theorem mo_vs {P P' : Int} {l : List Jb} {os os' : List Od} {j : Nat} {a b : Int} (h : VS P l os) (hP : 1 ≤ P' ∧ P' ≤ 20) (hj : j < l.length) (ha : 0 ≤ a) (hb : 0 ≤ b) (ho : os'.length ≤ os.length) (hm : ∀ o ∈ os', o ∈ os) : VS P' (moJ l j a b) os' := by
  refine ⟨hP, by rw [moJ_len]; exact h.ln, by have := h.lo; omega, fun i hi => ?_, fun i hi => ?_⟩
  · rw [moJ_len] at hi
    unfold moJ
    rw [set_get hj]
    by_cases e : i = j
    · subst e
      rw [if_pos rfl]
      have := h.rg i hi
      unfold JobOk at this ⊢
      unfold jf jt jl jp
      dsimp only
      omega
    · rw [if_neg e]; exact h.rg i hi
  · rw [moJ_len]
    obtain ⟨k, hk, e⟩ := List.getElem_of_mem (hm _ (getD_mem (d := O0) hi))
    have := h.od k hk
    rw [List.getD_eq_getElem?_getD, List.getElem?_eq_getElem hk, Option.getD_some, e] at this
    exact this
theorem mo_fit {P P' : Int} {l : List Jb} {os os' : List Od} {j : Nat} {a b : Int} (h : VS P l os) (hP : P ≤ P') (hj : j < l.length) (ha : 0 ≤ a) (hb : 0 ≤ b) (hm : ∀ o ∈ os', o ∈ os) {s : List Int} (hs : Fit P l os s) : Fit P' (moJ l j a b) os' s ∧ endT (moJ l j a b) s = endT l s := by
  refine fit_more hP moJ_len (fun i hi => ?_) (fun i => ?_) hm hs
  · obtain ⟨e1, e2, _, _⟩ := set_job (m := i) (f := max 0 (jf l j - a)) (t := min 24 (jt l j + b)) hj
    unfold moJ
    rw [e1, e2]
    have := h.pre.rg i hi
    by_cases e : i = j
    · subst e; rw [if_pos rfl, if_pos rfl]; omega
    · rw [if_neg e, if_neg e]; omega
  · obtain ⟨_, _, e3, e4⟩ := set_job (m := i) (f := max 0 (jf l j - a)) (t := min 24 (jt l j + b)) hj
    exact ⟨e3, e4⟩
end Go.Sh
namespace Go.Proofs.Ytmfholchenihaaa
open Go Go.Vc Go.Sh
set_option linter.unusedVariables false
set_option linter.unusedSimpArgs false
theorem First_at {P : Int} {l : List Jb} {os : List Od} (h : VS P l os) : FnAt Try.prog true 19 [.agg [I64 P, .arr JT l, .arr OT os]] (.tup [.st true (.narr (.int .i64) (firstT P l os : List Int)), .lit (.int .i64 (if firstT P l os = [] then 5 else 0))]) [] := by
  by_cases e : firstT P l os = []
  · rw [if_pos e, e]; exact First_none h e
  · rw [if_neg e]; exact First_ok h rfl e
set_option maxHeartbeats 16000000 in
theorem more2_at {P P' : Int} {l l' : List Jb} {os os' : List Od} (h : VS P l os) (h' : VS P' l' os') (hlen : l'.length = l.length) (hfit : ∀ s, Fit P l os s → Fit P' l' os' s ∧ endT l' s = endT l s) {r : List Int} {E e : Int} (hr : r = firstT P l os) (he : e = if r = [] then 5 else 0) (hE : E = shE P l os) :
    W Try.prog 161 (sfx 11 (bodyOf Try.f12)) ⟨[(6, .st true (.narr (.int .i64) (r : List Int))), (7, .lit (.int .i64 e)), (9, .lit (.int .i64 E)), (11, .st true (.sadr (.agg [I64 P', .arr JT l', .arr OT os'])))], []⟩ (bodyQ tys [.tmp 4] (.lit (.bool true)) []) := by
  -- func12 (by rfl)
  have c1 := First_at h'
  have c2 := Short_at h'
  have ht := first_spec h'
  have hu := sh_spec h'
  obtain ⟨R, hR⟩ : ∃ R, R = firstT P' l' os' := ⟨_, rfl⟩
  obtain ⟨M, hM⟩ : ∃ M, M = shT P' l' os' := ⟨_, rfl⟩
  obtain ⟨F, hF⟩ : ∃ F, F = shE P' l' os' := ⟨_, rfl⟩
  rw [← hR] at c1 ht
  rw [← hM, ← hF] at c2 hu
  clear hR hM hF
  unfold bodyOf Try.f12
  dsimp only [sfx]
  rcases first_spec h with ⟨h1, h2⟩ | ⟨h1, h2, h3⟩
  · rw [← hr] at h1
    rw [if_pos h1] at he
    subst h1 he
    by_cases hR0 : R = []
    · rw [if_pos hR0] at c1
      repeat' (first
 | refine W.seq ?_
 | refine W.block ?_
 | (refine W.region tys_ok [] ?_; conv => whnf)
 | (refine W.drawAll tys_ok [] mixed rfl ?_; conv => whnf)
 | (refine W.ret ?_; conv => whnf)
 | (refine W.skip ?_; conv => whnf)
 | (refine W.exit ?_; conv => whnf)
 | (refine call_at (al := true) (c1) rfl rfl rfl rfl ?_; conv => whnf)
 | (refine call_at (al := true) (c2) rfl rfl rfl rfl ?_; conv => whnf)
 | (refine call_at (al := false) (lives_at) rfl rfl rfl rfl ?_; conv => whnf)
 | (refine W.cond rfl (fun hb => ?_) (fun hb => ?_) <;> (try simp only [Int.reduceToNat, Int.reduceTDiv, Int.reduceTMod, minL, maxL, pickB, zHB, zSH] at hb) <;> (try (first | (cases hb; done) | exact absurd hb (by decide) | (exfalso; omega) | (omega))))
 | ((with_reducible refine And.intro ?_ ?_); (focus ((repeat' (first | (with_reducible rfl) | (with_reducible refine And.intro ?_ ?_) | omega | rfl | exact Or.inl rfl | exact Or.inr rfl | exact of_decide_eq_true rfl | exact Path.imp_of (of_decide_eq_true rfl) | (focus ((try simp only [Int.reduceToNat, Int.reduceTDiv, Int.reduceTMod, minL, maxL, pickB, zHB, zSH, InK, Path.imp, zL] at *); omega)) | (refine app_le rfl ?_; omega))); done)); (conv => whnf))
 | ((with_reducible refine And.intro (Side.out ?_) ?_); rotate_left; (conv => whnf))
 | ((first | refine retF1 ?_ | refine retF2 ?_) <;> (conv => whnf) <;> repeat' (first
 | exact trivial
 | (with_reducible rfl)
 | ((with_reducible refine And.intro ?_ ?_) <;> conv => whnf)
 | omega
 | rfl
 | (refine congrArg (SV.arr _) ?_)
 | (refine congrArg (Value.int _) ?_)
 | (refine congrArg Value.bool ?_)))); all_goals (try unfold Side)
      all_goals try (repeat' (first | (with_reducible rfl) | (with_reducible refine And.intro ?_ ?_) | omega | rfl | exact Or.inl rfl | exact Or.inr rfl | exact of_decide_eq_true rfl | exact Path.imp_of (of_decide_eq_true rfl) | (focus ((try simp only [Int.reduceToNat, Int.reduceTDiv, Int.reduceTMod, minL, maxL, pickB, zHB, zSH, InK, Path.imp, zL] at *); omega)) | (refine app_le rfl ?_; omega)))
      all_goals try refine subF.ok ?_ <;> (conv => whnf) <;> repeat' (first
 | exact trivial
 | (with_reducible rfl)
 | ((with_reducible refine And.intro ?_ ?_) <;> conv => whnf)
 | omega
 | rfl
 | (refine congrArg (SV.arr _) ?_)
 | (refine congrArg (Value.int _) ?_)
 | (refine congrArg Value.bool ?_))
    · rw [if_neg hR0] at c1
      repeat' (first
 | refine W.seq ?_
 | refine W.block ?_
 | (refine W.region tys_ok [] ?_; conv => whnf)
 | (refine W.drawAll tys_ok [] mixed rfl ?_; conv => whnf)
 | (refine W.ret ?_; conv => whnf)
 | (refine W.skip ?_; conv => whnf)
 | (refine W.exit ?_; conv => whnf)
 | (refine call_at (al := true) (c1) rfl rfl rfl rfl ?_; conv => whnf)
 | (refine call_at (al := true) (c2) rfl rfl rfl rfl ?_; conv => whnf)
 | (refine call_at (al := false) (lives_at) rfl rfl rfl rfl ?_; conv => whnf)
 | (refine W.cond rfl (fun hb => ?_) (fun hb => ?_) <;> (try simp only [Int.reduceToNat, Int.reduceTDiv, Int.reduceTMod, minL, maxL, pickB, zHB, zSH] at hb) <;> (try (first | (cases hb; done) | exact absurd hb (by decide) | (exfalso; omega) | (omega))))
 | ((with_reducible refine And.intro ?_ ?_); (focus ((repeat' (first | (with_reducible rfl) | (with_reducible refine And.intro ?_ ?_) | omega | rfl | exact Or.inl rfl | exact Or.inr rfl | exact of_decide_eq_true rfl | exact Path.imp_of (of_decide_eq_true rfl) | (focus ((try simp only [Int.reduceToNat, Int.reduceTDiv, Int.reduceTMod, minL, maxL, pickB, zHB, zSH, InK, Path.imp, zL] at *); omega)) | (refine app_le rfl ?_; omega))); done)); (conv => whnf))
 | ((with_reducible refine And.intro (Side.out ?_) ?_); rotate_left; (conv => whnf))
 | ((first | refine retF1 ?_ | refine retF2 ?_) <;> (conv => whnf) <;> repeat' (first
 | exact trivial
 | (with_reducible rfl)
 | ((with_reducible refine And.intro ?_ ?_) <;> conv => whnf)
 | omega
 | rfl
 | (refine congrArg (SV.arr _) ?_)
 | (refine congrArg (Value.int _) ?_)
 | (refine congrArg Value.bool ?_)))); all_goals (try unfold Side)
      all_goals try (repeat' (first | (with_reducible rfl) | (with_reducible refine And.intro ?_ ?_) | omega | rfl | exact Or.inl rfl | exact Or.inr rfl | exact of_decide_eq_true rfl | exact Path.imp_of (of_decide_eq_true rfl) | (focus ((try simp only [Int.reduceToNat, Int.reduceTDiv, Int.reduceTMod, minL, maxL, pickB, zHB, zSH, InK, Path.imp, zL] at *); omega)) | (refine app_le rfl ?_; omega)))
      all_goals try refine subF.ok ?_ <;> (conv => whnf) <;> repeat' (first
 | exact trivial
 | (with_reducible rfl)
 | ((with_reducible refine And.intro ?_ ?_) <;> conv => whnf)
 | omega
 | rfl
 | (refine congrArg (SV.arr _) ?_)
 | (refine congrArg (Value.int _) ?_)
 | (refine congrArg Value.bool ?_))
  · rw [← hr] at h1 h2 h3
    rw [if_neg h1] at he
    subst he
    rcases sh_spec h with ⟨g1, g2, g3⟩ | ⟨g1, g2, g3, g4, g5⟩
    · exact absurd h2 (g3 _)
    rw [← hE] at g3 g4 g5
    obtain ⟨f1, f2⟩ := hfit _ h2
    obtain ⟨f3, f4⟩ := hfit _ g2
    rcases ht with ⟨t1, t2⟩ | ⟨t1, t2, t3⟩
    · exact absurd f1 (t2 _)
    rcases hu with ⟨u1, u2, u3⟩ | ⟨u1, u2, u3, u4, u5⟩
    · exact absurd f1 (u3 _)
    rw [if_neg t1] at c1
    rw [if_neg u1] at c2
    have hFE := (u5 _ f3).1
    rw [f4, g3] at hFE
    have hf := Fits_ok h' (s := r) (by rw [f1.len])
    rw [fitB_yes f1] at hf
    have hlR : @List.length (Ty.int .i64).T R = l.length := by have := t2.len; rw [hlen] at this; exact this
    have hlr : @List.length (Ty.int .i64).T r = l.length := h2.len
    repeat' (first
 | refine W.seq ?_
 | refine W.block ?_
 | (refine W.resub (x := Code.region 16 _ _) (Γ' := ⟨[(6, .st true (.arr (.int .i64) (r : List Int))), (7, .lit (.int .i64 (0))), (9, .lit (.int .i64 (E))), (11, .st true (.sadr (.agg [I64 P', .arr JT l', .arr OT os']))), (13, .st true (.arr (.int .i64) (R : List Int))), (14, .lit (.int .i64 (0))), (16, .lit (.int .i64 (F)))], []⟩) ?_ (W.region tys_ok [] ?_); rotate_left; (conv => whnf))
 | (refine W.region tys_ok [] ?_; conv => whnf)
 | (refine W.drawAll tys_ok [] mixed rfl ?_; conv => whnf)
 | (refine W.ret ?_; conv => whnf)
 | (refine W.skip ?_; conv => whnf)
 | (refine W.exit ?_; conv => whnf)
 | (refine call_at (al := true) (c1) rfl rfl rfl rfl ?_; conv => whnf)
 | (refine call_at (al := true) (c2) rfl rfl rfl rfl ?_; conv => whnf)
 | (refine call_at (al := false) (hf) rfl rfl rfl rfl ?_; conv => whnf)
 | (refine call_at (al := false) (lives_at) rfl rfl rfl rfl ?_; conv => whnf)
 | (refine W.cond rfl (fun hb => ?_) (fun hb => ?_) <;> (try simp only [Int.reduceToNat, Int.reduceTDiv, Int.reduceTMod, minL, maxL, pickB, zHB, zSH] at hb) <;> (try (first | (cases hb; done) | exact absurd hb (by decide) | (exfalso; omega) | (omega))))
 | ((with_reducible refine And.intro ?_ ?_); (focus ((repeat' (first | (with_reducible rfl) | (with_reducible refine And.intro ?_ ?_) | omega | rfl | exact Or.inl rfl | exact Or.inr rfl | exact of_decide_eq_true rfl | exact Path.imp_of (of_decide_eq_true rfl) | (focus ((try simp only [Int.reduceToNat, Int.reduceTDiv, Int.reduceTMod, minL, maxL, pickB, zHB, zSH, InK, Path.imp, zL] at *); omega)) | (refine app_le rfl ?_; omega))); done)); (conv => whnf))
 | ((with_reducible refine And.intro (Side.out ?_) ?_); rotate_left; (conv => whnf))
 | ((first | refine retF1 ?_ | refine retF2 ?_) <;> (conv => whnf) <;> repeat' (first
 | exact trivial
 | (with_reducible rfl)
 | ((with_reducible refine And.intro ?_ ?_) <;> conv => whnf)
 | omega
 | rfl
 | (refine congrArg (SV.arr _) ?_)
 | (refine congrArg (Value.int _) ?_)
 | (refine congrArg Value.bool ?_)))); all_goals (try unfold Side)
    all_goals try (repeat' (first | (with_reducible rfl) | (with_reducible refine And.intro ?_ ?_) | omega | rfl | exact Or.inl rfl | exact Or.inr rfl | exact of_decide_eq_true rfl | exact Path.imp_of (of_decide_eq_true rfl) | (focus ((try simp only [Int.reduceToNat, Int.reduceTDiv, Int.reduceTMod, minL, maxL, pickB, zHB, zSH, InK, Path.imp, zL] at *); omega)) | (refine app_le rfl ?_; omega)))
    all_goals try refine subF.ok ?_ <;> (conv => whnf) <;> repeat' (first
 | exact trivial
 | (with_reducible rfl)
 | ((with_reducible refine And.intro ?_ ?_) <;> conv => whnf)
 | omega
 | rfl
 | (refine congrArg (SV.arr _) ?_)
 | (refine congrArg (Value.int _) ?_)
 | (refine congrArg Value.bool ?_))
set_option maxHeartbeats 16000000 in
theorem ShaftMore_at {p y0 y1 y2 : Int} {x : List Jb} {y : List Od} (hp : 0 ≤ p ∧ p ≤ 255) (hx : sm4 x) (hy : sm2 y) (h0 : 0 ≤ y0 ∧ y0 ≤ 255) (h1 : 0 ≤ y1 ∧ y1 ≤ 255) (h2 : 0 ≤ y2 ∧ y2 ≤ 255) : FnAt Try.prog false 12 [.agg [.lit (.int .u8 p), .arr U4 x, .arr U2 y], .agg [.lit (.int .u8 y0), .lit (.int .u8 y1), .lit (.int .u8 y2)]] (.lit (.bool true)) [] := by
  obtain ⟨P, hP⟩ : ∃ P, P = p % 6 + 1 := ⟨_, rfl⟩
  obtain ⟨l, hl⟩ : ∃ l, l = mkJs x := ⟨_, rfl⟩
  obtain ⟨os, hos⟩ : ∃ os, os = mkOs l.length y := ⟨_, rfl⟩
  obtain ⟨h, hP6, hmk⟩ := made_eq hp hx hy hP hl hos
  clear hP hl hos
  have c1 := First_at h
  have c2 := Short_at h
  have hlj : @List.length JT.T l = l.length := rfl
  have hlo : @List.length OT.T os = os.length := rfl
  have hl6 := h.ln
  have ho20 := h.lo
  have hbd := bd_of h
  obtain ⟨r, hr⟩ : ∃ r, r = firstT P l os := ⟨_, rfl⟩
  obtain ⟨m, hm⟩ : ∃ m, m = shT P l os := ⟨_, rfl⟩
  obtain ⟨E, hE⟩ : ∃ E, E = shE P l os := ⟨_, rfl⟩
  rw [← hr] at c1
  rw [← hm, ← hE] at c2
  obtain ⟨e, he⟩ : ∃ e : Int, e = if r = [] then 5 else 0 := ⟨_, rfl⟩
  rw [← he] at c1
  obtain ⟨e2, he2⟩ : ∃ e : Int, e = if m = [] then 5 else 0 := ⟨_, rfl⟩
  rw [← he2] at c2
  obtain ⟨P', hP'⟩ : ∃ P', P' = min 20 (P + y0 % 3) := ⟨_, rfl⟩
  obtain ⟨j, hj⟩ : ∃ j : Nat, (j : Int) = y1 % l.length := ⟨(y1 % l.length).toNat, by have := Int.emod_nonneg y1 (b := (l.length : Int)) (by omega); omega⟩
  have hjl : j < l.length := by have := Int.emod_lt_of_pos y1 (b := (l.length : Int)) (by omega); omega
  have ePt : min 20 (P + Int.tmod y0 3) = P' := by rw [tm h0.1, hP']
  have ejt : Int.tmod y1 l.length = j := by rw [tm h1.1, hj]
  have t0 : Int.tmod y0 3 = y0 % 3 := tm h0.1 _
  have t2 : Int.tmod y2 2 = y2 % 2 := tm h2.1 _
  have t3 : Int.tdiv y2 2 = y2 / 2 := Int.tdiv_eq_ediv_of_nonneg h2.1
  have t4 : Int.tmod (Int.tdiv y2 2) 3 = y2 / 2 % 3 := by rw [t3]; exact tm (by omega) _
  obtain ⟨a, ha⟩ : ∃ a, a = y2 % 2 := ⟨_, rfl⟩
  obtain ⟨b, hb⟩ : ∃ b, b = y2 / 2 % 3 := ⟨_, rfl⟩
  have hrj := hbd.rg j hjl
  obtain ⟨l8, hl8⟩ : ∃ l8, l8 = l.set j (max 0 ((l.getD j J0).1 - a), (l.getD j J0).2) := ⟨_, rfl⟩
  have l8l : @List.length JT.T l8 = l.length := by rw [hl8]; exact List.length_set
  have l8g : l8.getD j J0 = (max 0 ((l.getD j J0).1 - a), (l.getD j J0).2) := by rw [hl8, set_get hjl, if_pos rfl]
  have e8 : l.set (j : Int).toNat (max 0 ((l.getD (j : Int).toNat J0).1 - Int.tmod y2 2), (l.getD (j : Int).toNat J0).2) = l8 := by
    rw [hl8, Int.toNat_natCast, t2, ha]
  have e8' : l.set (Int.tmod y1 l.length).toNat (max 0 ((l.getD (Int.tmod y1 l.length).toNat J0).1 - Int.tmod y2 2), (l.getD (Int.tmod y1 l.length).toNat J0).2) = l8 := by
    rw [ejt]; exact e8
  have hj0 : 0 ≤ Int.tmod y1 l.length ∧ Int.tmod y1 l.length < l.length := by rw [ejt]; omega
  have hjt := hbd.rg (Int.tmod y1 l.length).toNat (by omega)
  have e9 : l8.set (j : Int).toNat ((l8.getD (j : Int).toNat J0).1, min 24 ((l8.getD (j : Int).toNat J0).2.1 + Int.tmod (Int.tdiv y2 2) 3), (l8.getD (j : Int).toNat J0).2.2) = moJ l j a b := by
    rw [Int.toNat_natCast, l8g, t4, hl8, List.set_set, hb]; rfl
  have l9l : @List.length JT.T (moJ l j a b) = l.length := moJ_len
  have hk1 : InK .i64 y0 := by simp only [InK]; omega
  have hk2 : InK .i64 y1 := by simp only [InK]; omega
  have hk3 : InK .i64 y2 := by simp only [InK]; omega
  have l8j : 0 ≤ (l8.getD (j : Int).toNat J0).2.1 ∧ (l8.getD (j : Int).toNat J0).2.1 ≤ 100 := by
    rw [Int.toNat_natCast, l8g]; exact hrj.2.1
  have t40 : 0 ≤ Int.tmod (Int.tdiv y2 2) 3 ∧ Int.tmod (Int.tdiv y2 2) 3 ≤ 2 := by rw [t4]; omega
  have t20 : 0 ≤ Int.tmod y2 2 ∧ Int.tmod y2 2 ≤ 1 := by rw [t2]; omega
  have t00 : 0 ≤ Int.tmod y0 3 ∧ Int.tmod y0 3 ≤ 2 := by rw [t0]; omega
  unfold jf jt jl jp at hrj hjt
  have ed : List.drop (Int.toNat 1) (List.take ((os.length : Nat) : Int).toNat os) = List.drop 1 os := by rw [Int.toNat_natCast, List.take_length]; rfl
  have ed2 : 0 + (List.drop (Int.toNat 1) (List.take ((os.length : Nat) : Int).toNat os)).length ≤ 4294967296 := by rw [ed, List.length_drop]; omega
  have fin : ∀ os' : List Od, os'.length ≤ os.length → (∀ o ∈ os', o ∈ os) → W Try.prog 161 (sfx 11 (bodyOf Try.f12)) ⟨[(6, .st true (.narr (.int .i64) (r : List Int))), (7, .lit (.int .i64 e)), (9, .lit (.int .i64 E)), (11, .st true (.sadr (.agg [I64 P', .arr JT (moJ l j a b), .arr OT os'])))], []⟩ (bodyQ tys [.tmp 4] (.lit (.bool true)) []) := fun os' q1 q2 =>
    more2_at h (mo_vs h (by omega) hjl (by omega) (by omega) q1 q2) moJ_len (fun s hs => mo_fit h (by omega) hjl (by omega) (by omega) q2 hs) hr he hE
  by_cases hc : 0 < os.length ∧ 128 ≤ y2
  · have fin := fin (os.drop 1) (by rw [List.length_drop]; omega) (fun o ho => List.mem_of_mem_drop ho)
    refine FnAt.of_body tys_ok Try.func12 (by rfl) rfl Try.ntmps12 (by rw [Try.results12]) (by simp) ?_
  
    repeat' (first
 | refine W.resub (x := Code.seq (Code.region 12 _ _) _) ?_ (fin)
 | refine W.seq ?_
 | refine W.block ?_
 | (refine W.resub (x := Code.region 2 _ _) (Γ' := ⟨[(3, .st false (.sadr (.agg [.lit (.int .u8 y0), .lit (.int .u8 y1), .lit (.int .u8 y2)]))), (5, .st true (.sadr (.agg [I64 P, .arr JT l, .arr OT os])))], []⟩) ?_ (W.region tys_ok [] ?_); rotate_left; (conv => whnf))
 | (refine W.resub (x := Code.region 7 _ _) (Γ' := ⟨[(3, .st false (.sadr (.agg [.lit (.int .u8 y0), .lit (.int .u8 y1), .lit (.int .u8 y2)]))), (5, .st true (.sadr (.agg [I64 P, .arr JT l, .arr OT os]))), (6, .st true (.narr (.int .i64) (r : List Int))), (7, .lit (.int .i64 (e))), (9, .lit (.int .i64 (E))), (11, .padr 12000 0)], [(12000, .box [.lit (.int .i64 P'), .own 38000, .st true (.arr OT os)]), (38000, .row 45 JT true l)]⟩) ?_ (W.region tys_ok [] ?_); rotate_left; (conv => whnf))
 | (refine W.drawPhTo (id := 8) tys_ok [] mixed [0, 1, 0, 0, 8, 0, 48, 64, 128, 0, 512, 1024, 2048, 4352, 8192, 32767, 65535, 98303] [([0, 2, 3, 5, 9, 10, 11, 12], 7, 32767), ([], 1, 65535), ([], 1, 131071), ([], 1, 262143)] ⟨[(3, .st false (.sadr (.agg [.lit (.int .u8 y0), .lit (.int .u8 y1), .lit (.int .u8 y2)]))), (5, .st true (.sadr (.agg [I64 P, .arr JT l, .arr OT os]))), (6, .st true (.narr (.int .i64) (r : List Int))), (7, .lit (.int .i64 (e))), (9, .lit (.int .i64 (E))), (11, .padr 12000 0), (12, .lit (.int .i64 (j)))], [(12000, .box [.lit (.int .i64 P'), .own 38000, .st true (.arr OT os)]), (38000, .row 45 JT true l8)]⟩ (by decide +kernel) ?_ ?_ <;> (conv => whnf))
 | (refine W.drawPhTo (id := 9) tys_ok [] mixed [0, 1, 0, 0, 8, 0, 48, 64, 128, 0, 512, 1024, 2048, 4096, 8448, 16384, 65535, 131071, 196607] [([0, 2, 3, 5, 9, 10, 11, 12, 13], 7, 65535), ([], 1, 131071), ([], 1, 262143), ([], 1, 524287)] ⟨[(3, .st false (.sadr (.agg [.lit (.int .u8 y0), .lit (.int .u8 y1), .lit (.int .u8 y2)]))), (5, .st true (.sadr (.agg [I64 P, .arr JT l, .arr OT os]))), (6, .st true (.narr (.int .i64) (r : List Int))), (7, .lit (.int .i64 (e))), (9, .lit (.int .i64 (E))), (11, .padr 12000 0), (12, .lit (.int .i64 (j)))], [(12000, .box [.lit (.int .i64 P'), .own 38000, .st true (.arr OT os)]), (38000, .row 45 JT true (moJ l j a b))]⟩ (by decide +kernel) ?_ ?_ <;> (conv => whnf))
 | (refine W.region tys_ok [] ?_; conv => whnf)
 | (refine W.drawAll tys_ok [] mixed rfl ?_; conv => whnf)
 | (refine W.ret ?_; conv => whnf)
 | (refine W.skip ?_; conv => whnf)
 | (refine W.exit ?_; conv => whnf)
 | (refine call_at (al := false) (hmk) rfl rfl rfl rfl ?_; conv => whnf)
 | (refine call_at (al := true) (c1) rfl rfl rfl rfl ?_; conv => whnf)
 | (refine call_at (al := true) (c2) rfl rfl rfl rfl ?_; conv => whnf)
 | (refine Both.mk ?_ ?_ <;> (conv => whnf))
 | (refine W.cond rfl (fun hb => ?_) (fun hb => ?_) <;> (try simp only [Int.reduceToNat, Int.reduceTDiv, Int.reduceTMod, minL, maxL, pickB, zHB, zSH] at hb) <;> (try (first | (cases hb; done) | exact absurd hb (by decide) | (exfalso; omega) | (omega))))
 | ((with_reducible refine And.intro ?_ ?_); (focus ((repeat' (first | (with_reducible rfl) | (with_reducible refine And.intro ?_ ?_) | omega | rfl | exact Or.inl rfl | exact Or.inr rfl | exact of_decide_eq_true rfl | exact Path.imp_of (of_decide_eq_true rfl) | (focus ((try simp only [Int.reduceToNat, Int.reduceTDiv, Int.reduceTMod, minL, maxL, pickB, zHB, zSH, InK, Path.imp, zL] at *); omega)) | (refine app_le rfl ?_; omega))); done)); (conv => whnf))
 | ((with_reducible refine And.intro (Side.out ?_) ?_); rotate_left; (conv => whnf))
 | ((first | refine retF1 ?_ | refine retF2 ?_ | refine subF.leaf ?_ | refine subF.side ?_) <;> (conv => whnf) <;> repeat' (first
 | exact trivial
 | (with_reducible rfl)
 | ((with_reducible refine And.intro ?_ ?_) <;> conv => whnf)
 | omega
 | rfl
 | (refine congrArg (SV.arr _) ?_)
 | (refine congrArg (Value.int _) ?_)
 | (refine congrArg Value.bool ?_)))); all_goals (try unfold Side)
    all_goals try (repeat' (first | (with_reducible rfl) | (with_reducible refine And.intro ?_ ?_) | omega | rfl | exact Or.inl rfl | exact Or.inr rfl | exact of_decide_eq_true rfl | exact Path.imp_of (of_decide_eq_true rfl) | (focus ((try simp only [Int.reduceToNat, Int.reduceTDiv, Int.reduceTMod, minL, maxL, pickB, zHB, zSH, InK, Path.imp, zL] at *); omega)) | (refine app_le rfl ?_; omega)))
    all_goals try (first | exact Path.imp_of hk1 | exact Path.imp_of hk2 | exact Path.imp_of hk3)
    all_goals try refine subF.ok ?_ <;> (conv => whnf) <;> repeat' (first
 | exact trivial
 | (with_reducible rfl)
 | ((with_reducible refine And.intro ?_ ?_) <;> conv => whnf)
 | omega
 | rfl
 | (refine congrArg (SV.arr _) ?_)
 | (refine congrArg (Value.int _) ?_)
 | (refine congrArg Value.bool ?_))
    all_goals try (first | exact e8' | exact e9 | exact ed | exact ed2 | exact ePt | exact ejt | rfl)
  · have fin := fin os (Nat.le_refl _) (fun o ho => ho)
    refine FnAt.of_body tys_ok Try.func12 (by rfl) rfl Try.ntmps12 (by rw [Try.results12]) (by simp) ?_
  
    repeat' (first
 | refine W.resub (x := Code.seq (Code.region 12 _ _) _) ?_ (fin)
 | refine W.seq ?_
 | refine W.block ?_
 | (refine W.resub (x := Code.region 2 _ _) (Γ' := ⟨[(3, .st false (.sadr (.agg [.lit (.int .u8 y0), .lit (.int .u8 y1), .lit (.int .u8 y2)]))), (5, .st true (.sadr (.agg [I64 P, .arr JT l, .arr OT os])))], []⟩) ?_ (W.region tys_ok [] ?_); rotate_left; (conv => whnf))
 | (refine W.resub (x := Code.region 7 _ _) (Γ' := ⟨[(3, .st false (.sadr (.agg [.lit (.int .u8 y0), .lit (.int .u8 y1), .lit (.int .u8 y2)]))), (5, .st true (.sadr (.agg [I64 P, .arr JT l, .arr OT os]))), (6, .st true (.narr (.int .i64) (r : List Int))), (7, .lit (.int .i64 (e))), (9, .lit (.int .i64 (E))), (11, .padr 12000 0)], [(12000, .box [.lit (.int .i64 P'), .own 38000, .st true (.arr OT os)]), (38000, .row 45 JT true l)]⟩) ?_ (W.region tys_ok [] ?_); rotate_left; (conv => whnf))
 | (refine W.drawPhTo (id := 8) tys_ok [] mixed [0, 1, 0, 0, 8, 0, 48, 64, 128, 0, 512, 1024, 2048, 4352, 8192, 32767, 65535, 98303] [([0, 2, 3, 5, 9, 10, 11, 12], 7, 32767), ([], 1, 65535), ([], 1, 131071), ([], 1, 262143)] ⟨[(3, .st false (.sadr (.agg [.lit (.int .u8 y0), .lit (.int .u8 y1), .lit (.int .u8 y2)]))), (5, .st true (.sadr (.agg [I64 P, .arr JT l, .arr OT os]))), (6, .st true (.narr (.int .i64) (r : List Int))), (7, .lit (.int .i64 (e))), (9, .lit (.int .i64 (E))), (11, .padr 12000 0), (12, .lit (.int .i64 (j)))], [(12000, .box [.lit (.int .i64 P'), .own 38000, .st true (.arr OT os)]), (38000, .row 45 JT true l8)]⟩ (by decide +kernel) ?_ ?_ <;> (conv => whnf))
 | (refine W.drawPhTo (id := 9) tys_ok [] mixed [0, 1, 0, 0, 8, 0, 48, 64, 128, 0, 512, 1024, 2048, 4096, 8448, 16384, 65535, 131071, 196607] [([0, 2, 3, 5, 9, 10, 11, 12, 13], 7, 65535), ([], 1, 131071), ([], 1, 262143), ([], 1, 524287)] ⟨[(3, .st false (.sadr (.agg [.lit (.int .u8 y0), .lit (.int .u8 y1), .lit (.int .u8 y2)]))), (5, .st true (.sadr (.agg [I64 P, .arr JT l, .arr OT os]))), (6, .st true (.narr (.int .i64) (r : List Int))), (7, .lit (.int .i64 (e))), (9, .lit (.int .i64 (E))), (11, .padr 12000 0), (12, .lit (.int .i64 (j)))], [(12000, .box [.lit (.int .i64 P'), .own 38000, .st true (.arr OT os)]), (38000, .row 45 JT true (moJ l j a b))]⟩ (by decide +kernel) ?_ ?_ <;> (conv => whnf))
 | (refine W.region tys_ok [] ?_; conv => whnf)
 | (refine W.drawAll tys_ok [] mixed rfl ?_; conv => whnf)
 | (refine W.ret ?_; conv => whnf)
 | (refine W.skip ?_; conv => whnf)
 | (refine W.exit ?_; conv => whnf)
 | (refine call_at (al := false) (hmk) rfl rfl rfl rfl ?_; conv => whnf)
 | (refine call_at (al := true) (c1) rfl rfl rfl rfl ?_; conv => whnf)
 | (refine call_at (al := true) (c2) rfl rfl rfl rfl ?_; conv => whnf)
 | (refine Both.mk ?_ ?_ <;> (conv => whnf))
 | (refine W.cond rfl (fun hb => ?_) (fun hb => ?_) <;> (try simp only [Int.reduceToNat, Int.reduceTDiv, Int.reduceTMod, minL, maxL, pickB, zHB, zSH] at hb) <;> (try (first | (cases hb; done) | exact absurd hb (by decide) | (exfalso; omega) | (omega))))
 | ((with_reducible refine And.intro ?_ ?_); (focus ((repeat' (first | (with_reducible rfl) | (with_reducible refine And.intro ?_ ?_) | omega | rfl | exact Or.inl rfl | exact Or.inr rfl | exact of_decide_eq_true rfl | exact Path.imp_of (of_decide_eq_true rfl) | (focus ((try simp only [Int.reduceToNat, Int.reduceTDiv, Int.reduceTMod, minL, maxL, pickB, zHB, zSH, InK, Path.imp, zL] at *); omega)) | (refine app_le rfl ?_; omega))); done)); (conv => whnf))
 | ((with_reducible refine And.intro (Side.out ?_) ?_); rotate_left; (conv => whnf))
 | ((first | refine retF1 ?_ | refine retF2 ?_ | refine subF.leaf ?_ | refine subF.side ?_) <;> (conv => whnf) <;> repeat' (first
 | exact trivial
 | (with_reducible rfl)
 | ((with_reducible refine And.intro ?_ ?_) <;> conv => whnf)
 | omega
 | rfl
 | (refine congrArg (SV.arr _) ?_)
 | (refine congrArg (Value.int _) ?_)
 | (refine congrArg Value.bool ?_)))); all_goals (try unfold Side)
    all_goals try (repeat' (first | (with_reducible rfl) | (with_reducible refine And.intro ?_ ?_) | omega | rfl | exact Or.inl rfl | exact Or.inr rfl | exact of_decide_eq_true rfl | exact Path.imp_of (of_decide_eq_true rfl) | (focus ((try simp only [Int.reduceToNat, Int.reduceTDiv, Int.reduceTMod, minL, maxL, pickB, zHB, zSH, InK, Path.imp, zL] at *); omega)) | (refine app_le rfl ?_; omega)))
    all_goals try (first | exact Path.imp_of hk1 | exact Path.imp_of hk2 | exact Path.imp_of hk3)
    all_goals try refine subF.ok ?_ <;> (conv => whnf) <;> repeat' (first
 | exact trivial
 | (with_reducible rfl)
 | ((with_reducible refine And.intro ?_ ?_) <;> conv => whnf)
 | omega
 | rfl
 | (refine congrArg (SV.arr _) ?_)
 | (refine congrArg (Value.int _) ?_)
 | (refine congrArg Value.bool ?_))
    all_goals try (first | exact e8' | exact e9 | exact ed | exact ed2 | exact ePt | exact ejt | rfl)
end Go.Proofs.Ytmfholchenihaaa

