/- Joined of: H9 Ha13 H10 H11. No condition. -/
import Derived.Test.YtmfholchenihaaaJ6

namespace Go.Proofs.Ytmfholchenihaaa
open Go Go.Vc Go.Sh
set_option linter.unusedVariables false
set_option linter.unusedSimpArgs false
theorem ne_isEmpty {α : Type} {r : List α} (h : r ≠ []) : r.isEmpty = false := by cases r with | nil => exact absurd rfl h | cons => rfl
theorem First_none {P : Int} {l : List Jb} {os : List Od} (h : VS P l os) (hf : firstT P l os = []) : FnAt Try.prog true 19 [.agg [I64 P, .arr JT l, .arr OT os]] (.tup [.st true (.narr (.int .i64) ([] : List Int)), .lit (.int .i64 5)]) [] := by
  have hv := valid_at (P := P) (l := l) (os := os) (by have := h.ln; omega) (by have := h.lo; omega)
  rw [validB_yes h] at hv
  have hr := first_at h
  rw [hf] at hr
  refine FnAt.of_body tys_ok Try.func19 (by rfl) rfl Try.ntmps19 (by rw [Try.results19]) (by simp) ?_
  
  repeat' (first
 | refine W.seq ?_
 | refine W.block ?_
 | (refine W.region tys_ok [] ?_; conv => whnf)
 | (refine W.drawAll tys_ok [] mixed rfl ?_; conv => whnf)
 | (refine W.ret ?_; conv => whnf)
 | (refine W.skip ?_; conv => whnf)
 | (refine W.exit ?_; conv => whnf)
 | (refine call_at (al := false) (hv) rfl rfl rfl rfl ?_; conv => whnf)
 | (refine call_at (al := true) (hr) rfl rfl rfl rfl ?_; conv => whnf)
 | (refine W.cond rfl (fun hb => ?_) (fun hb => ?_) <;> (try simp only [Int.reduceToNat, Int.reduceTDiv, Int.reduceTMod, minL, maxL, pickB, zHB, zSH] at hb) <;> (try (first | (cases hb; done) | exact absurd hb (by decide) | (exfalso; omega))))
 | ((with_reducible refine And.intro ?_ ?_); (focus (first | (with_reducible rfl) | omega | rfl | ((try simp only [Int.reduceToNat, Int.reduceTDiv, Int.reduceTMod, minL, maxL, pickB, zHB, zSH, InK, Path.imp, zL] at *); omega))); (conv => whnf))
 | ((with_reducible refine And.intro (Side.out ?_) ?_); rotate_left; (conv => whnf))
 | ((first | refine retF1 ?_ | refine retF2 ?_) <;> (conv => whnf) <;> repeat' (first
 | exact trivial
 | (with_reducible rfl)
 | ((with_reducible refine And.intro ?_ ?_) <;> conv => whnf)
 | omega
 | rfl
 | (refine congrArg (SV.arr _) ?_)
 | (refine congrArg (Value.int _) ?_)
 | (refine congrArg Value.bool ?_)))); all_goals (try unfold Side)
  all_goals try (repeat' (first | (with_reducible rfl) | (with_reducible refine And.intro ?_ ?_) | omega | rfl | exact Or.inl rfl | exact Or.inr rfl | exact of_decide_eq_true rfl | exact Path.imp_of (of_decide_eq_true rfl) | (focus ((try simp only [Int.reduceToNat, Int.reduceTDiv, Int.reduceTMod, minL, maxL, pickB, zHB, zSH, InK, Path.imp, zL] at *); omega)) | (refine app_le rfl ?_; omega)))
theorem First_ok {P : Int} {l : List Jb} {os : List Od} (h : VS P l os) {r : List Int} (hf : firstT P l os = r) (hn : r ≠ []) : FnAt Try.prog true 19 [.agg [I64 P, .arr JT l, .arr OT os]] (.tup [.st true (.narr (.int .i64) r), .lit (.int .i64 0)]) [] := by
  have hv := valid_at (P := P) (l := l) (os := os) (by have := h.ln; omega) (by have := h.lo; omega)
  rw [validB_yes h] at hv
  have hr := first_at h
  rw [hf] at hr
  have he := ne_isEmpty hn
  refine FnAt.of_body tys_ok Try.func19 (by rfl) rfl Try.ntmps19 (by rw [Try.results19]) (by simp) ?_
  
  repeat' (first
 | refine W.seq ?_
 | refine W.block ?_
 | (refine W.region tys_ok [] ?_; conv => whnf)
 | (refine W.drawAll tys_ok [] mixed rfl ?_; conv => whnf)
 | (refine W.ret ?_; conv => whnf)
 | (refine W.skip ?_; conv => whnf)
 | (refine W.exit ?_; conv => whnf)
 | (refine call_at (al := false) (hv) rfl rfl rfl rfl ?_; conv => whnf)
 | (refine call_at (al := true) (hr) rfl rfl rfl rfl ?_; conv => whnf)
 | (refine W.cond rfl (fun hb => ?_) (fun hb => ?_) <;> (try simp only [Int.reduceToNat, Int.reduceTDiv, Int.reduceTMod, minL, maxL, pickB, zHB, zSH] at hb) <;> (try (first | (cases hb; done) | exact absurd hb (by decide) | (exfalso; omega) | (exact Bool.noConfusion (hb.symm.trans he)))))
 | ((with_reducible refine And.intro ?_ ?_); (focus (first | (with_reducible rfl) | omega | rfl | ((try simp only [Int.reduceToNat, Int.reduceTDiv, Int.reduceTMod, minL, maxL, pickB, zHB, zSH, InK, Path.imp, zL] at *); omega))); (conv => whnf))
 | ((with_reducible refine And.intro (Side.out ?_) ?_); rotate_left; (conv => whnf))
 | ((first | refine retF1 ?_ | refine retF2 ?_) <;> (conv => whnf) <;> repeat' (first
 | exact trivial
 | (with_reducible rfl)
 | ((with_reducible refine And.intro ?_ ?_) <;> conv => whnf)
 | omega
 | rfl
 | (refine congrArg (SV.arr _) ?_)
 | (refine congrArg (Value.int _) ?_)
 | (refine congrArg Value.bool ?_)))); all_goals (try unfold Side)
  all_goals try (repeat' (first | (with_reducible rfl) | (with_reducible refine And.intro ?_ ?_) | omega | rfl | exact Or.inl rfl | exact Or.inr rfl | exact of_decide_eq_true rfl | exact Path.imp_of (of_decide_eq_true rfl) | (focus ((try simp only [Int.reduceToNat, Int.reduceTDiv, Int.reduceTMod, minL, maxL, pickB, zHB, zSH, InK, Path.imp, zL] at *); omega)) | (refine app_le rfl ?_; omega)))
theorem firstT_cut {P : Int} {l : List Jb} {os : List Od} {e : Int} (he : okE l e) : firstT P (cutT l e) os = (atE P l os e).getD [] := by
  rw [atE_ok he]; unfold firstT; rw [cut_len]
theorem atE_ne {P : Int} {l : List Jb} {os : List Od} {e : Int} (h : VS P l os) (he : 0 ≤ e) {r : List Int} (hr : atE P l os e = some r) : r ≠ [] := fun hn => by
  have := atE_spec (P := P) (e := e) h.pre he
  rw [hr] at this
  have h1 := this.1.len
  have := h.ln
  rw [hn] at h1
  simp at h1
  omega
set_option maxHeartbeats 8000000 in
theorem Short_at {P : Int} {l : List Jb} {os : List Od} (h : VS P l os) : FnAt Try.prog true 20 [.agg [I64 P, .arr JT l, .arr OT os]]
    (.tup [.st true (.narr (.int .i64) (shT P l os : List Int)), .lit (.int .i64 (shE P l os)), .lit (.int .i64 (if shT P l os = [] then 5 else 0))]) [] := by
  have hv := valid_at (P := P) (l := l) (os := os) (by have := h.ln; omega) (by have := h.lo; omega)
  rw [validB_yes h] at hv
  have hln := h.ln
  have hcl := clone_at (l := l) hln.1 (by omega)
  have hrg := fun m (hm : m < l.length) => h.pre.rg m hm
  have hhit : ∀ k r, k < 24 → shortK P l os k = none → atE P l os ((k + 1 : Nat) : Int) = some r → r ≠ [] ∧ r.isEmpty = false ∧ shT P l os = r ∧ shE P l os = (k : Int) + 1 ∧ (if shT P l os = [] then (5 : Int) else 0) = 0 := fun k r hk h0 h1 => by
    have h2 := shortK_hit h0 h1 hk
    have h3 := atE_ne h (by omega) h1
    have h4 : shT P l os = r := by unfold shT; rw [h2]
    refine ⟨h3, ne_isEmpty h3, h4, by unfold shE; rw [h2]; rfl, by rw [h4, if_neg h3]⟩
  have hmiss : shortK P l os 24 = none → shT P l os = [] ∧ shE P l os = 0 ∧ (if shT P l os = [] then (5 : Int) else 0) = 5 := fun h0 => by
    have h4 : shT P l os = [] := by unfold shT; rw [h0]
    exact ⟨h4, by unfold shE; rw [h0], by rw [if_pos h4]⟩
  obtain ⟨R, hR⟩ : ∃ R, R = shT P l os := ⟨_, rfl⟩
  obtain ⟨E, hE⟩ : ∃ E, E = shE P l os := ⟨_, rfl⟩
  obtain ⟨X, hX⟩ : ∃ X : Int, X = if shT P l os = [] then 5 else 0 := ⟨_, rfl⟩
  rw [← hX, ← hR, ← hE] at hhit hmiss
  rw [← hX, ← hR, ← hE]
  clear hX hR hE
  have hll : @List.length JT.T l = l.length := rfl
  have hkl : ∀ (e : Int) i, @List.length JT.T (cutK l e i) = l.length := fun e i => cutK_len
  refine FnAt.of_body tys_ok Try.func20 (by rfl) rfl Try.ntmps20 (by rw [Try.results20]) (by simp) ?_
  
  repeat' (first
 | refine W.seq ?_
 | refine W.block ?_
 | (refine W.region tys_ok [] ?_; conv => whnf)
 | (refine W.drawAll tys_ok [] mixed rfl ?_; conv => whnf)
 | (refine W.ret ?_; conv => whnf)
 | (refine W.skip ?_; conv => whnf)
 | (refine W.exit ?_; conv => whnf)
 | (refine call_at (al := false) (hv) rfl rfl rfl rfl ?_; conv => whnf)
 | (refine W.cond rfl (fun hb => ?_) (fun hb => ?_) <;> (try simp only [Int.reduceToNat, Int.reduceTDiv, Int.reduceTMod, minL, maxL, pickB, zHB, zSH] at hb) <;> (try (first | (cases hb; done) | exact absurd hb (by decide) | (exfalso; omega))))
 | ((with_reducible refine And.intro ?_ ?_); (focus (first | (with_reducible rfl) | omega | rfl | ((try simp only [Int.reduceToNat, Int.reduceTDiv, Int.reduceTMod, minL, maxL, pickB, zHB, zSH, InK, Path.imp, zL] at *); omega))); (conv => whnf))
 | ((with_reducible refine And.intro (Side.out ?_) ?_); rotate_left; (conv => whnf))
 | ((first | refine retF1 ?_ | refine retF2 ?_) <;> (conv => whnf) <;> repeat' (first
 | exact trivial
 | (with_reducible rfl)
 | ((with_reducible refine And.intro ?_ ?_) <;> conv => whnf)
 | omega
 | rfl
 | (refine congrArg (SV.arr _) ?_)
 | (refine congrArg (Value.int _) ?_)
 | (refine congrArg Value.bool ?_)))); all_goals (try unfold Side)
  all_goals try (repeat' (first | (with_reducible rfl) | (with_reducible refine And.intro ?_ ?_) | omega | rfl | exact Or.inl rfl | exact Or.inr rfl | exact of_decide_eq_true rfl | exact Path.imp_of (of_decide_eq_true rfl) | (focus ((try simp only [Int.reduceToNat, Int.reduceTDiv, Int.reduceTMod, minL, maxL, pickB, zHB, zSH, InK, Path.imp, zL] at *); omega)) | (refine app_le rfl ?_; omega)))
  refine W.loop (fun k : Nat => ⟨[(1, .st true (.sadr (.agg [I64 P, .arr JT l, .arr OT os]))), (5, .lit (.int .i64 (((k : Int) + 1))))], []⟩) (fun k => k ≤ 24 ∧ shortK P l os k = none) (fun k => 24 - k) (0) ?_ ?_
  · refine ⟨⟨Nat.zero_le _, rfl⟩, ?_⟩
    refine subF.ok ?_ <;> (conv => whnf) <;> repeat' (first
 | exact trivial
 | (with_reducible rfl)
 | ((with_reducible refine And.intro ?_ ?_) <;> conv => whnf)
 | omega
 | rfl
 | (refine congrArg (SV.arr _) ?_)
 | (refine congrArg (Value.int _) ?_)
 | (refine congrArg Value.bool ?_))
  · rintro k ⟨hk, hno⟩
    by_cases hkl2 : k < 24
    · repeat' (first
 | refine W.seq ?_
 | refine W.block ?_
 | (refine W.region tys_ok [] ?_; conv => whnf)
 | (refine W.drawAll tys_ok [] mixed rfl ?_; conv => whnf)
 | (refine W.ret ?_; conv => whnf)
 | (refine W.skip ?_; conv => whnf)
 | (refine W.exit ?_; conv => whnf)
 | (refine call_at (al := false) (hcl) rfl rfl rfl rfl ?_; conv => whnf)
 | (refine W.cond rfl (fun hb => ?_) (fun hb => ?_) <;> (try simp only [Int.reduceToNat, Int.reduceTDiv, Int.reduceTMod, minL, maxL, pickB, zHB, zSH] at hb) <;> (try (first | (cases hb; done) | exact absurd hb (by decide) | (exfalso; omega))))
 | ((with_reducible refine And.intro ?_ ?_); (focus (first | (with_reducible rfl) | omega | rfl | ((try simp only [Int.reduceToNat, Int.reduceTDiv, Int.reduceTMod, minL, maxL, pickB, zHB, zSH, InK, Path.imp, zL] at *); omega))); (conv => whnf))
 | ((with_reducible refine And.intro (Side.out ?_) ?_); rotate_left; (conv => whnf))
 | ((first | refine retF1 ?_ | refine retF2 ?_) <;> (conv => whnf) <;> repeat' (first
 | exact trivial
 | (with_reducible rfl)
 | ((with_reducible refine And.intro ?_ ?_) <;> conv => whnf)
 | omega
 | rfl
 | (refine congrArg (SV.arr _) ?_)
 | (refine congrArg (Value.int _) ?_)
 | (refine congrArg Value.bool ?_)))); all_goals (try unfold Side)
      all_goals try (repeat' (first | (with_reducible rfl) | (with_reducible refine And.intro ?_ ?_) | omega | rfl | exact Or.inl rfl | exact Or.inr rfl | exact of_decide_eq_true rfl | exact Path.imp_of (of_decide_eq_true rfl) | (focus ((try simp only [Int.reduceToNat, Int.reduceTDiv, Int.reduceTMod, minL, maxL, pickB, zHB, zSH, InK, Path.imp, zL] at *); omega)) | (refine app_le rfl ?_; omega)))
      refine W.loop (fun i : Nat => ⟨[(1, .st true (.sadr (.agg [I64 P, .arr JT l, .arr OT os]))), (5, .lit (.int .i64 (((k : Int) + 1)))), (6, .padr 7000 0), (7, .lit (.bool ((okK l ((k : Int) + 1) i)))), (25, .lit (.int .i64 ((l.length : Int)))), (26, .lit (.int .i64 (i)))], [(7000, .box [.lit (.int .i64 P), .own 22000, .st true (.arr OT os)]), (22000, .row 45 JT true (cutK l ((k : Int) + 1) i))]⟩) (fun i => i ≤ l.length) (fun i => l.length - i) (0) ?_ ?_
      · refine ⟨Nat.zero_le _, ?_⟩
        refine subF.ok ?_ <;> (conv => whnf) <;> repeat' (first
 | exact trivial
 | (with_reducible rfl)
 | ((with_reducible refine And.intro ?_ ?_) <;> conv => whnf)
 | omega
 | rfl
 | (refine congrArg (SV.arr _) ?_)
 | (refine congrArg (Value.int _) ?_)
 | (refine congrArg Value.bool ?_))
        all_goals first | exact okK_zero.symm | exact cutK_zero.symm
      · intro i hi
        have hc1 := hkl ((k : Int) + 1) i
        by_cases hil : i < l.length
        · have hr := hrg i hil
          have hg := cutK_get (e := (k : Int) + 1) hil
          have hs := cutK_step (e := (k : Int) + 1) hil
          have ho := okK_step (l := l) (e := (k : Int) + 1) (i := i)
          have hS : (cutK l ((k : Int) + 1) i).set ((i : Int)).toNat (((cutK l ((k : Int) + 1) i).getD ((i : Int)).toNat J0).1, min ((cutK l ((k : Int) + 1) i).getD ((i : Int)).toNat J0).2.1 ((k : Int) + 1), ((cutK l ((k : Int) + 1) i).getD ((i : Int)).toNat J0).2.2) = cutK l ((k : Int) + 1) (i + 1) := by
            rw [Int.toNat_natCast, hg, ← hs]; rfl
          have hlt : ∀ y : Jb, ((i : Int)).toNat < ((cutK l ((k : Int) + 1) i).set ((i : Int)).toNat y).length := fun y => by
            rw [List.length_set, cutK_len]; omega
          have hgn : (cutK l ((k : Int) + 1) (i + 1)).getD i J0 = cutJ ((k : Int) + 1) (l.getD i J0) := by
            rw [← hs, List.getD_eq_getElem?_getD, List.getElem?_set]; simp [cutK_len, hil]
          have hI : ∀ S : List Jb, S = cutK l ((k : Int) + 1) (i + 1) → InK .i64 ((S.getD ((i : Int)).toNat J0).1 + (S.getD ((i : Int)).toNat J0).2.2.1) := fun S hSe => by
            rw [hSe, Int.toNat_natCast, hgn]
            unfold jf jt jl jp at hr
            simp only [InK, cutJ]; omega
          have hPk : ∀ S : List Jb, S = cutK l ((k : Int) + 1) (i + 1) → pickB (okK l ((k : Int) + 1) i) (Operand.tmp 57) (Operand.const (Value.bool false)) (decide ((S.getD ((i : Int)).toNat J0).1 + (S.getD ((i : Int)).toNat J0).2.2.1 ≤ (S.getD ((i : Int)).toNat J0).2.1)) false = okK l ((k : Int) + 1) (i + 1) := fun S hSe => by
            rw [hSe, Int.toNat_natCast, hgn, ho]
            cases okK l ((k : Int) + 1) i <;> rfl
          repeat' (first
 | refine W.seq ?_
 | refine W.block ?_
 | (refine W.drawPhTo (id := 14) tys_ok [] mixed [0, 1, 2, 6, 10, 18, 2, 66, 130, 258, 546, 2, 2050, 4098, 8194, 17410, 32770, 131071] [([0, 1, 2, 3, 4, 6, 7, 8, 11, 12, 13], 4, 32767), ([15, 16, 17], 0, 262143)] ⟨[(1, .st true (.sadr (.agg [I64 P, .arr JT l, .arr OT os]))), (5, .lit (.int .i64 (((k : Int) + 1)))), (6, .padr 7000 0), (7, .lit (.bool ((okK l ((k : Int) + 1) (i + 1))))), (25, .lit (.int .i64 ((l.length : Int)))), (26, .lit (.int .i64 (i)))], [(7000, .box [.lit (.int .i64 P), .own 22000, .st true (.arr OT os)]), (22000, .row 45 JT true (cutK l ((k : Int) + 1) (i + 1)))]⟩ (by decide +kernel) ?_ ?_ <;> (conv => whnf))
 | (refine W.region tys_ok [] ?_; conv => whnf)
 | (refine W.drawAll tys_ok [] mixed rfl ?_; conv => whnf)
 | (refine W.ret ?_; conv => whnf)
 | (refine W.skip ?_; conv => whnf)
 | (refine W.exit ?_; conv => whnf)
 | (refine Both.mk ?_ ?_ <;> (conv => whnf))
 | (refine W.cond rfl (fun hb => ?_) (fun hb => ?_) <;> (try simp only [Int.reduceToNat, Int.reduceTDiv, Int.reduceTMod, minL, maxL, pickB, zHB, zSH] at hb) <;> (try (first | (cases hb; done) | exact absurd hb (by decide) | (exfalso; omega))))
 | ((with_reducible refine And.intro ?_ ?_); (focus (first | (with_reducible rfl) | omega | rfl | ((try simp only [Int.reduceToNat, Int.reduceTDiv, Int.reduceTMod, minL, maxL, pickB, zHB, zSH, InK, Path.imp, zL] at *); omega))); (conv => whnf))
 | ((with_reducible refine And.intro (Side.out ?_) ?_); rotate_left; (conv => whnf))
 | ((first | refine retF1 ?_ | refine retF2 ?_ | refine subF.leaf ?_ | refine subF.side ?_) <;> (conv => whnf) <;> repeat' (first
 | exact trivial
 | (with_reducible rfl)
 | ((with_reducible refine And.intro ?_ ?_) <;> conv => whnf)
 | omega
 | rfl
 | (refine congrArg (SV.arr _) ?_)
 | (refine congrArg (Value.int _) ?_)
 | (refine congrArg Value.bool ?_)))); all_goals (try unfold Side)
          all_goals try (repeat' (first | (with_reducible rfl) | (with_reducible refine And.intro ?_ ?_) | omega | rfl | exact Or.inl rfl | exact Or.inr rfl | exact of_decide_eq_true rfl | exact Path.imp_of (of_decide_eq_true rfl) | (focus ((try simp only [Int.reduceToNat, Int.reduceTDiv, Int.reduceTMod, minL, maxL, pickB, zHB, zSH, InK, Path.imp, zL] at *); omega)) | (refine app_le rfl ?_; omega)))
          all_goals try (first | exact hS | exact Path.imp_of (hlt _) | exact Path.imp_of (hI _ hS) | exact hPk _ hS)
          refine ⟨i + 1, ⟨by omega, by omega⟩, ?_⟩
          refine subF.ok ?_ <;> (conv => whnf) <;> repeat' (first
 | exact trivial
 | (with_reducible rfl)
 | ((with_reducible refine And.intro ?_ ?_) <;> conv => whnf)
 | omega
 | rfl
 | (refine congrArg (SV.arr _) ?_)
 | (refine congrArg (Value.int _) ?_)
 | (refine congrArg Value.bool ?_))
        · have hie : l.length = i := by omega
          subst hie
          have hce := cutK_end (l := l) (e := (k : Int) + 1)
          have hcast : ((k + 1 : Nat) : Int) = (k : Int) + 1 := by omega
          by_cases hok : okE l ((k : Int) + 1)
          · have hokb : okK l ((k : Int) + 1) l.length = true := okK_end.2 hok
            have hfa := first_at (cut_vs h hok)
            rw [firstT_cut hok] at hfa
            have hh := fun r => hhit k r hkl2 hno
            have hm := shortK_miss hno
            rw [hcast] at hh hm
            rw [hokb]
            cases hat : atE P l os ((k : Int) + 1) with
            | none =>
              rw [hat] at hfa
              have hfb : FnAt Try.prog true 39 [.agg [I64 P, .arr JT (cutT l ((k : Int) + 1)), .arr OT os]] (.st true (.narr (.int .i64) ([] : List Int))) [] := hfa
              repeat' (first
 | refine W.seq ?_
 | refine W.block ?_
 | (refine W.resub (x := Code.region 17 _ _) (Γ' := ⟨[(1, .st true (.sadr (.agg [I64 P, .arr JT l, .arr OT os]))), (5, .lit (.int .i64 (((k : Int) + 1)))), (6, .st true (.sadr (.agg [I64 P, .arr JT (cutT l ((k : Int) + 1)), .arr OT os])))], []⟩) ?_ (W.region tys_ok [] ?_); rotate_left; (conv => whnf))
 | (refine W.region tys_ok [] ?_; conv => whnf)
 | (refine W.drawAll tys_ok [] mixed rfl ?_; conv => whnf)
 | (refine W.ret ?_; conv => whnf)
 | (refine W.skip ?_; conv => whnf)
 | (refine W.exit ?_; conv => whnf)
 | (refine call_at (al := true) (hfb) rfl rfl rfl rfl ?_; conv => whnf)
 | (refine W.cond rfl (fun hb => ?_) (fun hb => ?_) <;> (try simp only [Int.reduceToNat, Int.reduceTDiv, Int.reduceTMod, minL, maxL, pickB, zHB, zSH] at hb) <;> (try (first | (cases hb; done) | exact absurd hb (by decide) | (exfalso; omega))))
 | ((with_reducible refine And.intro ?_ ?_); (focus (first | (with_reducible rfl) | omega | rfl | ((try simp only [Int.reduceToNat, Int.reduceTDiv, Int.reduceTMod, minL, maxL, pickB, zHB, zSH, InK, Path.imp, zL] at *); omega))); (conv => whnf))
 | ((with_reducible refine And.intro (Side.out ?_) ?_); rotate_left; (conv => whnf))
 | ((first | refine retF1 ?_ | refine retF2 ?_) <;> (conv => whnf) <;> repeat' (first
 | exact trivial
 | (with_reducible rfl)
 | ((with_reducible refine And.intro ?_ ?_) <;> conv => whnf)
 | omega
 | rfl
 | (refine congrArg (SV.arr _) ?_)
 | (refine congrArg (Value.int _) ?_)
 | (refine congrArg Value.bool ?_)))); all_goals (try unfold Side)
              all_goals try (repeat' (first | (with_reducible rfl) | (with_reducible refine And.intro ?_ ?_) | omega | rfl | exact Or.inl rfl | exact Or.inr rfl | exact of_decide_eq_true rfl | exact Path.imp_of (of_decide_eq_true rfl) | (focus ((try simp only [Int.reduceToNat, Int.reduceTDiv, Int.reduceTMod, minL, maxL, pickB, zHB, zSH, InK, Path.imp, zL] at *); omega)) | (refine app_le rfl ?_; omega)))
              · refine ⟨k + 1, ⟨⟨by omega, hm hat⟩, by omega⟩, ?_⟩
                refine subF.ok ?_ <;> (conv => whnf) <;> repeat' (first
 | exact trivial
 | (with_reducible rfl)
 | ((with_reducible refine And.intro ?_ ?_) <;> conv => whnf)
 | omega
 | rfl
 | (refine congrArg (SV.arr _) ?_)
 | (refine congrArg (Value.int _) ?_)
 | (refine congrArg Value.bool ?_))
              · refine subF.ok ?_ <;> (conv => whnf) <;> repeat' (first
 | exact trivial
 | (with_reducible rfl)
 | ((with_reducible refine And.intro ?_ ?_) <;> conv => whnf)
 | omega
 | rfl
 | (refine congrArg (SV.arr _) ?_)
 | (refine congrArg (Value.int _) ?_)
 | (refine congrArg Value.bool ?_))
                all_goals exact hce
            | some r =>
              rw [hat] at hfa
              have hfb : FnAt Try.prog true 39 [.agg [I64 P, .arr JT (cutT l ((k : Int) + 1)), .arr OT os]] (.st true (.narr (.int .i64) (r : List Int))) [] := hfa
              obtain ⟨h1, h2, h3, h4, h5⟩ := hh r hat
              repeat' (first
 | refine W.seq ?_
 | refine W.block ?_
 | (refine W.resub (x := Code.region 17 _ _) (Γ' := ⟨[(1, .st true (.sadr (.agg [I64 P, .arr JT l, .arr OT os]))), (5, .lit (.int .i64 (((k : Int) + 1)))), (6, .st true (.sadr (.agg [I64 P, .arr JT (cutT l ((k : Int) + 1)), .arr OT os])))], []⟩) ?_ (W.region tys_ok [] ?_); rotate_left; (conv => whnf))
 | (refine W.region tys_ok [] ?_; conv => whnf)
 | (refine W.drawAll tys_ok [] mixed rfl ?_; conv => whnf)
 | (refine W.ret ?_; conv => whnf)
 | (refine W.skip ?_; conv => whnf)
 | (refine W.exit ?_; conv => whnf)
 | (refine call_at (al := true) (hfb) rfl rfl rfl rfl ?_; conv => whnf)
 | (refine W.cond rfl (fun hb => ?_) (fun hb => ?_) <;> (try simp only [Int.reduceToNat, Int.reduceTDiv, Int.reduceTMod, minL, maxL, pickB, zHB, zSH] at hb) <;> (try (first | (cases hb; done) | exact absurd hb (by decide) | (exfalso; omega) | (exact Bool.noConfusion (hb.symm.trans h2)))))
 | ((with_reducible refine And.intro ?_ ?_); (focus (first | (with_reducible rfl) | omega | rfl | ((try simp only [Int.reduceToNat, Int.reduceTDiv, Int.reduceTMod, minL, maxL, pickB, zHB, zSH, InK, Path.imp, zL] at *); omega))); (conv => whnf))
 | ((with_reducible refine And.intro (Side.out ?_) ?_); rotate_left; (conv => whnf))
 | ((first | refine retF1 ?_ | refine retF2 ?_) <;> (conv => whnf) <;> repeat' (first
 | exact trivial
 | (with_reducible rfl)
 | ((with_reducible refine And.intro ?_ ?_) <;> conv => whnf)
 | omega
 | rfl
 | (refine congrArg (SV.arr _) ?_)
 | (refine congrArg (Value.int _) ?_)
 | (refine congrArg Value.bool ?_)))); all_goals (try unfold Side)
              all_goals try (repeat' (first | (with_reducible rfl) | (with_reducible refine And.intro ?_ ?_) | omega | rfl | exact Or.inl rfl | exact Or.inr rfl | exact of_decide_eq_true rfl | exact Path.imp_of (of_decide_eq_true rfl) | (focus ((try simp only [Int.reduceToNat, Int.reduceTDiv, Int.reduceTMod, minL, maxL, pickB, zHB, zSH, InK, Path.imp, zL] at *); omega)) | (refine app_le rfl ?_; omega)))
              all_goals try (first | exact congrArg (SV.narr _) h3.symm | exact h3.symm | exact h4.symm | exact h5.symm)
              · refine subF.ok ?_ <;> (conv => whnf) <;> repeat' (first
 | exact trivial
 | (with_reducible rfl)
 | ((with_reducible refine And.intro ?_ ?_) <;> conv => whnf)
 | omega
 | rfl
 | (refine congrArg (SV.arr _) ?_)
 | (refine congrArg (Value.int _) ?_)
 | (refine congrArg Value.bool ?_))
                all_goals exact hce
          · have hokb : okK l ((k : Int) + 1) l.length = false := by
              cases e : okK l ((k : Int) + 1) l.length with
              | false => rfl
              | true => exact absurd (okK_end.1 e) hok
            have hm := shortK_miss hno (by rw [hcast]; exact atE_no hok)
            rw [hokb]
            repeat' (first
 | refine W.seq ?_
 | refine W.block ?_
 | (refine W.region tys_ok [] ?_; conv => whnf)
 | (refine W.drawAll tys_ok [] mixed rfl ?_; conv => whnf)
 | (refine W.ret ?_; conv => whnf)
 | (refine W.skip ?_; conv => whnf)
 | (refine W.exit ?_; conv => whnf)
 | (refine W.cond rfl (fun hb => ?_) (fun hb => ?_) <;> (try simp only [Int.reduceToNat, Int.reduceTDiv, Int.reduceTMod, minL, maxL, pickB, zHB, zSH] at hb) <;> (try (first | (cases hb; done) | exact absurd hb (by decide) | (exfalso; omega))))
 | ((with_reducible refine And.intro ?_ ?_); (focus (first | (with_reducible rfl) | omega | rfl | ((try simp only [Int.reduceToNat, Int.reduceTDiv, Int.reduceTMod, minL, maxL, pickB, zHB, zSH, InK, Path.imp, zL] at *); omega))); (conv => whnf))
 | ((with_reducible refine And.intro (Side.out ?_) ?_); rotate_left; (conv => whnf))
 | ((first | refine retF1 ?_ | refine retF2 ?_) <;> (conv => whnf) <;> repeat' (first
 | exact trivial
 | (with_reducible rfl)
 | ((with_reducible refine And.intro ?_ ?_) <;> conv => whnf)
 | omega
 | rfl
 | (refine congrArg (SV.arr _) ?_)
 | (refine congrArg (Value.int _) ?_)
 | (refine congrArg Value.bool ?_)))); all_goals (try unfold Side)
            all_goals try (repeat' (first | (with_reducible rfl) | (with_reducible refine And.intro ?_ ?_) | omega | rfl | exact Or.inl rfl | exact Or.inr rfl | exact of_decide_eq_true rfl | exact Path.imp_of (of_decide_eq_true rfl) | (focus ((try simp only [Int.reduceToNat, Int.reduceTDiv, Int.reduceTMod, minL, maxL, pickB, zHB, zSH, InK, Path.imp, zL] at *); omega)) | (refine app_le rfl ?_; omega)))
            refine ⟨k + 1, ⟨⟨by omega, hm⟩, by omega⟩, ?_⟩
            refine subF.ok ?_ <;> (conv => whnf) <;> repeat' (first
 | exact trivial
 | (with_reducible rfl)
 | ((with_reducible refine And.intro ?_ ?_) <;> conv => whnf)
 | omega
 | rfl
 | (refine congrArg (SV.arr _) ?_)
 | (refine congrArg (Value.int _) ?_)
 | (refine congrArg Value.bool ?_))
    · have hke : k = 24 := by omega
      subst hke
      obtain ⟨e1, e2, e3⟩ := hmiss hno
      repeat' (first
 | refine W.seq ?_
 | refine W.block ?_
 | (refine W.region tys_ok [] ?_; conv => whnf)
 | (refine W.drawAll tys_ok [] mixed rfl ?_; conv => whnf)
 | (refine W.ret ?_; conv => whnf)
 | (refine W.skip ?_; conv => whnf)
 | (refine W.exit ?_; conv => whnf)
 | (refine W.cond rfl (fun hb => ?_) (fun hb => ?_) <;> (try simp only [Int.reduceToNat, Int.reduceTDiv, Int.reduceTMod, minL, maxL, pickB, zHB, zSH] at hb) <;> (try (first | (cases hb; done) | exact absurd hb (by decide) | (exfalso; omega))))
 | ((with_reducible refine And.intro ?_ ?_); (focus (first | (with_reducible rfl) | omega | rfl | ((try simp only [Int.reduceToNat, Int.reduceTDiv, Int.reduceTMod, minL, maxL, pickB, zHB, zSH, InK, Path.imp, zL] at *); omega))); (conv => whnf))
 | ((with_reducible refine And.intro (Side.out ?_) ?_); rotate_left; (conv => whnf))
 | ((first | refine retF1 ?_ | refine retF2 ?_) <;> (conv => whnf) <;> repeat' (first
 | exact trivial
 | (with_reducible rfl)
 | ((with_reducible refine And.intro ?_ ?_) <;> conv => whnf)
 | omega
 | rfl
 | (refine congrArg (SV.arr _) ?_)
 | (refine congrArg (Value.int _) ?_)
 | (refine congrArg Value.bool ?_)))); all_goals (try unfold Side)
      all_goals try (repeat' (first | (with_reducible rfl) | (with_reducible refine And.intro ?_ ?_) | omega | rfl | exact Or.inl rfl | exact Or.inr rfl | exact of_decide_eq_true rfl | exact Path.imp_of (of_decide_eq_true rfl) | (focus ((try simp only [Int.reduceToNat, Int.reduceTDiv, Int.reduceTMod, minL, maxL, pickB, zHB, zSH, InK, Path.imp, zL] at *); omega)) | (refine app_le rfl ?_; omega)))
      all_goals first | exact e1 | exact e1.symm | exact e2.symm | exact e3.symm
end Go.Proofs.Ytmfholchenihaaa
namespace Go.Sh
set_option linter.unusedVariables false
set_option linter.unusedSimpArgs false
end Go.Sh
namespace Go.Proofs.Ytmfholchenihaaa
open Go Go.Vc Go.Sh
set_option linter.unusedVariables false
set_option linter.unusedSimpArgs false
end Go.Proofs.Ytmfholchenihaaa
namespace Go.Proofs.Ytmfholchenihaaa
open Go Go.Vc Go.Sh
set_option linter.unusedVariables false
set_option linter.unusedSimpArgs false
end Go.Proofs.Ytmfholchenihaaa

