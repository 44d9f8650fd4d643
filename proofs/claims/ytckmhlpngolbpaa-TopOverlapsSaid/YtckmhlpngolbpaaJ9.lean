/- Joined of: H12 H13 E11 Vc37. No condition. -/
import Derived.Test.YtckmhlpngolbpaaJ8
import Derived.Test.YtckmhlpngolbpaaJ5
import Derived.Test.YtckmhlpngolbpaaJ4
set_option linter.unusedVariables false
set_option linter.unusedSimpArgs false
namespace Go.Proofs.Ytckmhlpngolbpaa
open Int renaming reduceToNat → zr, reduceTDiv → zd, reduceTMod → zm
open Go Go.Vc Go.Sh
theorem fx_bd {l : List Jb} {os : List Od} {s : List Int} (h : Vj l os) (hs : s.length = l.length) (hr : ∀ m, m < l.length → jf l m ≤ s.getD m 0 ∧ s.getD m 0 ≤ jt l m - jl l m) : Bd (fxK l s l.length) := by
 refine ⟨by rw [fx_len]; exact h.bd.len, fun m hm => ?_⟩
 rw [fx_len] at hm
 obtain ⟨h1, h2⟩ := fx_ft (l := l) (s := s) (Nat.le_refl _) m
 obtain ⟨h3, h4⟩ := fx_lp (l := l) (s := s) (Nat.le_refl _) m
 have h5 := h.bd.rg m hm
 have h6 := hr m hm
 have h7 := h.rg m hm
 rw [h1, h2, h3, h4, if_pos hm, if_pos hm]
 omega
theorem fx_set1 {l : List Jb} {s : List Int} {i : Nat} (hi : i < l.length) {x : Int} (hx : x = s.getD i 0) :
  ((fxK l s i).set i (x, ((fxK l s i).getD i J0).2)).set i ((((fxK l s i).set i (x, ((fxK l s i).getD i J0).2)).getD i J0).1, x + (l.getD i J0).2.2.1, (((fxK l s i).set i (x, ((fxK l s i).getD i J0).2)).getD i J0).2.2) = fxK l s (i + 1) := by
 have hl : i < (fxK l s i).length := by rw [fx_len]; exact hi
 have e : ((fxK l s i).set i (x, ((fxK l s i).getD i J0).2)).getD i J0 = (x, ((fxK l s i).getD i J0).2) := by
  rw [List.getD_eq_getElem?_getD, List.getElem?_set]; simp [hl]
 rw [e, List.set_set, fxK, fixT, hx]
 unfold jl jp
 rw [fx_get i (Nat.le_refl _)]
theorem fx_set2 {l : List Jb} {s : List Int} {i : Nat} (hi : i < l.length) {x : Int} (hx : x = s.getD i 0) :
  ((fxK l s i).set i (((fxK l s i).getD i J0).1, x + (l.getD i J0).2.2.1, ((fxK l s i).getD i J0).2.2)).set i (x, (((fxK l s i).set i (((fxK l s i).getD i J0).1, x + (l.getD i J0).2.2.1, ((fxK l s i).getD i J0).2.2)).getD i J0).2) = fxK l s (i + 1) := by
 have hl : i < (fxK l s i).length := by rw [fx_len]; exact hi
 have e : ((fxK l s i).set i (((fxK l s i).getD i J0).1, x + (l.getD i J0).2.2.1, ((fxK l s i).getD i J0).2.2)).getD i J0 = (((fxK l s i).getD i J0).1, x + (l.getD i J0).2.2.1, ((fxK l s i).getD i J0).2.2) := by
  rw [List.getD_eq_getElem?_getD, List.getElem?_set]; simp [hl]
 rw [e, List.set_set, fxK, fixT, hx]
 unfold jl jp
 rw [fx_get i (Nat.le_refl _)]
set_option maxHeartbeats 8000000 in
theorem fits_at {P : Int} {l : List Jb} {os : List Od} {s : List Int} (h : Vj l os) (h1 : 1 ≤ l.length) (hs : s.length = l.length) : FnAt Try.prog false 60 [.agg [I64 P, .arr JT l, .arr OT os], .arr (.int .i64) s] (.lit (.bool (fitB P l os s))) [] := by
  have hbd := h.bd
  have hl := hbd.len
  have ho := h.or
  have hol := ho.1
  have hll : @List.length JT.T l = l.length := rfl
  have hlo : @List.length OT.T os = os.length := rfl
  have hsl : @List.length (Ty.int .i64).T s = s.length := rfl
  have hcl := clone_at (l := l) h1 (by omega)
  have hno1 : ∀ i, i < l.length → ¬ (jf l i ≤ s.getD i 0 ∧ s.getD i 0 ≤ jt l i - jl l i) → fitB P l os s = false := fun i hi hc => fitB_no fun hf => hc (hf.rg i hi)
  have hno2 : ∀ t : Nat, t < 24 → ¬ loadT l s t ≤ P → fitB P l os s = false := fun t ht hc => fitB_no fun hf => hc (hf.load t ht)
  have hno3 : ∀ i, i < os.length → ¬ s.getD (os.getD i O0).1.toNat 0 + jl l (os.getD i O0).1.toNat ≤ s.getD (os.getD i O0).2.1.toNat 0 → fitB P l os s = false := fun i hi hc => fitB_no fun hf => hc (fit_ord hf hi)
  have hyes : (∀ i, i < l.length → jf l i ≤ s.getD i 0 ∧ s.getD i 0 ≤ jt l i - jl l i) → (∀ t : Nat, t < 24 → loadT l s t ≤ P) → (∀ i, i < os.length → s.getD (os.getD i O0).1.toNat 0 + jl l (os.getD i O0).1.toNat ≤ s.getD (os.getD i O0).2.1.toNat 0) → fitB P l os s = true :=
    fun h1 h2 h3 => fitB_yes (fit_of hs h1 h2 h3)
  have hfn : ∀ t : Nat, needsT (fxK l s l.length) t ((t : Int) + 1) = loadT l s t := fun t => fx_needs hs fun i hi => by have := h.rg i hi; omega
  have hfl : ∀ i, i < os.length → (lateT (fxK l s l.length) (os.getD i O0) = false ↔ s.getD (os.getD i O0).1.toNat 0 + jl l (os.getD i O0).1.toNat ≤ s.getD (os.getD i O0).2.1.toNat 0) := fun i hi => by
    have := ho.2 i hi
    exact fx_late (by omega) (by omega)
  have hfb := fx_bd h hs
  obtain ⟨F, hF⟩ : ∃ F, F = fitB P l os s := ⟨_, rfl⟩
  rw [← hF] at hno1 hno2 hno3 hyes ⊢
  clear hF
  have hkl : ∀ i, @List.length JT.T (fxK l s i) = l.length := fun i => fx_len
  refine FnAt.of_body tys_ok Try.func60 (by rfl) rfl Try.ntmps60 (by rw [Try.results60]) (by simp) ?_
  repeat' (first
 | refine W.seq ?_
 | refine W.block ?_
 | (refine W.region tys_ok [] ?_; conv => whnf)
 | (refine W.drawAll tys_ok [] mixed rfl ?_; conv => whnf)
 | (refine W.ret ?_; conv => whnf)
 | (refine W.skip ?_; conv => whnf)
 | (refine W.exit ?_; conv => whnf)
 | (refine call_at (al := false) (hcl) rfl rfl rfl rfl ?_; conv => whnf)
 | (refine W.cond rfl (fun hb => ?_) (fun hb => ?_) <;> (try simp only [zr, zd, zm, minL, maxL, pickB, zA] at hb) <;> (try (first | (cases hb; done) | exact absurd hb (by decide) | (exfalso; omega))))
 | ((with_reducible refine And.intro ?_ ?_); exact zc; conv => whnf)
 | ((with_reducible refine And.intro (Side.out ?_) ?_); rotate_left; (conv => whnf))
 | ((first | refine retF1 ?_ | refine retF2 ?_) <;> (conv => whnf) <;> repeat' (first
 | exact trivial
 | (with_reducible rfl)
 | ((with_reducible refine And.intro ?_ ?_) <;> conv => whnf)
 | omega
 | rfl
 | (refine congrArg (SV.arr _) ?_)
 | (refine congrArg (Value.int _) ?_)
 | (refine congrArg Value.bool ?_)))); all_goals (try unfold Side)
  all_goals try (repeat' (first | exact zb | with_reducible refine And.intro ?_ ?_))
  refine W.loop (fun i : Nat => ⟨[(1, .st false (.arr (.int .i64) s)), (2, .st false (.sadr (.agg [I64 P, .arr JT l, .arr OT os]))), (5, .own 5000), (15, .st false (.arr (.int .i64) s)), (16, .lit (.int .i64 ((s.length : Int)))), (17, .lit (.int .i64 (i)))], [(5000, .row 30 JT true (fxK l s i))]⟩) (fun i => i ≤ s.length ∧ (∀ m, m < i → jf l m ≤ s.getD m 0 ∧ s.getD m 0 ≤ jt l m - jl l m)) (fun i => s.length - i) (0) ?_ ?_
  · refine ⟨⟨Nat.zero_le _, by omega⟩, ?_⟩
    refine subF.ok ?_ <;> (conv => whnf) <;> repeat' (first
 | exact trivial
 | (with_reducible rfl)
 | ((with_reducible refine And.intro ?_ ?_) <;> conv => whnf)
 | omega
 | rfl
 | (refine congrArg (SV.arr _) ?_)
 | (refine congrArg (Value.int _) ?_)
 | (refine congrArg Value.bool ?_))
    all_goals rfl
  · rintro i ⟨hi, hj⟩
    have hk1 := hkl i
    by_cases hil : i < s.length
    · have hn := hno1 i (by omega)
      have hbi := hbd.rg i (by omega)
      have hvi := h.rg i (by omega)
      by_cases hc : jf l i ≤ s.getD i 0 ∧ s.getD i 0 ≤ jt l i - jl l i
      · have hc' := hc
        have f1 := fx_set1 (l := l) (s := s) (i := i) (by omega) rfl
        have f2 := fx_set2 (l := l) (s := s) (i := i) (by omega) rfl
        have hlt : ∀ y : Jb, ((i : Int)).toNat < ((fxK l s i).set ((i : Int)).toNat y).length := fun y => by
          rw [List.length_set, fx_len]; omega
        unfold jf jt jl at hc' hvi
        unfold jf jt jl jp at hbi
        repeat' (first
 | refine W.seq ?_
 | refine W.block ?_
 | (refine W.resub (x := Code.region 8 _ _) (Γ' := ⟨[(1, .st false (.arr (.int .i64) s)), (2, .st false (.sadr (.agg [I64 P, .arr JT l, .arr OT os]))), (5, .own 5000), (15, .st false (.arr (.int .i64) s)), (16, .lit (.int .i64 ((s.length : Int)))), (17, .lit (.int .i64 (i))), (6, .lit (.int .i64 (i))), (7, .lit (.int .i64 ((s.getD i 0)))), (8, .st true (.sadr (.agg [I64 (l.getD i J0).1, I64 (l.getD i J0).2.1, I64 (l.getD i J0).2.2.1, I64 (l.getD i J0).2.2.2.1])))], [(5000, .row 30 JT true (fxK l s i))]⟩) ?_ (W.drawPh (id := 8) tys_ok [] mixed [0, 0, 0, 0, 0, 0, 0, 64, 160, 19, 531, 1043, 4095, 8191, 12287] [([0, 1, 2, 3, 4, 5, 6, 7, 8, 9, 10], 1, 4095), ([12, 13], 1, 32767)] (by decide +kernel) ?_); rotate_left; (conv => whnf))
 | (refine W.region tys_ok [] ?_; conv => whnf)
 | (refine W.drawAll tys_ok [] mixed rfl ?_; conv => whnf)
 | (refine W.ret ?_; conv => whnf)
 | (refine W.skip ?_; conv => whnf)
 | (refine W.exit ?_; conv => whnf)
 | (refine Both.mk ?_ ?_ <;> (conv => whnf))
 | (refine W.cond rfl (fun hb => ?_) (fun hb => ?_) <;> (try simp only [zr, zd, zm, minL, maxL, pickB, zA] at hb) <;> (try (first | (cases hb; done) | exact absurd hb (by decide) | (exfalso; omega) | (omega))))
 | ((with_reducible refine And.intro ?_ ?_); exact zc; conv => whnf)
 | ((with_reducible refine And.intro (Side.out ?_) ?_); rotate_left; (conv => whnf))
 | ((first | refine retF1 ?_ | refine retF2 ?_ | refine subF.leaf ?_ | refine subF.side ?_) <;> (conv => whnf) <;> repeat' (first
 | exact trivial
 | (with_reducible rfl)
 | ((with_reducible refine And.intro ?_ ?_) <;> conv => whnf)
 | omega
 | rfl
 | (refine congrArg (SV.arr _) ?_)
 | (refine congrArg (Value.int _) ?_)
 | (refine congrArg Value.bool ?_)))); all_goals (try unfold Side)
        all_goals try (repeat' (first | exact zb | with_reducible refine And.intro ?_ ?_))
        all_goals try (first | exact hlt _ | exact Path.imp_of (hlt _) | exact Path.imp_of ⟨by omega, hlt _⟩)
        all_goals try (refine ⟨i + 1, ⟨⟨by omega, fun m hm => ?_⟩, by omega⟩, ?_⟩)
        all_goals first
          | (by_cases e : m = i
             · subst e; exact hc
             · exact hj m (by omega))
          | refine subF.ok ?_ <;> (conv => whnf) <;> repeat' (first
 | exact trivial
 | (with_reducible rfl)
 | ((with_reducible refine And.intro ?_ ?_) <;> conv => whnf)
 | omega
 | rfl
 | (refine congrArg (SV.arr _) ?_)
 | (refine congrArg (Value.int _) ?_)
 | (refine congrArg Value.bool ?_))
        all_goals first | exact f1 | exact f2 | rfl
      · have hn := hn hc
        have hc' := hc
        unfold jf jt jl at hc'
        unfold jf jt jl jp at hbi
        repeat' (first
 | refine W.seq ?_
 | refine W.block ?_
 | (refine W.region tys_ok [] ?_; conv => whnf)
 | (refine W.drawAll tys_ok [] mixed rfl ?_; conv => whnf)
 | (refine W.ret ?_; conv => whnf)
 | (refine W.skip ?_; conv => whnf)
 | (refine W.exit ?_; conv => whnf)
 | (refine W.cond rfl (fun hb => ?_) (fun hb => ?_) <;> (try simp only [zr, zd, zm, minL, maxL, pickB, zA] at hb) <;> (try (first | (cases hb; done) | exact absurd hb (by decide) | (exfalso; omega) | (omega))))
 | ((with_reducible refine And.intro ?_ ?_); exact zc; conv => whnf)
 | ((with_reducible refine And.intro (Side.out ?_) ?_); rotate_left; (conv => whnf))
 | ((first | refine retF1 ?_ | refine retF2 ?_) <;> (conv => whnf) <;> repeat' (first
 | exact trivial
 | (with_reducible rfl)
 | ((with_reducible refine And.intro ?_ ?_) <;> conv => whnf)
 | omega
 | rfl
 | (refine congrArg (SV.arr _) ?_)
 | (refine congrArg (Value.int _) ?_)
 | (refine congrArg Value.bool ?_)))); all_goals (try unfold Side)
        all_goals try (repeat' (first | exact zb | with_reducible refine And.intro ?_ ?_))
        all_goals exact hn.symm
    · have hie : s.length = i := by omega
      subst hie
      have hfb := hfb fun m hm => hj m (by omega)
      obtain ⟨X, hX⟩ : ∃ X, X = fxK l s l.length := ⟨_, rfl⟩
      have hXs : fxK l s s.length = X := by rw [hX, hs]
      have hXl : X.length = l.length := by rw [hX, fx_len]
      have hXll : @List.length JT.T X = l.length := hXl
      rw [← hX] at hfn hfl hfb
      clear hX
      repeat' (first
 | refine W.seq ?_
 | refine W.block ?_
 | (refine W.region tys_ok [] ?_; conv => whnf)
 | (refine W.drawAll tys_ok [] mixed rfl ?_; conv => whnf)
 | (refine W.ret ?_; conv => whnf)
 | (refine W.skip ?_; conv => whnf)
 | (refine W.exit ?_; conv => whnf)
 | (refine W.cond rfl (fun hb => ?_) (fun hb => ?_) <;> (try simp only [zr, zd, zm, minL, maxL, pickB, zA] at hb) <;> (try (first | (cases hb; done) | exact absurd hb (by decide) | (exfalso; omega))))
 | ((with_reducible refine And.intro ?_ ?_); exact zc; conv => whnf)
 | ((with_reducible refine And.intro (Side.out ?_) ?_); rotate_left; (conv => whnf))
 | ((first | refine retF1 ?_ | refine retF2 ?_) <;> (conv => whnf) <;> repeat' (first
 | exact trivial
 | (with_reducible rfl)
 | ((with_reducible refine And.intro ?_ ?_) <;> conv => whnf)
 | omega
 | rfl
 | (refine congrArg (SV.arr _) ?_)
 | (refine congrArg (Value.int _) ?_)
 | (refine congrArg Value.bool ?_)))); all_goals (try unfold Side)
      all_goals try (repeat' (first | exact zb | with_reducible refine And.intro ?_ ?_))
      refine W.loop (fun i : Nat => ⟨[(2, .st false (.sadr (.agg [I64 P, .arr JT l, .arr OT os]))), (5, .st true (.arr JT X)), (55, .st false (.arr OT os)), (56, .lit (.int .i64 ((os.length : Int)))), (57, .lit (.int .i64 (i)))], []⟩) (fun i => i ≤ os.length ∧ (∀ m, m < i → s.getD (os.getD m O0).1.toNat 0 + jl l (os.getD m O0).1.toNat ≤ s.getD (os.getD m O0).2.1.toNat 0)) (fun i => os.length - i) (0) ?_ ?_
      · refine ⟨⟨Nat.zero_le _, by omega⟩, ?_⟩
        refine subF.ok ?_ <;> (conv => whnf) <;> repeat' (first
 | exact trivial
 | (with_reducible rfl)
 | ((with_reducible refine And.intro ?_ ?_) <;> conv => whnf)
 | omega
 | rfl
 | (refine congrArg (SV.arr _) ?_)
 | (refine congrArg (Value.int _) ?_)
 | (refine congrArg Value.bool ?_))
        all_goals exact hXs
      · rintro i ⟨hi, hor⟩
        by_cases hil : i < os.length
        · have hn := hno3 i hil
          have hoi := ho.2 i hil
          have hfi := hfl i hil
          have hla := late_at hfb (x := (os.getD i O0).1) (y := (os.getD i O0).2.1) (by omega) (by omega)
          by_cases hc : s.getD (os.getD i O0).1.toNat 0 + jl l (os.getD i O0).1.toNat ≤ s.getD (os.getD i O0).2.1.toNat 0
          · have hc2 : lateT X (os.getD i O0) = false := hfi.2 hc
            rw [show lateT X ((os.getD i O0).1, (os.getD i O0).2.1, ()) = false from hc2] at hla
            repeat' (first
 | refine W.seq ?_
 | refine W.block ?_
 | (refine W.region tys_ok [] ?_; conv => whnf)
 | (refine W.drawAll tys_ok [] mixed rfl ?_; conv => whnf)
 | (refine W.ret ?_; conv => whnf)
 | (refine W.skip ?_; conv => whnf)
 | (refine W.exit ?_; conv => whnf)
 | (refine call_at (al := false) (hla) rfl rfl rfl rfl ?_; conv => whnf)
 | (refine W.cond rfl (fun hb => ?_) (fun hb => ?_) <;> (try simp only [zr, zd, zm, minL, maxL, pickB, zA] at hb) <;> (try (first | (cases hb; done) | exact absurd hb (by decide) | (exfalso; omega))))
 | ((with_reducible refine And.intro ?_ ?_); exact zc; conv => whnf)
 | ((with_reducible refine And.intro (Side.out ?_) ?_); rotate_left; (conv => whnf))
 | ((first | refine retF1 ?_ | refine retF2 ?_) <;> (conv => whnf) <;> repeat' (first
 | exact trivial
 | (with_reducible rfl)
 | ((with_reducible refine And.intro ?_ ?_) <;> conv => whnf)
 | omega
 | rfl
 | (refine congrArg (SV.arr _) ?_)
 | (refine congrArg (Value.int _) ?_)
 | (refine congrArg Value.bool ?_)))); all_goals (try unfold Side)
            all_goals try (repeat' (first | exact zb | with_reducible refine And.intro ?_ ?_))
            refine ⟨i + 1, ⟨⟨by omega, fun m hm => ?_⟩, by omega⟩, ?_⟩
            · by_cases e : m = i
              · subst e; exact hc
              · exact hor m (by omega)
            · refine subF.ok ?_ <;> (conv => whnf) <;> repeat' (first
 | exact trivial
 | (with_reducible rfl)
 | ((with_reducible refine And.intro ?_ ?_) <;> conv => whnf)
 | omega
 | rfl
 | (refine congrArg (SV.arr _) ?_)
 | (refine congrArg (Value.int _) ?_)
 | (refine congrArg Value.bool ?_))
          · have hn := hn hc
            have hc2 : lateT X (os.getD i O0) = true := by
              cases e : lateT X (os.getD i O0) with
              | true => rfl
              | false => exact absurd (hfi.1 e) hc
            rw [show lateT X ((os.getD i O0).1, (os.getD i O0).2.1, ()) = true from hc2] at hla
            repeat' (first
 | refine W.seq ?_
 | refine W.block ?_
 | (refine W.region tys_ok [] ?_; conv => whnf)
 | (refine W.drawAll tys_ok [] mixed rfl ?_; conv => whnf)
 | (refine W.ret ?_; conv => whnf)
 | (refine W.skip ?_; conv => whnf)
 | (refine W.exit ?_; conv => whnf)
 | (refine call_at (al := false) (hla) rfl rfl rfl rfl ?_; conv => whnf)
 | (refine W.cond rfl (fun hb => ?_) (fun hb => ?_) <;> (try simp only [zr, zd, zm, minL, maxL, pickB, zA] at hb) <;> (try (first | (cases hb; done) | exact absurd hb (by decide) | (exfalso; omega))))
 | ((with_reducible refine And.intro ?_ ?_); exact zc; conv => whnf)
 | ((with_reducible refine And.intro (Side.out ?_) ?_); rotate_left; (conv => whnf))
 | ((first | refine retF1 ?_ | refine retF2 ?_) <;> (conv => whnf) <;> repeat' (first
 | exact trivial
 | (with_reducible rfl)
 | ((with_reducible refine And.intro ?_ ?_) <;> conv => whnf)
 | omega
 | rfl
 | (refine congrArg (SV.arr _) ?_)
 | (refine congrArg (Value.int _) ?_)
 | (refine congrArg Value.bool ?_)))); all_goals (try unfold Side)
            all_goals try (repeat' (first | exact zb | with_reducible refine And.intro ?_ ?_))
            all_goals exact hn.symm
        · have hie : os.length = i := by omega
          subst hie
          repeat' (first
 | refine W.seq ?_
 | refine W.block ?_
 | (refine W.region tys_ok [] ?_; conv => whnf)
 | (refine W.drawAll tys_ok [] mixed rfl ?_; conv => whnf)
 | (refine W.ret ?_; conv => whnf)
 | (refine W.skip ?_; conv => whnf)
 | (refine W.exit ?_; conv => whnf)
 | (refine W.cond rfl (fun hb => ?_) (fun hb => ?_) <;> (try simp only [zr, zd, zm, minL, maxL, pickB, zA] at hb) <;> (try (first | (cases hb; done) | exact absurd hb (by decide) | (exfalso; omega))))
 | ((with_reducible refine And.intro ?_ ?_); exact zc; conv => whnf)
 | ((with_reducible refine And.intro (Side.out ?_) ?_); rotate_left; (conv => whnf))
 | ((first | refine retF1 ?_ | refine retF2 ?_) <;> (conv => whnf) <;> repeat' (first
 | exact trivial
 | (with_reducible rfl)
 | ((with_reducible refine And.intro ?_ ?_) <;> conv => whnf)
 | omega
 | rfl
 | (refine congrArg (SV.arr _) ?_)
 | (refine congrArg (Value.int _) ?_)
 | (refine congrArg Value.bool ?_)))); all_goals (try unfold Side)
          all_goals try (repeat' (first | exact zb | with_reducible refine And.intro ?_ ?_))
          refine W.loop (fun t : Nat => ⟨[(2, .st false (.sadr (.agg [I64 P, .arr JT l, .arr OT os]))), (5, .st true (.arr JT X)), (65, .lit (.int .i64 (t)))], []⟩) (fun t => t ≤ 24 ∧ (∀ u : Nat, u < t → loadT l s u ≤ P)) (fun t => 24 - t) (0) ?_ ?_
          · refine ⟨⟨Nat.zero_le _, by omega⟩, ?_⟩
            refine subF.ok ?_ <;> (conv => whnf) <;> repeat' (first
 | exact trivial
 | (with_reducible rfl)
 | ((with_reducible refine And.intro ?_ ?_) <;> conv => whnf)
 | omega
 | rfl
 | (refine congrArg (SV.arr _) ?_)
 | (refine congrArg (Value.int _) ?_)
 | (refine congrArg Value.bool ?_))
          · rintro t ⟨ht, hlp⟩
            by_cases htl : t < 24
            · have hn := hno2 t htl
              have hne := needs_at hfb (a := t) (b := (t : Int) + 1) (by omega)
              have hft := hfn t
              rw [hft] at hne
              by_cases hc : loadT l s t ≤ P
              · repeat' (first
 | refine W.seq ?_
 | refine W.block ?_
 | (refine W.drawPh (id := 19) tys_ok [] mixed [0, 0, 0, 4, 11, 0, 32, 80] [([0, 1, 2, 3, 5, 6], 1, 127), ([7], 0, 255)] (by decide +kernel) ?_; conv => whnf)
 | (refine W.region tys_ok [] ?_; conv => whnf)
 | (refine W.drawAll tys_ok [] mixed rfl ?_; conv => whnf)
 | (refine W.ret ?_; conv => whnf)
 | (refine W.skip ?_; conv => whnf)
 | (refine W.exit ?_; conv => whnf)
 | (refine call_at (al := false) (hne) rfl rfl rfl rfl ?_; conv => whnf)
 | (refine Both.mk ?_ ?_ <;> (conv => whnf))
 | (refine W.cond rfl (fun hb => ?_) (fun hb => ?_) <;> (try simp only [zr, zd, zm, minL, maxL, pickB, zA] at hb) <;> (try (first | (cases hb; done) | exact absurd hb (by decide) | (exfalso; omega) | (omega))))
 | ((with_reducible refine And.intro ?_ ?_); exact zc; conv => whnf)
 | ((with_reducible refine And.intro (Side.out ?_) ?_); rotate_left; (conv => whnf))
 | ((first | refine retF1 ?_ | refine retF2 ?_ | refine subF.leaf ?_ | refine subF.side ?_) <;> (conv => whnf) <;> repeat' (first
 | exact trivial
 | (with_reducible rfl)
 | ((with_reducible refine And.intro ?_ ?_) <;> conv => whnf)
 | omega
 | rfl
 | (refine congrArg (SV.arr _) ?_)
 | (refine congrArg (Value.int _) ?_)
 | (refine congrArg Value.bool ?_)))); all_goals (try unfold Side)
                all_goals try (repeat' (first | exact zb | with_reducible refine And.intro ?_ ?_))
                refine ⟨t + 1, ⟨⟨by omega, fun u hu => ?_⟩, by omega⟩, ?_⟩
                · by_cases e : u = t
                  · subst e; exact hc
                  · exact hlp u (by omega)
                · refine subF.ok ?_ <;> (conv => whnf) <;> repeat' (first
 | exact trivial
 | (with_reducible rfl)
 | ((with_reducible refine And.intro ?_ ?_) <;> conv => whnf)
 | omega
 | rfl
 | (refine congrArg (SV.arr _) ?_)
 | (refine congrArg (Value.int _) ?_)
 | (refine congrArg Value.bool ?_))
              · have hn := hn hc
                repeat' (first
 | refine W.seq ?_
 | refine W.block ?_
 | (refine W.drawPh (id := 19) tys_ok [] mixed [0, 0, 0, 4, 11, 0, 32, 80] [([0, 1, 2, 3, 5, 6], 1, 127), ([7], 0, 255)] (by decide +kernel) ?_; conv => whnf)
 | (refine W.region tys_ok [] ?_; conv => whnf)
 | (refine W.drawAll tys_ok [] mixed rfl ?_; conv => whnf)
 | (refine W.ret ?_; conv => whnf)
 | (refine W.skip ?_; conv => whnf)
 | (refine W.exit ?_; conv => whnf)
 | (refine call_at (al := false) (hne) rfl rfl rfl rfl ?_; conv => whnf)
 | (refine Both.mk ?_ ?_ <;> (conv => whnf))
 | (refine W.cond rfl (fun hb => ?_) (fun hb => ?_) <;> (try simp only [zr, zd, zm, minL, maxL, pickB, zA] at hb) <;> (try (first | (cases hb; done) | exact absurd hb (by decide) | (exfalso; omega) | (omega))))
 | ((with_reducible refine And.intro ?_ ?_); exact zc; conv => whnf)
 | ((with_reducible refine And.intro (Side.out ?_) ?_); rotate_left; (conv => whnf))
 | ((first | refine retF1 ?_ | refine retF2 ?_ | refine subF.leaf ?_ | refine subF.side ?_) <;> (conv => whnf) <;> repeat' (first
 | exact trivial
 | (with_reducible rfl)
 | ((with_reducible refine And.intro ?_ ?_) <;> conv => whnf)
 | omega
 | rfl
 | (refine congrArg (SV.arr _) ?_)
 | (refine congrArg (Value.int _) ?_)
 | (refine congrArg Value.bool ?_)))); all_goals (try unfold Side)
                all_goals try (repeat' (first | exact zb | with_reducible refine And.intro ?_ ?_))
                all_goals exact hn.symm
            · have hte : t = 24 := by omega
              subst hte
              have hy := hyes (fun i hi => hj i (by omega)) hlp hor
              repeat' (first
 | refine W.seq ?_
 | refine W.block ?_
 | (refine W.region tys_ok [] ?_; conv => whnf)
 | (refine W.drawAll tys_ok [] mixed rfl ?_; conv => whnf)
 | (refine W.ret ?_; conv => whnf)
 | (refine W.skip ?_; conv => whnf)
 | (refine W.exit ?_; conv => whnf)
 | (refine W.cond rfl (fun hb => ?_) (fun hb => ?_) <;> (try simp only [zr, zd, zm, minL, maxL, pickB, zA] at hb) <;> (try (first | (cases hb; done) | exact absurd hb (by decide) | (exfalso; omega))))
 | ((with_reducible refine And.intro ?_ ?_); exact zc; conv => whnf)
 | ((with_reducible refine And.intro (Side.out ?_) ?_); rotate_left; (conv => whnf))
 | ((first | refine retF1 ?_ | refine retF2 ?_) <;> (conv => whnf) <;> repeat' (first
 | exact trivial
 | (with_reducible rfl)
 | ((with_reducible refine And.intro ?_ ?_) <;> conv => whnf)
 | omega
 | rfl
 | (refine congrArg (SV.arr _) ?_)
 | (refine congrArg (Value.int _) ?_)
 | (refine congrArg Value.bool ?_)))); all_goals (try unfold Side)
              all_goals try (repeat' (first | exact zb | with_reducible refine And.intro ?_ ?_))
              all_goals exact hy.symm
theorem Fits_ok {P : Int} {l : List Jb} {os : List Od} {s : List Int} (h : VS P l os) (hs : s.length = l.length) : FnAt Try.prog false 37 [.agg [I64 P, .arr JT l, .arr OT os], .arr (.int .i64) s] (.tup [.lit (.bool (fitB P l os s)), .lit (.int .i64 0)]) [] := by
 have hv := valid_at (P := P) (l := l) (os := os) (by have := h.ln; omega) (by have := h.lo; omega)
 rw [validB_yes h] at hv
 have hf := fits_at (P := P) (vj_of h) h.ln.1 hs
 refine FnAt.of_body tys_ok Try.func37 (by rfl) rfl Try.ntmps37 (by rw [Try.results37]) (by simp) ?_
 repeat' (first
 | refine W.seq ?_
 | refine W.block ?_
 | (refine W.region tys_ok [] ?_; conv => whnf)
 | (refine W.drawAll tys_ok [] mixed rfl ?_; conv => whnf)
 | (refine W.ret ?_; conv => whnf)
 | (refine W.skip ?_; conv => whnf)
 | (refine W.exit ?_; conv => whnf)
 | (refine call_at (al := false) (hv) rfl rfl rfl rfl ?_; conv => whnf)
 | (refine call_at (al := false) (hf) rfl rfl rfl rfl ?_; conv => whnf)
 | (refine W.cond rfl (fun hb => ?_) (fun hb => ?_) <;> (try simp only [zr, zd, zm, minL, maxL, pickB, zA] at hb) <;> (try (first | (cases hb; done) | exact absurd hb (by decide) | (exfalso; omega) | (omega))))
 | ((with_reducible refine And.intro ?_ ?_); exact zc; conv => whnf)
 | ((with_reducible refine And.intro (Side.out ?_) ?_); rotate_left; (conv => whnf))
 | ((first | refine retF1 ?_ | refine retF2 ?_) <;> (conv => whnf) <;> repeat' (first
 | exact trivial
 | (with_reducible rfl)
 | ((with_reducible refine And.intro ?_ ?_) <;> conv => whnf)
 | omega
 | rfl
 | (refine congrArg (SV.arr _) ?_)
 | (refine congrArg (Value.int _) ?_)
 | (refine congrArg Value.bool ?_)))); all_goals (try unfold Side)
 all_goals try (repeat' (first | exact zb | with_reducible refine And.intro ?_ ?_))
open Go Go.Vc Go.Sh
theorem same_at {a b : List Int} (ha : a.length ≤ 1000) (hb : b.length ≤ 1000) : FnAt Try.prog false 9 [.arr (.int .i64) a, .arr (.int .i64) b] (.lit (.bool (decide (a = b)))) [] := by
 have hal : @List.length (Ty.int .i64).T a = a.length := rfl
 have hbl : @List.length (Ty.int .i64).T b = b.length := rfl
 have hno : a.length ≠ b.length → decide (a = b) = false := fun h => decide_eq_false fun e => h (by rw [e])
 have hno2 : ∀ i, a.getD i 0 ≠ b.getD i 0 → decide (a = b) = false := fun i h => decide_eq_false fun e => h (by rw [e])
 have hyes : a.length = b.length → (∀ i, i < a.length → a.getD i 0 = b.getD i 0) → decide (a = b) = true := fun h1 h2 => decide_eq_true (ext_get h1 h2)
 obtain ⟨D, hD⟩ : ∃ D, D = decide (a = b) := ⟨_, rfl⟩
 rw [← hD] at hno hno2 hyes ⊢
 clear hD
 refine FnAt.of_body tys_ok Try.func9 (by rfl) rfl Try.ntmps9 (by rw [Try.results9]) (by simp) ?_
 by_cases hl : a.length = b.length
 · repeat' (first
 | refine W.seq ?_
 | refine W.block ?_
 | (refine W.region tys_ok [] ?_; conv => whnf)
 | (refine W.drawAll tys_ok [] mixed rfl ?_; conv => whnf)
 | (refine W.ret ?_; conv => whnf)
 | (refine W.skip ?_; conv => whnf)
 | (refine W.exit ?_; conv => whnf)
 | (refine W.cond rfl (fun hb => ?_) (fun hb => ?_) <;> (try simp only [zr, zd, zm, minL, maxL, pickB, zA] at hb) <;> (try (first | (cases hb; done) | exact absurd hb (by decide) | (exfalso; omega) | (omega))))
 | ((with_reducible refine And.intro ?_ ?_); exact zc; conv => whnf)
 | ((with_reducible refine And.intro (Side.out ?_) ?_); rotate_left; (conv => whnf))
 | ((first | refine retF1 ?_ | refine retF2 ?_) <;> (conv => whnf) <;> repeat' (first
 | exact trivial
 | (with_reducible rfl)
 | ((with_reducible refine And.intro ?_ ?_) <;> conv => whnf)
 | omega
 | rfl
 | (refine congrArg (SV.arr _) ?_)
 | (refine congrArg (Value.int _) ?_)
 | (refine congrArg Value.bool ?_)))); all_goals (try unfold Side)
   all_goals try (repeat' (first | exact zb | with_reducible refine And.intro ?_ ?_))
   refine W.loop (fun i : Nat => ⟨[(0, .st false (.arr (.int .i64) (a : List Int))), (1, .st false (.arr (.int .i64) (b : List Int))), (5, .lit (.int .i64 (i)))], []⟩) (fun i => i ≤ a.length ∧ (∀ m, m < i → a.getD m 0 = b.getD m 0)) (fun i => a.length - i) (0) ?_ ?_
   · refine ⟨⟨Nat.zero_le _, by omega⟩, ?_⟩
     refine subF.ok ?_ <;> (conv => whnf) <;> repeat' (first
 | exact trivial
 | (with_reducible rfl)
 | ((with_reducible refine And.intro ?_ ?_) <;> conv => whnf)
 | omega
 | rfl
 | (refine congrArg (SV.arr _) ?_)
 | (refine congrArg (Value.int _) ?_)
 | (refine congrArg Value.bool ?_))
   · rintro i ⟨hi, hj⟩
     by_cases hil : i < a.length
     · by_cases hc : a.getD i 0 = b.getD i 0
       · repeat' (first
 | refine W.seq ?_
 | refine W.block ?_
 | (refine W.drawPh (id := 6) tys_ok [] mixed [0, 0, 3, 4, 0, 0, 48, 64, 136] [([0, 1, 2, 3, 4, 5, 6, 7, 8], 0, 511)] (by decide +kernel) ?_; conv => whnf)
 | (refine W.region tys_ok [] ?_; conv => whnf)
 | (refine W.drawAll tys_ok [] mixed rfl ?_; conv => whnf)
 | (refine W.ret ?_; conv => whnf)
 | (refine W.skip ?_; conv => whnf)
 | (refine W.exit ?_; conv => whnf)
 | (refine Both.mk ?_ ?_ <;> (conv => whnf))
 | (refine W.cond rfl (fun hb => ?_) (fun hb => ?_) <;> (try simp only [zr, zd, zm, minL, maxL, pickB, zA] at hb) <;> (try (first | (cases hb; done) | exact absurd hb (by decide) | (exfalso; omega) | (omega))))
 | ((with_reducible refine And.intro ?_ ?_); exact zc; conv => whnf)
 | ((with_reducible refine And.intro (Side.out ?_) ?_); rotate_left; (conv => whnf))
 | ((first | refine retF1 ?_ | refine retF2 ?_ | refine subF.leaf ?_ | refine subF.side ?_) <;> (conv => whnf) <;> repeat' (first
 | exact trivial
 | (with_reducible rfl)
 | ((with_reducible refine And.intro ?_ ?_) <;> conv => whnf)
 | omega
 | rfl
 | (refine congrArg (SV.arr _) ?_)
 | (refine congrArg (Value.int _) ?_)
 | (refine congrArg Value.bool ?_)))); all_goals (try unfold Side)
         all_goals try (repeat' (first | exact zb | with_reducible refine And.intro ?_ ?_))
         refine ⟨i + 1, ⟨⟨by omega, fun m hm => ?_⟩, by omega⟩, ?_⟩
         · by_cases e : m = i
           · subst e; exact hc
           · exact hj m (by omega)
         · refine subF.ok ?_ <;> (conv => whnf) <;> repeat' (first
 | exact trivial
 | (with_reducible rfl)
 | ((with_reducible refine And.intro ?_ ?_) <;> conv => whnf)
 | omega
 | rfl
 | (refine congrArg (SV.arr _) ?_)
 | (refine congrArg (Value.int _) ?_)
 | (refine congrArg Value.bool ?_))
       · have hn := hno2 i hc
         repeat' (first
 | refine W.seq ?_
 | refine W.block ?_
 | (refine W.drawPh (id := 6) tys_ok [] mixed [0, 0, 3, 4, 0, 0, 48, 64, 136] [([0, 1, 2, 3, 4, 5, 6, 7, 8], 0, 511)] (by decide +kernel) ?_; conv => whnf)
 | (refine W.region tys_ok [] ?_; conv => whnf)
 | (refine W.drawAll tys_ok [] mixed rfl ?_; conv => whnf)
 | (refine W.ret ?_; conv => whnf)
 | (refine W.skip ?_; conv => whnf)
 | (refine W.exit ?_; conv => whnf)
 | (refine Both.mk ?_ ?_ <;> (conv => whnf))
 | (refine W.cond rfl (fun hb => ?_) (fun hb => ?_) <;> (try simp only [zr, zd, zm, minL, maxL, pickB, zA] at hb) <;> (try (first | (cases hb; done) | exact absurd hb (by decide) | (exfalso; omega) | (omega))))
 | ((with_reducible refine And.intro ?_ ?_); exact zc; conv => whnf)
 | ((with_reducible refine And.intro (Side.out ?_) ?_); rotate_left; (conv => whnf))
 | ((first | refine retF1 ?_ | refine retF2 ?_ | refine subF.leaf ?_ | refine subF.side ?_) <;> (conv => whnf) <;> repeat' (first
 | exact trivial
 | (with_reducible rfl)
 | ((with_reducible refine And.intro ?_ ?_) <;> conv => whnf)
 | omega
 | rfl
 | (refine congrArg (SV.arr _) ?_)
 | (refine congrArg (Value.int _) ?_)
 | (refine congrArg Value.bool ?_)))); all_goals (try unfold Side)
         all_goals try (repeat' (first | exact zb | with_reducible refine And.intro ?_ ?_))
         all_goals exact hn.symm
     · have hie : a.length = i := by omega
       subst hie
       have hy := hyes hl hj
       repeat' (first
 | refine W.seq ?_
 | refine W.block ?_
 | (refine W.region tys_ok [] ?_; conv => whnf)
 | (refine W.drawAll tys_ok [] mixed rfl ?_; conv => whnf)
 | (refine W.ret ?_; conv => whnf)
 | (refine W.skip ?_; conv => whnf)
 | (refine W.exit ?_; conv => whnf)
 | (refine W.cond rfl (fun hb => ?_) (fun hb => ?_) <;> (try simp only [zr, zd, zm, minL, maxL, pickB, zA] at hb) <;> (try (first | (cases hb; done) | exact absurd hb (by decide) | (exfalso; omega))))
 | ((with_reducible refine And.intro ?_ ?_); exact zc; conv => whnf)
 | ((with_reducible refine And.intro (Side.out ?_) ?_); rotate_left; (conv => whnf))
 | ((first | refine retF1 ?_ | refine retF2 ?_) <;> (conv => whnf) <;> repeat' (first
 | exact trivial
 | (with_reducible rfl)
 | ((with_reducible refine And.intro ?_ ?_) <;> conv => whnf)
 | omega
 | rfl
 | (refine congrArg (SV.arr _) ?_)
 | (refine congrArg (Value.int _) ?_)
 | (refine congrArg Value.bool ?_)))); all_goals (try unfold Side)
       all_goals try (repeat' (first | exact zb | with_reducible refine And.intro ?_ ?_))
       all_goals exact hy.symm
 · have hn := hno hl
   repeat' (first
 | refine W.seq ?_
 | refine W.block ?_
 | (refine W.region tys_ok [] ?_; conv => whnf)
 | (refine W.drawAll tys_ok [] mixed rfl ?_; conv => whnf)
 | (refine W.ret ?_; conv => whnf)
 | (refine W.skip ?_; conv => whnf)
 | (refine W.exit ?_; conv => whnf)
 | (refine W.cond rfl (fun hb => ?_) (fun hb => ?_) <;> (try simp only [zr, zd, zm, minL, maxL, pickB, zA] at hb) <;> (try (first | (cases hb; done) | exact absurd hb (by decide) | (exfalso; omega) | (omega))))
 | ((with_reducible refine And.intro ?_ ?_); exact zc; conv => whnf)
 | ((with_reducible refine And.intro (Side.out ?_) ?_); rotate_left; (conv => whnf))
 | ((first | refine retF1 ?_ | refine retF2 ?_) <;> (conv => whnf) <;> repeat' (first
 | exact trivial
 | (with_reducible rfl)
 | ((with_reducible refine And.intro ?_ ?_) <;> conv => whnf)
 | omega
 | rfl
 | (refine congrArg (SV.arr _) ?_)
 | (refine congrArg (Value.int _) ?_)
 | (refine congrArg Value.bool ?_)))); all_goals (try unfold Side)
   all_goals try (repeat' (first | exact zb | with_reducible refine And.intro ?_ ?_))
   all_goals exact hn.symm
open Int renaming reduceToNat → zr, reduceTDiv → zd, reduceTMod → zm
open Go Go.Vc Go.Sh Go.Tp Go.Ov
theorem subJ_take {l : List Jb} {c : List Nat} {k : Nat} (h : k < c.length) : subJ l (c.take (k + 1)) = subJ l (c.take k) ++ [l.getD (c.getD k 0) J0] := by
 have e : c[k]? = some (c.getD k 0) := by rw [List.getD_eq_getElem?_getD, List.getElem?_eq_getElem h]; rfl
 rw [List.take_add_one, e]
 unfold subJ
 rw [List.map_append]; rfl
theorem stJ_take {l : List Jb} {c : List Nat} {k : Nat} (h : k < c.length) : stJ l (c.take (k + 1)) = stJ l (c.take k) ++ [jf l (c.getD k 0)] := by
 have e : c[k]? = some (c.getD k 0) := by rw [List.getD_eq_getElem?_getD, List.getElem?_eq_getElem h]; rfl
 rw [List.take_add_one, e]
 unfold stJ
 rw [List.map_append]; rfl
set_option maxHeartbeats 8000000 in
theorem topfits_at {l : List Jb} {c : List Nat} (h : OJ l) (hl : l.length ≤ 6) (hc : NmOk l c) (hcl : c.length ≤ 6) : FnAt Try.prog false 15 [.arr JT l, .arr (.int .i64) (zN c : List Int)] (.lit (.bool (fitsT l c))) [] := by
 have hzl : @List.length (Ty.int .i64).T (zN c) = c.length := zN_len
 have hjl : @List.length JT.T l = l.length := rfl
 refine FnAt.of_body tys_ok Try.func15 (by rfl) rfl Try.ntmps15 (by rw [Try.results15]) (by simp) ?_
 repeat' (first
 | refine W.seq ?_
 | refine W.block ?_
 | (refine W.region tys_ok [] ?_; conv => whnf)
 | (refine W.drawAll tys_ok [] mixed rfl ?_; conv => whnf)
 | (refine W.ret ?_; conv => whnf)
 | (refine W.skip ?_; conv => whnf)
 | (refine W.exit ?_; conv => whnf)
 | (refine W.cond rfl (fun hb => ?_) (fun hb => ?_) <;> (try simp only [zr, zd, zm, minL, maxL, pickB, zA] at hb) <;> (try (first | (cases hb; done) | exact absurd hb (by decide) | (exfalso; omega) | (omega))))
 | ((with_reducible refine And.intro ?_ ?_); exact zc; conv => whnf)
 | ((with_reducible refine And.intro (Side.out ?_) ?_); rotate_left; (conv => whnf))
 | ((first | refine retF1 ?_ | refine retF2 ?_) <;> (conv => whnf) <;> repeat' (first
 | exact trivial
 | (with_reducible rfl)
 | ((with_reducible refine And.intro ?_ ?_) <;> conv => whnf)
 | omega
 | rfl
 | (refine congrArg (SV.arr _) ?_)
 | (refine congrArg (Value.int _) ?_)
 | (refine congrArg Value.bool ?_)))); all_goals (try unfold Side)
 all_goals try (repeat' (first | exact zb | with_reducible refine And.intro ?_ ?_))
 refine W.loop (fun k : Nat => ⟨[(0, .st false (.arr JT l)), (1, .st false (.arr (.int .i64) (zN c : List Int))), (5, .padr 6000 0), (6, .own 7000), (7, (.lit (.int .i64 (k : Int))))], [(6000, .box [(.lit (.int .i64 (1 : Int))), .own 6001, .lit (.slice none 0 0)]), (6001, .row 30 JT true (subJ l (c.take k))), (7000, .row 3 (.int .i64) true (stJ l (c.take k)))]⟩) (fun k => k ≤ c.length) (fun k => c.length - k) (0) ?_ ?_
 · refine ⟨Nat.zero_le _, ?_⟩
   refine subF.ok ?_ <;> (conv => whnf) <;> repeat' (first
 | exact trivial
 | (with_reducible rfl)
 | ((with_reducible refine And.intro ?_ ?_) <;> conv => whnf)
 | omega
 | rfl
 | (refine congrArg (SV.arr _) ?_)
 | (refine congrArg (Value.int _) ?_)
 | (refine congrArg Value.bool ?_))
 · intro k hk
   by_cases hkc : k < c.length
   · have hg : (zN c).getD k 0 = ((c.getD k 0 : Nat) : Int) := zN_get
     have hm := hc k hkc
     have t1 := subJ_take (l := l) hkc
     have t2 := stJ_take (l := l) hkc
     obtain ⟨i, hi⟩ : ∃ i, i = c.getD k 0 := ⟨_, rfl⟩
     rw [← hi] at hg hm t1 t2
     have n1 : (subJ l (c.take k)).length ≤ 6 := by rw [subJ_len, List.length_take]; omega
     have n2 : (stJ l (c.take k)).length ≤ 6 := by rw [stJ_len, List.length_take]; omega
     have r1 : subJ l (c.take k) ++ [l.getD (Int.toNat ((zN c).getD k 0)) J0] = subJ l (c.take (k + 1)) := by rw [hg, Int.toNat_natCast]; exact t1.symm
     have r2 : stJ l (c.take k) ++ [(l.getD (Int.toNat ((zN c).getD k 0)) J0).1] = stJ l (c.take (k + 1)) := by rw [hg, Int.toNat_natCast]; exact t2.symm
     repeat' (first
 | refine W.seq ?_
 | refine W.block ?_
 | (refine W.drawPhTo (id := 7) tys_ok [] mixed [0, 1, 0, 0, 0, 24, 32, 68, 128, 256, 514, 0, 0, 0, 0, 24576, 32768, 69632, 131072, 262144, 524288, 1051648, 2047, 6293503, 16777215] [([0, 2, 3, 4, 5, 6, 7, 8, 11, 12, 13, 14, 15, 16, 17, 18, 19], 6, 8388607), ([], 1, 16777215), ([24], 0, 33554431)] ⟨[(0, .st false (.arr JT l)), (1, .st false (.arr (.int .i64) (zN c : List Int))), (5, .padr 6000 0), (6, .own 7000), (7, (.lit (.int .i64 (k : Int))))], [(6000, .box [(.lit (.int .i64 (1 : Int))), .own 6001, .lit (.slice none 0 0)]), (6001, .row 30 JT true (subJ l (c.take (k + 1)))), (7000, .row 3 (.int .i64) true (stJ l (c.take (k + 1))))]⟩ (by decide +kernel) ?_ ?_ <;> (conv => whnf))
 | (refine W.region tys_ok [] ?_; conv => whnf)
 | (refine W.drawAll tys_ok [] mixed rfl ?_; conv => whnf)
 | (refine W.ret ?_; conv => whnf)
 | (refine W.skip ?_; conv => whnf)
 | (refine W.exit ?_; conv => whnf)
 | (refine Both.mk ?_ ?_ <;> (conv => whnf))
 | (refine W.cond rfl (fun hb => ?_) (fun hb => ?_) <;> (try simp only [zr, zd, zm, minL, maxL, pickB, zA] at hb) <;> (try (first | (cases hb; done) | exact absurd hb (by decide) | (exfalso; omega) | (omega))))
 | ((with_reducible refine And.intro ?_ ?_); exact zc; conv => whnf)
 | ((with_reducible refine And.intro (Side.out ?_) ?_); rotate_left; (conv => whnf))
 | ((first | refine retF1 ?_ | refine retF2 ?_ | refine subF.leaf ?_ | refine subF.side ?_) <;> (conv => whnf) <;> repeat' (first
 | exact trivial
 | (with_reducible rfl)
 | ((with_reducible refine And.intro ?_ ?_) <;> conv => whnf)
 | omega
 | rfl
 | (refine congrArg (SV.arr _) ?_)
 | (refine congrArg (Value.int _) ?_)
 | (refine congrArg Value.bool ?_)))); all_goals (try unfold Side)
     all_goals first | exact r1 | exact r2 | (show ((subJ l (c.take k)).length + 1).le 4294967296; exact (by omega : (subJ l (c.take k)).length + 1 ≤ 4294967296)) | (show ((stJ l (c.take k)).length + 1).le 4294967296; exact (by omega : (stJ l (c.take k)).length + 1 ≤ 4294967296)) | skip
     all_goals try (repeat' (first | exact zb | with_reducible refine And.intro ?_ ?_))
     refine ⟨k + 1, ⟨by omega, by omega⟩, ?_⟩
     refine subF.ok ?_ <;> (conv => whnf) <;> repeat' (first
 | exact trivial
 | (with_reducible rfl)
 | ((with_reducible refine And.intro ?_ ?_) <;> conv => whnf)
 | omega
 | rfl
 | (refine congrArg (SV.arr _) ?_)
 | (refine congrArg (Value.int _) ?_)
 | (refine congrArg Value.bool ?_))
   · have hke : k = c.length := by omega
     subst hke
     rw [List.take_length]
     by_cases h0 : c.length = 0
     · have e0 : fitsT l c = true := if_pos h0
       rw [e0]
       repeat' (first
 | refine W.seq ?_
 | refine W.block ?_
 | (refine W.region tys_ok [] ?_; conv => whnf)
 | (refine W.drawAll tys_ok [] mixed rfl ?_; conv => whnf)
 | (refine W.ret ?_; conv => whnf)
 | (refine W.skip ?_; conv => whnf)
 | (refine W.exit ?_; conv => whnf)
 | (refine W.cond rfl (fun hb => ?_) (fun hb => ?_) <;> (try simp only [zr, zd, zm, minL, maxL, pickB, zA] at hb) <;> (try (first | (cases hb; done) | exact absurd hb (by decide) | (exfalso; omega) | (omega))))
 | ((with_reducible refine And.intro ?_ ?_); exact zc; conv => whnf)
 | ((with_reducible refine And.intro (Side.out ?_) ?_); rotate_left; (conv => whnf))
 | ((first | refine retF1 ?_ | refine retF2 ?_) <;> (conv => whnf) <;> repeat' (first
 | exact trivial
 | (with_reducible rfl)
 | ((with_reducible refine And.intro ?_ ?_) <;> conv => whnf)
 | omega
 | rfl
 | (refine congrArg (SV.arr _) ?_)
 | (refine congrArg (Value.int _) ?_)
 | (refine congrArg Value.bool ?_)))); all_goals (try unfold Side)
       all_goals try (repeat' (first | exact zb | with_reducible refine And.intro ?_ ?_))
     · have c1 := Fits_ok (s := stJ l c) (vs_sub h hc (by omega) hcl) (by rw [subJ_len, stJ_len])
       have e0 : fitsT l c = fitB 1 (subJ l c) [] (stJ l c) := if_neg h0
       rw [← e0] at c1
       obtain ⟨r, hr⟩ : ∃ r, r = fitsT l c := ⟨_, rfl⟩
       rw [← hr] at c1 ⊢
       repeat' (first
 | refine W.seq ?_
 | refine W.block ?_
 | (refine W.resub (x := Code.region 10 _ _) (Γ' := ⟨[(5, .st true (.sadr (.agg [I64 1, .arr JT (subJ l c), .arr OT []]))), (6, .st true (.arr (.int .i64) (stJ l c : List Int)))], []⟩) ?_ (W.region tys_ok [] ?_); rotate_left; (conv => whnf))
 | (refine W.region tys_ok [] ?_; conv => whnf)
 | (refine W.drawAll tys_ok [] mixed rfl ?_; conv => whnf)
 | (refine W.ret ?_; conv => whnf)
 | (refine W.skip ?_; conv => whnf)
 | (refine W.exit ?_; conv => whnf)
 | (refine call_at (al := false) (c1) rfl rfl rfl rfl ?_; conv => whnf)
 | (refine W.cond rfl (fun hb => ?_) (fun hb => ?_) <;> (try simp only [zr, zd, zm, minL, maxL, pickB, zA] at hb) <;> (try (first | (cases hb; done) | exact absurd hb (by decide) | (exfalso; omega) | (omega))))
 | ((with_reducible refine And.intro ?_ ?_); exact zc; conv => whnf)
 | ((with_reducible refine And.intro (Side.out ?_) ?_); rotate_left; (conv => whnf))
 | ((first | refine retF1 ?_ | refine retF2 ?_) <;> (conv => whnf) <;> repeat' (first
 | exact trivial
 | (with_reducible rfl)
 | ((with_reducible refine And.intro ?_ ?_) <;> conv => whnf)
 | omega
 | rfl
 | (refine congrArg (SV.arr _) ?_)
 | (refine congrArg (Value.int _) ?_)
 | (refine congrArg Value.bool ?_)))); all_goals (try unfold Side)
       all_goals try refine subF.ok ?_ <;> (conv => whnf) <;> repeat' (first
 | exact trivial
 | (with_reducible rfl)
 | ((with_reducible refine And.intro ?_ ?_) <;> conv => whnf)
 | omega
 | rfl
 | (refine congrArg (SV.arr _) ?_)
 | (refine congrArg (Value.int _) ?_)
 | (refine congrArg Value.bool ?_))
       all_goals try (repeat' (first | exact zb | with_reducible refine And.intro ?_ ?_))
       all_goals first | (cases r <;> rfl) | skip
end Go.Proofs.Ytckmhlpngolbpaa
namespace Go.Vc
theorem W.joinTo {P : Program} {n : Nat} {Q : Exit → Sy → Prop} {Γ : Sy} {t : Nat} {u x y z : Code} (Γ' : Sy) (h1 : W P n (.seq u (.cond (.tmp t) x y)) Γ (thenQ (fun Γ1 => Leaf (Sub Γ1 Γ' (mkRen Γ1 Γ'))) Q)) (h2 : W P n z Γ' Q) : W P n (.seq (.seq u (.cond (.tmp t) x y)) z) Γ Q := by
 refine W.seq ⟨fun c g a w hn hst => wp_mono (h1.out c g a w hn hst) fun e a' w' hq => ?_⟩
 obtain ⟨Γ1, g', h3, h4⟩ := hq
 cases e with
 | normal => exact ⟨Γ1, g', (let ⟨h5⟩ := h3; W.sub h5 h2), h4⟩
 | _ => exact ⟨Γ1, g', h3, h4⟩
end Go.Vc
