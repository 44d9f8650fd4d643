/- Joined of: H30. No condition. -/
import Derived.Test.YtmfholchenihaaaJ8
import Derived.Test.YtmfholchenihaaaJ11

namespace Go.Proofs.Ytmfholchenihaaa
open Go Go.Vc Go.Sh
set_option linter.unusedVariables false
set_option linter.unusedSimpArgs false
theorem sm4_wf {x : List Jb} (h : (Ty.sl U4).wf x) : sm4 x := fun i => by
  have h2 : ∀ y ∈ x, U4.wf y := h.2
  by_cases hi : i < x.length
  · have h3 := h2 _ (getD_mem (d := J0) hi)
    exact ⟨wf_u8 h3.1, wf_u8 h3.2.1, wf_u8 h3.2.2.1, wf_u8 h3.2.2.2.1⟩
  · have : x.getD i J0 = J0 := by simp [List.getD, List.getElem?_eq_none (Nat.le_of_not_lt hi)]
    rw [this]; decide
theorem sm2_wf {y : List Od} (h : (Ty.sl U2).wf y) : sm2 y := fun i => by
  have h2 : ∀ z ∈ y, U2.wf z := h.2
  by_cases hi : i < y.length
  · have h3 := h2 _ (getD_mem (d := O0) hi)
    exact ⟨wf_u8 h3.1, wf_u8 h3.2.1⟩
  · have : y.getD i O0 = O0 := by simp [List.getD, List.getElem?_eq_none (Nat.le_of_not_lt hi)]
    rw [this]; decide
theorem made_eq {p Q : Int} {x J : List Jb} {y O : List Od} (hp : 0 ≤ p ∧ p ≤ 255) (hx : sm4 x) (hy : sm2 y) (hQ : Q = p % 6 + 1) (hJ : J = mkJs x) (hO : O = mkOs J.length y) :
    VS Q J O ∧ (1 ≤ Q ∧ Q ≤ 6) ∧ FnAt Try.prog false 27 [.agg [.lit (.int .u8 p), .arr U4 x, .arr U2 y]] (.strct [.lit (.int .i64 Q), .own 0, .own 1]) [(0, .row 45 JT true J), (1, .row 79 OT true O)] := by
  subst hQ hO hJ
  exact ⟨mk_vs (by omega), by omega, made_at hp hx hy⟩
theorem over_no {P : Int} {l : List Jb} {os : List Od} (h : VS P l os) (ho : ovB P l = true) {s : List Int} : ¬ Fit P l os s := fun hs => by
  have hb : badB P l os = true := by unfold badB; rw [← ovB_over, ho]; rfl
  exact bad_none h.pre hb hs
set_option maxHeartbeats 16000000 in
theorem ShaftOver_at {p a b : Int} {x : List Jb} {y : List Od} (hp : 0 ≤ p ∧ p ≤ 255) (hx : sm4 x) (hy : sm2 y) (ha : 0 ≤ a ∧ a ≤ 255) (hb : 0 ≤ b ∧ b ≤ 255) : FnAt Try.prog false 13 [.agg [.lit (.int .u8 p), .arr U4 x, .arr U2 y], .lit (.int .u8 a), .lit (.int .u8 b)] (.lit (.bool true)) [] := by
  obtain ⟨P, hP⟩ : ∃ P, P = p % 6 + 1 := ⟨_, rfl⟩
  obtain ⟨l, hl⟩ : ∃ l, l = mkJs x := ⟨_, rfl⟩
  obtain ⟨os, hos⟩ : ∃ os, os = mkOs l.length y := ⟨_, rfl⟩
  obtain ⟨h, hP6, hmk⟩ := made_eq hp hx hy hP hl hos
  clear hP hl hos
  obtain ⟨f, hf⟩ : ∃ f : Nat, (f : Int) = a % 24 := ⟨(a % 24).toNat, by omega⟩
  obtain ⟨d, hd⟩ : ∃ d : Nat, (d : Int) = b % (24 - (f : Int)) := ⟨(b % (24 - (f : Int))).toNat, by have := Int.emod_nonneg b (b := 24 - (f : Int)) (by omega); omega⟩
  have hfl : f < 24 := by omega
  have hdl : f + d < 24 := by have := Int.emod_lt_of_pos b (b := 24 - (f : Int)) (by omega); omega
  have ea : Int.tmod a 24 = f := by rw [tm ha.1, hf]
  have eb : Int.tmod b (24 - (f : Int)) = d := by rw [tm hb.1, hd]
  have eab : Int.tmod b (24 - Int.tmod a 24) = d := by rw [ea, eb]
  have hn := Needs_ok (P := P) (l := l) (os := os) (a := f) (b := (f : Int) + 1 + d) h (by omega)
  have ik1 : InK .i64 a := by simp only [InK]; omega
  have ik2 : InK .i64 b := by simp only [InK]; omega
  rcases first_spec h with ⟨h1, h2⟩ | ⟨h1, h2, h3⟩
  · have c1 := First_none h h1
    cases e : ovB P l with
    | true =>
      have c2 := Overfull_yes h e
      refine FnAt.of_body tys_ok Try.func13 (by rfl) rfl Try.ntmps13 (by rw [Try.results13]) (by simp) ?_
  
      repeat' (first
 | refine W.seq ?_
 | refine W.block ?_
 | (refine W.resub (x := Code.region 2 _ _) (Γ' := ⟨[(1, .lit (.int .u8 a)), (2, .lit (.int .u8 b)), (7, .st true (.sadr (.agg [I64 P, .arr JT l, .arr OT os])))], []⟩) ?_ (W.region tys_ok [] ?_); rotate_left; (conv => whnf))
 | (refine W.resub (x := Code.region 6 _ _) (Γ' := ⟨[(1, .lit (.int .u8 a)), (2, .lit (.int .u8 b)), (7, .st true (.sadr (.agg [I64 P, .arr JT l, .arr OT os]))), (8, .st true (.narr (.int .i64) ([] : List Int))), (9, .lit (.int .i64 (5))), (12, .lit (.int .i64 (0))), (13, .lit (.int .i64 (f))), (14, .lit (.int .i64 (((f : Int) + 1 + d))))], []⟩) ?_ (W.region tys_ok [] ?_); rotate_left; (conv => whnf))
 | (refine W.region tys_ok [] ?_; conv => whnf)
 | (refine W.drawAll tys_ok [] mixed rfl ?_; conv => whnf)
 | (refine W.ret ?_; conv => whnf)
 | (refine W.skip ?_; conv => whnf)
 | (refine W.exit ?_; conv => whnf)
 | (refine call_at (al := false) (hmk) rfl rfl rfl rfl ?_; conv => whnf)
 | (refine call_at (al := true) (c1) rfl rfl rfl rfl ?_; conv => whnf)
 | (refine call_at (al := false) (c2) rfl rfl rfl rfl ?_; conv => whnf)
 | (refine call_at (al := false) (hn) rfl rfl rfl rfl ?_; conv => whnf)
 | (refine call_at (al := false) (lives_at) rfl rfl rfl rfl ?_; conv => whnf)
 | (refine W.cond rfl (fun hb => ?_) (fun hb => ?_) <;> (try simp only [Int.reduceToNat, Int.reduceTDiv, Int.reduceTMod, minL, maxL, pickB, zHB, zSH] at hb) <;> (try (first | (cases hb; done) | exact absurd hb (by decide) | (exfalso; omega) | (omega))))
 | ((with_reducible refine And.intro ?_ ?_); (focus (first | (with_reducible rfl) | omega | rfl | ((try simp only [Int.reduceToNat, Int.reduceTDiv, Int.reduceTMod, minL, maxL, pickB, zHB, zSH, InK, Path.imp, zL] at *); omega))); (conv => whnf))
 | ((with_reducible refine And.intro (Side.out ?_) ?_); rotate_left; (conv => whnf))
 | ((first | refine retF1 ?_ | refine retF2 ?_) <;> (conv => whnf) <;> repeat' (first
 | exact trivial
 | (with_reducible rfl)
 | ((with_reducible refine And.intro ?_ ?_) <;> conv => whnf)
 | omega
 | rfl
 | (refine congrArg (SV.arr _) ?_)
 | (refine congrArg (Value.int _) ?_)
 | (refine congrArg Value.bool ?_)))); all_goals (try unfold Side)
      all_goals try (repeat' (first | (with_reducible rfl) | (with_reducible refine And.intro ?_ ?_) | omega | rfl | exact Or.inl rfl | exact Or.inr rfl | exact of_decide_eq_true rfl | exact Path.imp_of (of_decide_eq_true rfl) | (focus ((try simp only [Int.reduceToNat, Int.reduceTDiv, Int.reduceTMod, minL, maxL, pickB, zHB, zSH, InK, Path.imp, zL] at *); omega)) | (refine app_le rfl ?_; omega)))
      all_goals try (first | exact Path.imp_of ik1 | exact Path.imp_of ik2)
      all_goals try refine subF.ok ?_ <;> (conv => whnf) <;> repeat' (first
 | exact trivial
 | (with_reducible rfl)
 | ((with_reducible refine And.intro ?_ ?_) <;> conv => whnf)
 | omega
 | rfl
 | (refine congrArg (SV.arr _) ?_)
 | (refine congrArg (Value.int _) ?_)
 | (refine congrArg Value.bool ?_))
    | false =>
      have c2 := Overfull_none h e
      refine FnAt.of_body tys_ok Try.func13 (by rfl) rfl Try.ntmps13 (by rw [Try.results13]) (by simp) ?_
  
      repeat' (first
 | refine W.seq ?_
 | refine W.block ?_
 | (refine W.resub (x := Code.region 2 _ _) (Γ' := ⟨[(1, .lit (.int .u8 a)), (2, .lit (.int .u8 b)), (7, .st true (.sadr (.agg [I64 P, .arr JT l, .arr OT os])))], []⟩) ?_ (W.region tys_ok [] ?_); rotate_left; (conv => whnf))
 | (refine W.resub (x := Code.region 6 _ _) (Γ' := ⟨[(1, .lit (.int .u8 a)), (2, .lit (.int .u8 b)), (7, .st true (.sadr (.agg [I64 P, .arr JT l, .arr OT os]))), (8, .st true (.narr (.int .i64) ([] : List Int))), (9, .lit (.int .i64 (5))), (12, .lit (.int .i64 (5))), (13, .lit (.int .i64 (f))), (14, .lit (.int .i64 (((f : Int) + 1 + d))))], []⟩) ?_ (W.region tys_ok [] ?_); rotate_left; (conv => whnf))
 | (refine W.region tys_ok [] ?_; conv => whnf)
 | (refine W.drawAll tys_ok [] mixed rfl ?_; conv => whnf)
 | (refine W.ret ?_; conv => whnf)
 | (refine W.skip ?_; conv => whnf)
 | (refine W.exit ?_; conv => whnf)
 | (refine call_at (al := false) (hmk) rfl rfl rfl rfl ?_; conv => whnf)
 | (refine call_at (al := true) (c1) rfl rfl rfl rfl ?_; conv => whnf)
 | (refine call_at (al := false) (c2) rfl rfl rfl rfl ?_; conv => whnf)
 | (refine call_at (al := false) (hn) rfl rfl rfl rfl ?_; conv => whnf)
 | (refine call_at (al := false) (lives_at) rfl rfl rfl rfl ?_; conv => whnf)
 | (refine W.cond rfl (fun hb => ?_) (fun hb => ?_) <;> (try simp only [Int.reduceToNat, Int.reduceTDiv, Int.reduceTMod, minL, maxL, pickB, zHB, zSH] at hb) <;> (try (first | (cases hb; done) | exact absurd hb (by decide) | (exfalso; omega) | (omega))))
 | ((with_reducible refine And.intro ?_ ?_); (focus (first | (with_reducible rfl) | omega | rfl | ((try simp only [Int.reduceToNat, Int.reduceTDiv, Int.reduceTMod, minL, maxL, pickB, zHB, zSH, InK, Path.imp, zL] at *); omega))); (conv => whnf))
 | ((with_reducible refine And.intro (Side.out ?_) ?_); rotate_left; (conv => whnf))
 | ((first | refine retF1 ?_ | refine retF2 ?_) <;> (conv => whnf) <;> repeat' (first
 | exact trivial
 | (with_reducible rfl)
 | ((with_reducible refine And.intro ?_ ?_) <;> conv => whnf)
 | omega
 | rfl
 | (refine congrArg (SV.arr _) ?_)
 | (refine congrArg (Value.int _) ?_)
 | (refine congrArg Value.bool ?_)))); all_goals (try unfold Side)
      all_goals try (repeat' (first | (with_reducible rfl) | (with_reducible refine And.intro ?_ ?_) | omega | rfl | exact Or.inl rfl | exact Or.inr rfl | exact of_decide_eq_true rfl | exact Path.imp_of (of_decide_eq_true rfl) | (focus ((try simp only [Int.reduceToNat, Int.reduceTDiv, Int.reduceTMod, minL, maxL, pickB, zHB, zSH, InK, Path.imp, zL] at *); omega)) | (refine app_le rfl ?_; omega)))
      all_goals try (first | exact Path.imp_of ik1 | exact Path.imp_of ik2)
      all_goals try refine subF.ok ?_ <;> (conv => whnf) <;> repeat' (first
 | exact trivial
 | (with_reducible rfl)
 | ((with_reducible refine And.intro ?_ ?_) <;> conv => whnf)
 | omega
 | rfl
 | (refine congrArg (SV.arr _) ?_)
 | (refine congrArg (Value.int _) ?_)
 | (refine congrArg Value.bool ?_))
  · obtain ⟨r, hr⟩ : ∃ r, r = firstT P l os := ⟨_, rfl⟩
    rw [← hr] at h1 h2 h3
    have c1 := First_ok h hr.symm h1
    have e : ovB P l = false := by
      cases e : ovB P l with
      | false => rfl
      | true => exact absurd h2 (over_no h e)
    have c2 := Overfull_none h e
    obtain ⟨r1, r2, r3⟩ := fit_rg h h2
    have c3 := Load_ok h r1 r3
    have hLl : @List.length (Ty.int .i64).T (loadL l r 24) = 24 := loadL_len
    have hLg := fun t (ht : t < 24) => loadL_get (l := l) (s := r) ht
    have hld := fun t (ht : t < 24) => fit_ld h h2 ht
    have hneed := needs_le h2 (fun m hm => by have := (bd_of h).rg m hm; omega) (a := f) (k := d + 1)
    rw [show (f : Int) + ((d + 1 : Nat) : Int) = (f : Int) + 1 + d by omega] at hneed
    obtain ⟨S, hS⟩ : ∃ S : Nat → Int, S = sumZ (fun i => loadT l r ((f : Int) + (i : Int))) := ⟨_, rfl⟩
    have hS0 : S 0 = 0 := by rw [hS]; rfl
    have hSr : ∀ k, k ≤ d + 1 → 0 ≤ S k ∧ S k ≤ 20 * k := fun k hk => by
      rw [hS]
      have := sumZ_rg (f := fun i : Nat => loadT l r ((f : Int) + (i : Int))) (c := 20) (n := d + 1) (by omega) (fun i hi => by
        have := hld (f + i) (by omega)
        rw [show ((f + i : Nat) : Int) = (f : Int) + (i : Int) by omega] at this
        omega) hk
      exact this
    have hSs : ∀ k, S k + loadT l r ((f + k : Nat) : Int) = S (k + 1) := fun k => by
      rw [hS, sumZ, show ((f + k : Nat) : Int) = (f : Int) + (k : Int) by omega]
    rw [← hS] at hneed
    obtain ⟨N, hN⟩ : ∃ N, N = needsT l f ((f : Int) + 1 + d) := ⟨_, rfl⟩
    rw [← hN] at hneed hn
    obtain ⟨L, hL⟩ : ∃ L, L = loadL l r 24 := ⟨_, rfl⟩
    rw [← hL] at hLl hLg c3
    clear hS hN hL h3
    refine FnAt.of_body tys_ok Try.func13 (by rfl) rfl Try.ntmps13 (by rw [Try.results13]) (by simp) ?_
  
    repeat' (first
 | refine W.seq ?_
 | refine W.block ?_
 | (refine W.resub (x := Code.region 2 _ _) (Γ' := ⟨[(1, .lit (.int .u8 a)), (2, .lit (.int .u8 b)), (7, .st true (.sadr (.agg [I64 P, .arr JT l, .arr OT os])))], []⟩) ?_ (W.region tys_ok [] ?_); rotate_left; (conv => whnf))
 | (refine W.resub (x := Code.region 6 _ _) (Γ' := ⟨[(1, .lit (.int .u8 a)), (2, .lit (.int .u8 b)), (7, .st true (.sadr (.agg [I64 P, .arr JT l, .arr OT os]))), (8, .st true (.narr (.int .i64) (r : List Int))), (9, .lit (.int .i64 (0))), (12, .lit (.int .i64 (5))), (13, .lit (.int .i64 (f))), (14, .lit (.int .i64 (((f : Int) + 1 + d))))], []⟩) ?_ (W.region tys_ok [] ?_); rotate_left; (conv => whnf))
 | (refine W.resub (x := Code.region 11 _ _) (Γ' := ⟨[(1, .lit (.int .u8 a)), (2, .lit (.int .u8 b)), (7, .st true (.sadr (.agg [I64 P, .arr JT l, .arr OT os]))), (8, .st true (.arr (.int .i64) (r : List Int))), (13, .lit (.int .i64 (f))), (14, .lit (.int .i64 (((f : Int) + 1 + d)))), (15, .lit (.int .i64 (N)))], []⟩) ?_ (W.region tys_ok [] ?_); rotate_left; (conv => whnf))
 | (refine W.region tys_ok [] ?_; conv => whnf)
 | (refine W.drawAll tys_ok [] mixed rfl ?_; conv => whnf)
 | (refine W.ret ?_; conv => whnf)
 | (refine W.skip ?_; conv => whnf)
 | (refine W.exit ?_; conv => whnf)
 | (refine call_at (al := false) (hmk) rfl rfl rfl rfl ?_; conv => whnf)
 | (refine call_at (al := true) (c1) rfl rfl rfl rfl ?_; conv => whnf)
 | (refine call_at (al := false) (c2) rfl rfl rfl rfl ?_; conv => whnf)
 | (refine call_at (al := false) (hn) rfl rfl rfl rfl ?_; conv => whnf)
 | (refine call_at (al := false) (lives_at) rfl rfl rfl rfl ?_; conv => whnf)
 | (refine call_at (al := false) (c3) rfl rfl rfl rfl ?_; conv => whnf)
 | (refine W.cond rfl (fun hb => ?_) (fun hb => ?_) <;> (try simp only [Int.reduceToNat, Int.reduceTDiv, Int.reduceTMod, minL, maxL, pickB, zHB, zSH] at hb) <;> (try (first | (cases hb; done) | exact absurd hb (by decide) | (exfalso; omega) | (omega))))
 | ((with_reducible refine And.intro ?_ ?_); (focus (first | (with_reducible rfl) | omega | rfl | ((try simp only [Int.reduceToNat, Int.reduceTDiv, Int.reduceTMod, minL, maxL, pickB, zHB, zSH, InK, Path.imp, zL] at *); omega))); (conv => whnf))
 | ((with_reducible refine And.intro (Side.out ?_) ?_); rotate_left; (conv => whnf))
 | ((first | refine retF1 ?_ | refine retF2 ?_) <;> (conv => whnf) <;> repeat' (first
 | exact trivial
 | (with_reducible rfl)
 | ((with_reducible refine And.intro ?_ ?_) <;> conv => whnf)
 | omega
 | rfl
 | (refine congrArg (SV.arr _) ?_)
 | (refine congrArg (Value.int _) ?_)
 | (refine congrArg Value.bool ?_)))); all_goals (try unfold Side)
    all_goals try (repeat' (first | (with_reducible rfl) | (with_reducible refine And.intro ?_ ?_) | omega | rfl | exact Or.inl rfl | exact Or.inr rfl | exact of_decide_eq_true rfl | exact Path.imp_of (of_decide_eq_true rfl) | (focus ((try simp only [Int.reduceToNat, Int.reduceTDiv, Int.reduceTMod, minL, maxL, pickB, zHB, zSH, InK, Path.imp, zL] at *); omega)) | (refine app_le rfl ?_; omega)))
    all_goals try (first | exact Path.imp_of ik1 | exact Path.imp_of ik2)
    all_goals try refine subF.ok ?_ <;> (conv => whnf) <;> repeat' (first
 | exact trivial
 | (with_reducible rfl)
 | ((with_reducible refine And.intro ?_ ?_) <;> conv => whnf)
 | omega
 | rfl
 | (refine congrArg (SV.arr _) ?_)
 | (refine congrArg (Value.int _) ?_)
 | (refine congrArg Value.bool ?_))
    refine W.loop (fun k : Nat => ⟨[(13, .lit (.int .i64 (f))), (14, .lit (.int .i64 (((f : Int) + 1 + d)))), (15, .lit (.int .i64 (N))), (17, .st true (.arr (.int .i64) (L : List Int))), (19, .lit (.int .i64 ((S k)))), (20, .lit (.int .i64 (((f : Int) + k))))], []⟩) (fun k => k ≤ d + 1) (fun k => d + 1 - k) (0) ?_ ?_
    · refine ⟨Nat.zero_le _, ?_⟩
      refine subF.ok ?_ <;> (conv => whnf) <;> repeat' (first
 | exact trivial
 | (with_reducible rfl)
 | ((with_reducible refine And.intro ?_ ?_) <;> conv => whnf)
 | omega
 | rfl
 | (refine congrArg (SV.arr _) ?_)
 | (refine congrArg (Value.int _) ?_)
 | (refine congrArg Value.bool ?_))
      all_goals exact hS0.symm
    · intro k hk
      have q1 := hSr k hk
      by_cases hkl : k < d + 1
      · have q2 := hSs k
        have q3 := hld (f + k) (by omega)
        have q4 : L.getD (f + k) 0 = loadT l r ((f + k : Nat) : Int) := hLg (f + k) (by omega)
        rw [← q4] at q2 q3
        have q5 : ((f : Int) + (k : Int)).toNat = f + k := by omega
        rw [← q5] at q2 q3
        repeat' (first
 | refine W.seq ?_
 | refine W.block ?_
 | (refine W.region tys_ok [] ?_; conv => whnf)
 | (refine W.drawAll tys_ok [] mixed rfl ?_; conv => whnf)
 | (refine W.ret ?_; conv => whnf)
 | (refine W.skip ?_; conv => whnf)
 | (refine W.exit ?_; conv => whnf)
 | (refine W.cond rfl (fun hb => ?_) (fun hb => ?_) <;> (try simp only [Int.reduceToNat, Int.reduceTDiv, Int.reduceTMod, minL, maxL, pickB, zHB, zSH] at hb) <;> (try (first | (cases hb; done) | exact absurd hb (by decide) | (exfalso; omega) | (omega))))
 | ((with_reducible refine And.intro ?_ ?_); (focus (first | (with_reducible rfl) | omega | rfl | ((try simp only [Int.reduceToNat, Int.reduceTDiv, Int.reduceTMod, minL, maxL, pickB, zHB, zSH, InK, Path.imp, zL] at *); omega))); (conv => whnf))
 | ((with_reducible refine And.intro (Side.out ?_) ?_); rotate_left; (conv => whnf))
 | ((first | refine retF1 ?_ | refine retF2 ?_) <;> (conv => whnf) <;> repeat' (first
 | exact trivial
 | (with_reducible rfl)
 | ((with_reducible refine And.intro ?_ ?_) <;> conv => whnf)
 | omega
 | rfl
 | (refine congrArg (SV.arr _) ?_)
 | (refine congrArg (Value.int _) ?_)
 | (refine congrArg Value.bool ?_)))); all_goals (try unfold Side)
        all_goals try (repeat' (first | (with_reducible rfl) | (with_reducible refine And.intro ?_ ?_) | omega | rfl | exact Or.inl rfl | exact Or.inr rfl | exact of_decide_eq_true rfl | exact Path.imp_of (of_decide_eq_true rfl) | (focus ((try simp only [Int.reduceToNat, Int.reduceTDiv, Int.reduceTMod, minL, maxL, pickB, zHB, zSH, InK, Path.imp, zL] at *); omega)) | (refine app_le rfl ?_; omega)))
        refine ⟨k + 1, ⟨by omega, by omega⟩, ?_⟩
        refine subF.ok ?_ <;> (conv => whnf) <;> repeat' (first
 | exact trivial
 | (with_reducible rfl)
 | ((with_reducible refine And.intro ?_ ?_) <;> conv => whnf)
 | omega
 | rfl
 | (refine congrArg (SV.arr _) ?_)
 | (refine congrArg (Value.int _) ?_)
 | (refine congrArg Value.bool ?_))
        all_goals exact q2
      · have hke : d + 1 = k := by omega
        subst hke
        repeat' (first
 | refine W.seq ?_
 | refine W.block ?_
 | (refine W.region tys_ok [] ?_; conv => whnf)
 | (refine W.drawAll tys_ok [] mixed rfl ?_; conv => whnf)
 | (refine W.ret ?_; conv => whnf)
 | (refine W.skip ?_; conv => whnf)
 | (refine W.exit ?_; conv => whnf)
 | (refine W.cond rfl (fun hb => ?_) (fun hb => ?_) <;> (try simp only [Int.reduceToNat, Int.reduceTDiv, Int.reduceTMod, minL, maxL, pickB, zHB, zSH] at hb) <;> (try (first | (cases hb; done) | exact absurd hb (by decide) | (exfalso; omega) | (omega))))
 | ((with_reducible refine And.intro ?_ ?_); (focus (first | (with_reducible rfl) | omega | rfl | ((try simp only [Int.reduceToNat, Int.reduceTDiv, Int.reduceTMod, minL, maxL, pickB, zHB, zSH, InK, Path.imp, zL] at *); omega))); (conv => whnf))
 | ((with_reducible refine And.intro (Side.out ?_) ?_); rotate_left; (conv => whnf))
 | ((first | refine retF1 ?_ | refine retF2 ?_) <;> (conv => whnf) <;> repeat' (first
 | exact trivial
 | (with_reducible rfl)
 | ((with_reducible refine And.intro ?_ ?_) <;> conv => whnf)
 | omega
 | rfl
 | (refine congrArg (SV.arr _) ?_)
 | (refine congrArg (Value.int _) ?_)
 | (refine congrArg Value.bool ?_)))); all_goals (try unfold Side)
        all_goals try (repeat' (first | (with_reducible rfl) | (with_reducible refine And.intro ?_ ?_) | omega | rfl | exact Or.inl rfl | exact Or.inr rfl | exact of_decide_eq_true rfl | exact Path.imp_of (of_decide_eq_true rfl) | (focus ((try simp only [Int.reduceToNat, Int.reduceTDiv, Int.reduceTMod, minL, maxL, pickB, zHB, zSH, InK, Path.imp, zL] at *); omega)) | (refine app_le rfl ?_; omega)))
end Go.Proofs.Ytmfholchenihaaa
