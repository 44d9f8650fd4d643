/- Joined of: H30 H31. No condition. -/
import Derived.Test.YtmfholchenihaaaJ8
import Derived.Test.YtmfholchenihaaaJ11

namespace Go.Proofs.Ytmfholchenihaaa
open Go Go.Vc Go.Sh
set_option linter.unusedVariables false
set_option linter.unusedSimpArgs false
theorem sm4_wf {x : List Jb} (h : (Ty.sl U4).wf x) : sm4 x := fun i => by
  have h2 : ∀ y ∈ x, U4.wf y := h.2
  by_cases hi : i < x.length
  · have h3 := h2 _ (getD_mem (d := J0) hi)
    exact ⟨wf_u8 h3.1, wf_u8 h3.2.1, wf_u8 h3.2.2.1, wf_u8 h3.2.2.2.1⟩
  · have : x.getD i J0 = J0 := by simp [List.getD, List.getElem?_eq_none (Nat.le_of_not_lt hi)]
    rw [this]; decide
theorem sm2_wf {y : List Od} (h : (Ty.sl U2).wf y) : sm2 y := fun i => by
  have h2 : ∀ z ∈ y, U2.wf z := h.2
  by_cases hi : i < y.length
  · have h3 := h2 _ (getD_mem (d := O0) hi)
    exact ⟨wf_u8 h3.1, wf_u8 h3.2.1⟩
  · have : y.getD i O0 = O0 := by simp [List.getD, List.getElem?_eq_none (Nat.le_of_not_lt hi)]
    rw [this]; decide
theorem made_eq {p Q : Int} {x J : List Jb} {y O : List Od} (hp : 0 ≤ p ∧ p ≤ 255) (hx : sm4 x) (hy : sm2 y) (hQ : Q = p % 6 + 1) (hJ : J = mkJs x) (hO : O = mkOs J.length y) :
    VS Q J O ∧ (1 ≤ Q ∧ Q ≤ 6) ∧ FnAt Try.prog false 27 [.agg [.lit (.int .u8 p), .arr U4 x, .arr U2 y]] (.strct [.lit (.int .i64 Q), .own 0, .own 1]) [(0, .row 45 JT true J), (1, .row 79 OT true O)] := by
  subst hQ hO hJ
  exact ⟨mk_vs (by omega), by omega, made_at hp hx hy⟩
theorem over_no {P : Int} {l : List Jb} {os : List Od} (h : VS P l os) (ho : ovB P l = true) {s : List Int} : ¬ Fit P l os s := fun hs => by
  have hb : badB P l os = true := by unfold badB; rw [← ovB_over, ho]; rfl
  exact bad_none h.pre hb hs
set_option maxHeartbeats 16000000 in
theorem ShaftOver_at {p a b : Int} {x : List Jb} {y : List Od} (hp : 0 ≤ p ∧ p ≤ 255) (hx : sm4 x) (hy : sm2 y) (ha : 0 ≤ a ∧ a ≤ 255) (hb : 0 ≤ b ∧ b ≤ 255) : FnAt Try.prog false 13 [.agg [.lit (.int .u8 p), .arr U4 x, .arr U2 y], .lit (.int .u8 a), .lit (.int .u8 b)] (.lit (.bool true)) [] := by
  obtain ⟨P, hP⟩ : ∃ P, P = p % 6 + 1 := ⟨_, rfl⟩
  obtain ⟨l, hl⟩ : ∃ l, l = mkJs x := ⟨_, rfl⟩
  obtain ⟨os, hos⟩ : ∃ os, os = mkOs l.length y := ⟨_, rfl⟩
  obtain ⟨h, hP6, hmk⟩ := made_eq hp hx hy hP hl hos
  clear hP hl hos
  obtain ⟨f, hf⟩ : ∃ f : Nat, (f : Int) = a % 24 := ⟨(a % 24).toNat, by omega⟩
  obtain ⟨d, hd⟩ : ∃ d : Nat, (d : Int) = b % (24 - (f : Int)) := ⟨(b % (24 - (f : Int))).toNat, by have := Int.emod_nonneg b (b := 24 - (f : Int)) (by omega); omega⟩
  have hfl : f < 24 := by omega
  have hdl : f + d < 24 := by have := Int.emod_lt_of_pos b (b := 24 - (f : Int)) (by omega); omega
  have ea : Int.tmod a 24 = f := by rw [tm ha.1, hf]
  have eb : Int.tmod b (24 - (f : Int)) = d := by rw [tm hb.1, hd]
  have eab : Int.tmod b (24 - Int.tmod a 24) = d := by rw [ea, eb]
  have hn := Needs_ok (P := P) (l := l) (os := os) (a := f) (b := (f : Int) + 1 + d) h (by omega)
  have ik1 : InK .i64 a := by simp only [InK]; omega
  have ik2 : InK .i64 b := by simp only [InK]; omega
  rcases first_spec h with ⟨h1, h2⟩ | ⟨h1, h2, h3⟩
  · have c1 := First_none h h1
    cases e : ovB P l with
    | true =>
      have c2 := Overfull_yes h e
      refine FnAt.of_body tys_ok Try.func13 (by rfl) rfl Try.ntmps13 (by rw [Try.results13]) (by simp) ?_
  
      repeat' (first
 | refine W.seq ?_
 | refine W.block ?_
 | (refine W.resub (x := Code.region 2 _ _) (Γ' := ⟨[(1, .lit (.int .u8 a)), (2, .lit (.int .u8 b)), (7, .st true (.sadr (.agg [I64 P, .arr JT l, .arr OT os])))], []⟩) ?_ (W.region tys_ok [] ?_); rotate_left; (conv => whnf))
 | (refine W.resub (x := Code.region 6 _ _) (Γ' := ⟨[(1, .lit (.int .u8 a)), (2, .lit (.int .u8 b)), (7, .st true (.sadr (.agg [I64 P, .arr JT l, .arr OT os]))), (8, .st true (.narr (.int .i64) ([] : List Int))), (9, .lit (.int .i64 (5))), (12, .lit (.int .i64 (0))), (13, .lit (.int .i64 (f))), (14, .lit (.int .i64 (((f : Int) + 1 + d))))], []⟩) ?_ (W.region tys_ok [] ?_); rotate_left; (conv => whnf))
 | (refine W.region tys_ok [] ?_; conv => whnf)
 | (refine W.drawAll tys_ok [] mixed rfl ?_; conv => whnf)
 | (refine W.ret ?_; conv => whnf)
 | (refine W.skip ?_; conv => whnf)
 | (refine W.exit ?_; conv => whnf)
 | (refine call_at (al := false) (hmk) rfl rfl rfl rfl ?_; conv => whnf)
 | (refine call_at (al := true) (c1) rfl rfl rfl rfl ?_; conv => whnf)
 | (refine call_at (al := false) (c2) rfl rfl rfl rfl ?_; conv => whnf)
 | (refine call_at (al := false) (hn) rfl rfl rfl rfl ?_; conv => whnf)
 | (refine call_at (al := false) (lives_at) rfl rfl rfl rfl ?_; conv => whnf)
 | (refine W.cond rfl (fun hb => ?_) (fun hb => ?_) <;> (try simp only [Int.reduceToNat, Int.reduceTDiv, Int.reduceTMod, minL, maxL, pickB, zHB, zSH] at hb) <;> (try (first | (cases hb; done) | exact absurd hb (by decide) | (exfalso; omega) | (omega))))
 | ((with_reducible refine And.intro ?_ ?_); (focus (first | (with_reducible rfl) | omega | rfl | ((try simp only [Int.reduceToNat, Int.reduceTDiv, Int.reduceTMod, minL, maxL, pickB, zHB, zSH, InK, Path.imp, zL] at *); omega))); (conv => whnf))
 | ((with_reducible refine And.intro (Side.out ?_) ?_); rotate_left; (conv => whnf))
 | ((first | refine retF1 ?_ | refine retF2 ?_) <;> (conv => whnf) <;> repeat' (first
 | exact trivial
 | (with_reducible rfl)
 | ((with_reducible refine And.intro ?_ ?_) <;> conv => whnf)
 | omega
 | rfl
 | (refine congrArg (SV.arr _) ?_)
 | (refine congrArg (Value.int _) ?_)
 | (refine congrArg Value.bool ?_)))); all_goals (try unfold Side)
      all_goals try (repeat' (first | (with_reducible rfl) | (with_reducible refine And.intro ?_ ?_) | omega | rfl | exact Or.inl rfl | exact Or.inr rfl | exact of_decide_eq_true rfl | exact Path.imp_of (of_decide_eq_true rfl) | (focus ((try simp only [Int.reduceToNat, Int.reduceTDiv, Int.reduceTMod, minL, maxL, pickB, zHB, zSH, InK, Path.imp, zL] at *); omega)) | (refine app_le rfl ?_; omega)))
      all_goals try (first | exact Path.imp_of ik1 | exact Path.imp_of ik2)
      all_goals try refine subF.ok ?_ <;> (conv => whnf) <;> repeat' (first
 | exact trivial
 | (with_reducible rfl)
 | ((with_reducible refine And.intro ?_ ?_) <;> conv => whnf)
 | omega
 | rfl
 | (refine congrArg (SV.arr _) ?_)
 | (refine congrArg (Value.int _) ?_)
 | (refine congrArg Value.bool ?_))
    | false =>
      have c2 := Overfull_none h e
      refine FnAt.of_body tys_ok Try.func13 (by rfl) rfl Try.ntmps13 (by rw [Try.results13]) (by simp) ?_
  
      repeat' (first
 | refine W.seq ?_
 | refine W.block ?_
 | (refine W.resub (x := Code.region 2 _ _) (Γ' := ⟨[(1, .lit (.int .u8 a)), (2, .lit (.int .u8 b)), (7, .st true (.sadr (.agg [I64 P, .arr JT l, .arr OT os])))], []⟩) ?_ (W.region tys_ok [] ?_); rotate_left; (conv => whnf))
 | (refine W.resub (x := Code.region 6 _ _) (Γ' := ⟨[(1, .lit (.int .u8 a)), (2, .lit (.int .u8 b)), (7, .st true (.sadr (.agg [I64 P, .arr JT l, .arr OT os]))), (8, .st true (.narr (.int .i64) ([] : List Int))), (9, .lit (.int .i64 (5))), (12, .lit (.int .i64 (5))), (13, .lit (.int .i64 (f))), (14, .lit (.int .i64 (((f : Int) + 1 + d))))], []⟩) ?_ (W.region tys_ok [] ?_); rotate_left; (conv => whnf))
 | (refine W.region tys_ok [] ?_; conv => whnf)
 | (refine W.drawAll tys_ok [] mixed rfl ?_; conv => whnf)
 | (refine W.ret ?_; conv => whnf)
 | (refine W.skip ?_; conv => whnf)
 | (refine W.exit ?_; conv => whnf)
 | (refine call_at (al := false) (hmk) rfl rfl rfl rfl ?_; conv => whnf)
 | (refine call_at (al := true) (c1) rfl rfl rfl rfl ?_; conv => whnf)
 | (refine call_at (al := false) (c2) rfl rfl rfl rfl ?_; conv => whnf)
 | (refine call_at (al := false) (hn) rfl rfl rfl rfl ?_; conv => whnf)
 | (refine call_at (al := false) (lives_at) rfl rfl rfl rfl ?_; conv => whnf)
 | (refine W.cond rfl (fun hb => ?_) (fun hb => ?_) <;> (try simp only [Int.reduceToNat, Int.reduceTDiv, Int.reduceTMod, minL, maxL, pickB, zHB, zSH] at hb) <;> (try (first | (cases hb; done) | exact absurd hb (by decide) | (exfalso; omega) | (omega))))
 | ((with_reducible refine And.intro ?_ ?_); (focus (first | (with_reducible rfl) | omega | rfl | ((try simp only [Int.reduceToNat, Int.reduceTDiv, Int.reduceTMod, minL, maxL, pickB, zHB, zSH, InK, Path.imp, zL] at *); omega))); (conv => whnf))
 | ((with_reducible refine And.intro (Side.out ?_) ?_); rotate_left; (conv => whnf))
 | ((first | refine retF1 ?_ | refine retF2 ?_) <;> (conv => whnf) <;> repeat' (first
 | exact trivial
 | (with_reducible rfl)
 | ((with_reducible refine And.intro ?_ ?_) <;> conv => whnf)
 | omega
 | rfl
 | (refine congrArg (SV.arr _) ?_)
 | (refine congrArg (Value.int _) ?_)
 | (refine congrArg Value.bool ?_)))); all_goals (try unfold Side)
      all_goals try (repeat' (first | (with_reducible rfl) | (with_reducible refine And.intro ?_ ?_) | omega | rfl | exact Or.inl rfl | exact Or.inr rfl | exact of_decide_eq_true rfl | exact Path.imp_of (of_decide_eq_true rfl) | (focus ((try simp only [Int.reduceToNat, Int.reduceTDiv, Int.reduceTMod, minL, maxL, pickB, zHB, zSH, InK, Path.imp, zL] at *); omega)) | (refine app_le rfl ?_; omega)))
      all_goals try (first | exact Path.imp_of ik1 | exact Path.imp_of ik2)
      all_goals try refine subF.ok ?_ <;> (conv => whnf) <;> repeat' (first
 | exact trivial
 | (with_reducible rfl)
 | ((with_reducible refine And.intro ?_ ?_) <;> conv => whnf)
 | omega
 | rfl
 | (refine congrArg (SV.arr _) ?_)
 | (refine congrArg (Value.int _) ?_)
 | (refine congrArg Value.bool ?_))
  · obtain ⟨r, hr⟩ : ∃ r, r = firstT P l os := ⟨_, rfl⟩
    rw [← hr] at h1 h2 h3
    have c1 := First_ok h hr.symm h1
    have e : ovB P l = false := by
      cases e : ovB P l with
      | false => rfl
      | true => exact absurd h2 (over_no h e)
    have c2 := Overfull_none h e
    obtain ⟨r1, r2, r3⟩ := fit_rg h h2
    have c3 := Load_ok h r1 r3
    have hLl : @List.length (Ty.int .i64).T (loadL l r 24) = 24 := loadL_len
    have hLg := fun t (ht : t < 24) => loadL_get (l := l) (s := r) ht
    have hld := fun t (ht : t < 24) => fit_ld h h2 ht
    have hneed := needs_le h2 (fun m hm => by have := (bd_of h).rg m hm; omega) (a := f) (k := d + 1)
    rw [show (f : Int) + ((d + 1 : Nat) : Int) = (f : Int) + 1 + d by omega] at hneed
    obtain ⟨S, hS⟩ : ∃ S : Nat → Int, S = sumZ (fun i => loadT l r ((f : Int) + (i : Int))) := ⟨_, rfl⟩
    have hS0 : S 0 = 0 := by rw [hS]; rfl
    have hSr : ∀ k, k ≤ d + 1 → 0 ≤ S k ∧ S k ≤ 20 * k := fun k hk => by
      rw [hS]
      have := sumZ_rg (f := fun i : Nat => loadT l r ((f : Int) + (i : Int))) (c := 20) (n := d + 1) (by omega) (fun i hi => by
        have := hld (f + i) (by omega)
        rw [show ((f + i : Nat) : Int) = (f : Int) + (i : Int) by omega] at this
        omega) hk
      exact this
    have hSs : ∀ k, S k + loadT l r ((f + k : Nat) : Int) = S (k + 1) := fun k => by
      rw [hS, sumZ, show ((f + k : Nat) : Int) = (f : Int) + (k : Int) by omega]
    rw [← hS] at hneed
    obtain ⟨N, hN⟩ : ∃ N, N = needsT l f ((f : Int) + 1 + d) := ⟨_, rfl⟩
    rw [← hN] at hneed hn
    obtain ⟨L, hL⟩ : ∃ L, L = loadL l r 24 := ⟨_, rfl⟩
    rw [← hL] at hLl hLg c3
    clear hS hN hL h3
    refine FnAt.of_body tys_ok Try.func13 (by rfl) rfl Try.ntmps13 (by rw [Try.results13]) (by simp) ?_
  
    repeat' (first
 | refine W.seq ?_
 | refine W.block ?_
 | (refine W.resub (x := Code.region 2 _ _) (Γ' := ⟨[(1, .lit (.int .u8 a)), (2, .lit (.int .u8 b)), (7, .st true (.sadr (.agg [I64 P, .arr JT l, .arr OT os])))], []⟩) ?_ (W.region tys_ok [] ?_); rotate_left; (conv => whnf))
 | (refine W.resub (x := Code.region 6 _ _) (Γ' := ⟨[(1, .lit (.int .u8 a)), (2, .lit (.int .u8 b)), (7, .st true (.sadr (.agg [I64 P, .arr JT l, .arr OT os]))), (8, .st true (.narr (.int .i64) (r : List Int))), (9, .lit (.int .i64 (0))), (12, .lit (.int .i64 (5))), (13, .lit (.int .i64 (f))), (14, .lit (.int .i64 (((f : Int) + 1 + d))))], []⟩) ?_ (W.region tys_ok [] ?_); rotate_left; (conv => whnf))
 | (refine W.resub (x := Code.region 11 _ _) (Γ' := ⟨[(1, .lit (.int .u8 a)), (2, .lit (.int .u8 b)), (7, .st true (.sadr (.agg [I64 P, .arr JT l, .arr OT os]))), (8, .st true (.arr (.int .i64) (r : List Int))), (13, .lit (.int .i64 (f))), (14, .lit (.int .i64 (((f : Int) + 1 + d)))), (15, .lit (.int .i64 (N)))], []⟩) ?_ (W.region tys_ok [] ?_); rotate_left; (conv => whnf))
 | (refine W.region tys_ok [] ?_; conv => whnf)
 | (refine W.drawAll tys_ok [] mixed rfl ?_; conv => whnf)
 | (refine W.ret ?_; conv => whnf)
 | (refine W.skip ?_; conv => whnf)
 | (refine W.exit ?_; conv => whnf)
 | (refine call_at (al := false) (hmk) rfl rfl rfl rfl ?_; conv => whnf)
 | (refine call_at (al := true) (c1) rfl rfl rfl rfl ?_; conv => whnf)
 | (refine call_at (al := false) (c2) rfl rfl rfl rfl ?_; conv => whnf)
 | (refine call_at (al := false) (hn) rfl rfl rfl rfl ?_; conv => whnf)
 | (refine call_at (al := false) (lives_at) rfl rfl rfl rfl ?_; conv => whnf)
 | (refine call_at (al := false) (c3) rfl rfl rfl rfl ?_; conv => whnf)
 | (refine W.cond rfl (fun hb => ?_) (fun hb => ?_) <;> (try simp only [Int.reduceToNat, Int.reduceTDiv, Int.reduceTMod, minL, maxL, pickB, zHB, zSH] at hb) <;> (try (first | (cases hb; done) | exact absurd hb (by decide) | (exfalso; omega) | (omega))))
 | ((with_reducible refine And.intro ?_ ?_); (focus (first | (with_reducible rfl) | omega | rfl | ((try simp only [Int.reduceToNat, Int.reduceTDiv, Int.reduceTMod, minL, maxL, pickB, zHB, zSH, InK, Path.imp, zL] at *); omega))); (conv => whnf))
 | ((with_reducible refine And.intro (Side.out ?_) ?_); rotate_left; (conv => whnf))
 | ((first | refine retF1 ?_ | refine retF2 ?_) <;> (conv => whnf) <;> repeat' (first
 | exact trivial
 | (with_reducible rfl)
 | ((with_reducible refine And.intro ?_ ?_) <;> conv => whnf)
 | omega
 | rfl
 | (refine congrArg (SV.arr _) ?_)
 | (refine congrArg (Value.int _) ?_)
 | (refine congrArg Value.bool ?_)))); all_goals (try unfold Side)
    all_goals try (repeat' (first | (with_reducible rfl) | (with_reducible refine And.intro ?_ ?_) | omega | rfl | exact Or.inl rfl | exact Or.inr rfl | exact of_decide_eq_true rfl | exact Path.imp_of (of_decide_eq_true rfl) | (focus ((try simp only [Int.reduceToNat, Int.reduceTDiv, Int.reduceTMod, minL, maxL, pickB, zHB, zSH, InK, Path.imp, zL] at *); omega)) | (refine app_le rfl ?_; omega)))
    all_goals try (first | exact Path.imp_of ik1 | exact Path.imp_of ik2)
    all_goals try refine subF.ok ?_ <;> (conv => whnf) <;> repeat' (first
 | exact trivial
 | (with_reducible rfl)
 | ((with_reducible refine And.intro ?_ ?_) <;> conv => whnf)
 | omega
 | rfl
 | (refine congrArg (SV.arr _) ?_)
 | (refine congrArg (Value.int _) ?_)
 | (refine congrArg Value.bool ?_))
    refine W.loop (fun k : Nat => ⟨[(13, .lit (.int .i64 (f))), (14, .lit (.int .i64 (((f : Int) + 1 + d)))), (15, .lit (.int .i64 (N))), (17, .st true (.arr (.int .i64) (L : List Int))), (19, .lit (.int .i64 ((S k)))), (20, .lit (.int .i64 (((f : Int) + k))))], []⟩) (fun k => k ≤ d + 1) (fun k => d + 1 - k) (0) ?_ ?_
    · refine ⟨Nat.zero_le _, ?_⟩
      refine subF.ok ?_ <;> (conv => whnf) <;> repeat' (first
 | exact trivial
 | (with_reducible rfl)
 | ((with_reducible refine And.intro ?_ ?_) <;> conv => whnf)
 | omega
 | rfl
 | (refine congrArg (SV.arr _) ?_)
 | (refine congrArg (Value.int _) ?_)
 | (refine congrArg Value.bool ?_))
      all_goals exact hS0.symm
    · intro k hk
      have q1 := hSr k hk
      by_cases hkl : k < d + 1
      · have q2 := hSs k
        have q3 := hld (f + k) (by omega)
        have q4 : L.getD (f + k) 0 = loadT l r ((f + k : Nat) : Int) := hLg (f + k) (by omega)
        rw [← q4] at q2 q3
        have q5 : ((f : Int) + (k : Int)).toNat = f + k := by omega
        rw [← q5] at q2 q3
        repeat' (first
 | refine W.seq ?_
 | refine W.block ?_
 | (refine W.region tys_ok [] ?_; conv => whnf)
 | (refine W.drawAll tys_ok [] mixed rfl ?_; conv => whnf)
 | (refine W.ret ?_; conv => whnf)
 | (refine W.skip ?_; conv => whnf)
 | (refine W.exit ?_; conv => whnf)
 | (refine W.cond rfl (fun hb => ?_) (fun hb => ?_) <;> (try simp only [Int.reduceToNat, Int.reduceTDiv, Int.reduceTMod, minL, maxL, pickB, zHB, zSH] at hb) <;> (try (first | (cases hb; done) | exact absurd hb (by decide) | (exfalso; omega) | (omega))))
 | ((with_reducible refine And.intro ?_ ?_); (focus (first | (with_reducible rfl) | omega | rfl | ((try simp only [Int.reduceToNat, Int.reduceTDiv, Int.reduceTMod, minL, maxL, pickB, zHB, zSH, InK, Path.imp, zL] at *); omega))); (conv => whnf))
 | ((with_reducible refine And.intro (Side.out ?_) ?_); rotate_left; (conv => whnf))
 | ((first | refine retF1 ?_ | refine retF2 ?_) <;> (conv => whnf) <;> repeat' (first
 | exact trivial
 | (with_reducible rfl)
 | ((with_reducible refine And.intro ?_ ?_) <;> conv => whnf)
 | omega
 | rfl
 | (refine congrArg (SV.arr _) ?_)
 | (refine congrArg (Value.int _) ?_)
 | (refine congrArg Value.bool ?_)))); all_goals (try unfold Side)
        all_goals try (repeat' (first | (with_reducible rfl) | (with_reducible refine And.intro ?_ ?_) | omega | rfl | exact Or.inl rfl | exact Or.inr rfl | exact of_decide_eq_true rfl | exact Path.imp_of (of_decide_eq_true rfl) | (focus ((try simp only [Int.reduceToNat, Int.reduceTDiv, Int.reduceTMod, minL, maxL, pickB, zHB, zSH, InK, Path.imp, zL] at *); omega)) | (refine app_le rfl ?_; omega)))
        refine ⟨k + 1, ⟨by omega, by omega⟩, ?_⟩
        refine subF.ok ?_ <;> (conv => whnf) <;> repeat' (first
 | exact trivial
 | (with_reducible rfl)
 | ((with_reducible refine And.intro ?_ ?_) <;> conv => whnf)
 | omega
 | rfl
 | (refine congrArg (SV.arr _) ?_)
 | (refine congrArg (Value.int _) ?_)
 | (refine congrArg Value.bool ?_))
        all_goals exact q2
      · have hke : d + 1 = k := by omega
        subst hke
        repeat' (first
 | refine W.seq ?_
 | refine W.block ?_
 | (refine W.region tys_ok [] ?_; conv => whnf)
 | (refine W.drawAll tys_ok [] mixed rfl ?_; conv => whnf)
 | (refine W.ret ?_; conv => whnf)
 | (refine W.skip ?_; conv => whnf)
 | (refine W.exit ?_; conv => whnf)
 | (refine W.cond rfl (fun hb => ?_) (fun hb => ?_) <;> (try simp only [Int.reduceToNat, Int.reduceTDiv, Int.reduceTMod, minL, maxL, pickB, zHB, zSH] at hb) <;> (try (first | (cases hb; done) | exact absurd hb (by decide) | (exfalso; omega) | (omega))))
 | ((with_reducible refine And.intro ?_ ?_); (focus (first | (with_reducible rfl) | omega | rfl | ((try simp only [Int.reduceToNat, Int.reduceTDiv, Int.reduceTMod, minL, maxL, pickB, zHB, zSH, InK, Path.imp, zL] at *); omega))); (conv => whnf))
 | ((with_reducible refine And.intro (Side.out ?_) ?_); rotate_left; (conv => whnf))
 | ((first | refine retF1 ?_ | refine retF2 ?_) <;> (conv => whnf) <;> repeat' (first
 | exact trivial
 | (with_reducible rfl)
 | ((with_reducible refine And.intro ?_ ?_) <;> conv => whnf)
 | omega
 | rfl
 | (refine congrArg (SV.arr _) ?_)
 | (refine congrArg (Value.int _) ?_)
 | (refine congrArg Value.bool ?_)))); all_goals (try unfold Side)
        all_goals try (repeat' (first | (with_reducible rfl) | (with_reducible refine And.intro ?_ ?_) | omega | rfl | exact Or.inl rfl | exact Or.inr rfl | exact of_decide_eq_true rfl | exact Path.imp_of (of_decide_eq_true rfl) | (focus ((try simp only [Int.reduceToNat, Int.reduceTDiv, Int.reduceTMod, minL, maxL, pickB, zHB, zSH, InK, Path.imp, zL] at *); omega)) | (refine app_le rfl ?_; omega)))
end Go.Proofs.Ytmfholchenihaaa
namespace Go.Proofs.Ytmfholchenihaaa
open Go Go.Vc Go.Sh
set_option linter.unusedVariables false
set_option linter.unusedSimpArgs false
set_option maxHeartbeats 16000000 in
theorem ShaftSums_at {p : Int} {x : List Jb} {y : List Od} (hp : 0 ≤ p ∧ p ≤ 255) (hx : sm4 x) (hy : sm2 y) : FnAt Try.prog false 8 [.agg [.lit (.int .u8 p), .arr U4 x, .arr U2 y]] (.lit (.bool true)) [] := by
  obtain ⟨P, hP⟩ : ∃ P, P = p % 6 + 1 := ⟨_, rfl⟩
  obtain ⟨l, hl⟩ : ∃ l, l = mkJs x := ⟨_, rfl⟩
  obtain ⟨os, hos⟩ : ∃ os, os = mkOs l.length y := ⟨_, rfl⟩
  obtain ⟨h, hP6, hmk⟩ := made_eq hp hx hy hP hl hos
  clear hP hl hos
  have c2 := Short_at h
  rcases first_spec h with ⟨h1, h2⟩ | ⟨h1, h2, h3⟩
  · have c1 := First_none h h1
    rcases sh_spec h with ⟨g1, g2, g3⟩ | ⟨g1, g2, g3⟩
    · rw [g1, g2, if_pos rfl] at c2
      refine FnAt.of_body tys_ok Try.func8 (by rfl) rfl Try.ntmps8 (by rw [Try.results8]) (by simp) ?_
  
      repeat' (first
 | refine W.seq ?_
 | refine W.block ?_
 | (refine W.resub (x := Code.region 2 _ _) (Γ' := ⟨[(3, .st true (.sadr (.agg [I64 P, .arr JT l, .arr OT os])))], []⟩) ?_ (W.region tys_ok [] ?_); rotate_left; (conv => whnf))
 | (refine W.region tys_ok [] ?_; conv => whnf)
 | (refine W.drawAll tys_ok [] mixed rfl ?_; conv => whnf)
 | (refine W.ret ?_; conv => whnf)
 | (refine W.skip ?_; conv => whnf)
 | (refine W.exit ?_; conv => whnf)
 | (refine call_at (al := false) (hmk) rfl rfl rfl rfl ?_; conv => whnf)
 | (refine call_at (al := true) (c1) rfl rfl rfl rfl ?_; conv => whnf)
 | (refine call_at (al := true) (c2) rfl rfl rfl rfl ?_; conv => whnf)
 | (refine call_at (al := false) (lives_at) rfl rfl rfl rfl ?_; conv => whnf)
 | (refine W.cond rfl (fun hb => ?_) (fun hb => ?_) <;> (try simp only [Int.reduceToNat, Int.reduceTDiv, Int.reduceTMod, minL, maxL, pickB, zHB, zSH] at hb) <;> (try (first | (cases hb; done) | exact absurd hb (by decide) | (exfalso; omega) | (omega))))
 | ((with_reducible refine And.intro ?_ ?_); (focus (first | (with_reducible rfl) | omega | rfl | ((try simp only [Int.reduceToNat, Int.reduceTDiv, Int.reduceTMod, minL, maxL, pickB, zHB, zSH, InK, Path.imp, zL] at *); omega))); (conv => whnf))
 | ((with_reducible refine And.intro (Side.out ?_) ?_); rotate_left; (conv => whnf))
 | ((first | refine retF1 ?_ | refine retF2 ?_) <;> (conv => whnf) <;> repeat' (first
 | exact trivial
 | (with_reducible rfl)
 | ((with_reducible refine And.intro ?_ ?_) <;> conv => whnf)
 | omega
 | rfl
 | (refine congrArg (SV.arr _) ?_)
 | (refine congrArg (Value.int _) ?_)
 | (refine congrArg Value.bool ?_)))); all_goals (try unfold Side)
      all_goals try (repeat' (first | (with_reducible rfl) | (with_reducible refine And.intro ?_ ?_) | omega | rfl | exact Or.inl rfl | exact Or.inr rfl | exact of_decide_eq_true rfl | exact Path.imp_of (of_decide_eq_true rfl) | (focus ((try simp only [Int.reduceToNat, Int.reduceTDiv, Int.reduceTMod, minL, maxL, pickB, zHB, zSH, InK, Path.imp, zL] at *); omega)) | (refine app_le rfl ?_; omega)))
      all_goals try refine subF.ok ?_ <;> (conv => whnf) <;> repeat' (first
 | exact trivial
 | (with_reducible rfl)
 | ((with_reducible refine And.intro ?_ ?_) <;> conv => whnf)
 | omega
 | rfl
 | (refine congrArg (SV.arr _) ?_)
 | (refine congrArg (Value.int _) ?_)
 | (refine congrArg Value.bool ?_))
    · exact absurd g2 (h2 _)
  · rcases sh_spec h with ⟨g1, g2, g3⟩ | ⟨g1, g2, g3, g4, g5⟩
    · exact absurd h2 (g3 _)
    obtain ⟨r, hr⟩ : ∃ r, r = firstT P l os := ⟨_, rfl⟩
    rw [← hr] at h1 h2 h3
    have c1 := First_ok h hr.symm h1
    rw [if_neg g1] at c2
    obtain ⟨m, hm⟩ : ∃ m, m = shT P l os := ⟨_, rfl⟩
    obtain ⟨E, hE⟩ : ∃ E, E = shE P l os := ⟨_, rfl⟩
    rw [← hm, ← hE] at c2
    rw [← hm] at g1 g2 g3
    rw [← hE] at g3 g4
    clear g5 hE h3
    have hbd := bd_of h
    have hlj : @List.length JT.T l = l.length := rfl
    have hmb : ∀ i, i < l.length → 0 ≤ jl l i * jp l i ∧ jl l i * jp l i ≤ 480 := fun i hi => by
      have := h.rg i hi
      unfold JobOk at this
      have h1 : 1 ≤ jl l i ∧ jl l i ≤ 24 := by unfold jl; omega
      have h2 : 1 ≤ jp l i ∧ jp l i ≤ 20 := by unfold jp; omega
      refine ⟨Int.mul_nonneg (by omega) (by omega), ?_⟩
      have := Int.mul_le_mul (a := jl l i) (b := jp l i) (c := 24) (d := 20) h1.2 h2.2 (by omega) (by omega)
      omega
    obtain ⟨A, hA⟩ : ∃ A : Nat → Int, A = sumZ (fun i => jl l i * jp l i) := ⟨_, rfl⟩
    have hA0 : A 0 = 0 := by rw [hA]; rfl
    have hAr : ∀ k, k ≤ l.length → 0 ≤ A k ∧ A k ≤ 480 * k := fun k hk => by rw [hA]; exact sumZ_rg (by omega) hmb hk
    have hAs : ∀ k, A k + jl l k * jp l k = A (k + 1) := fun k => by rw [hA, sumZ]
    have hAn : ∀ w, Fit P l os w → sumZ (fun t : Nat => loadT l w (t : Int)) 24 = A l.length := fun w hw => by rw [hA]; exact load_sum h.pre hw
    clear hA
    have hl6 := h.ln
    refine FnAt.of_body tys_ok Try.func8 (by rfl) rfl Try.ntmps8 (by rw [Try.results8]) (by simp) ?_
  
    repeat' (first
 | refine W.seq ?_
 | refine W.block ?_
 | (refine W.resub (x := Code.region 2 _ _) (Γ' := ⟨[(3, .st true (.sadr (.agg [I64 P, .arr JT l, .arr OT os])))], []⟩) ?_ (W.region tys_ok [] ?_); rotate_left; (conv => whnf))
 | (refine W.resub (x := Code.region 4 _ _) (Γ' := ⟨[(3, .st true (.sadr (.agg [I64 P, .arr JT l, .arr OT os]))), (4, .st true (.arr (.int .i64) (r : List Int))), (5, .lit (.int .i64 (0))), (6, .st true (.arr (.int .i64) (m : List Int))), (7, .lit (.int .i64 (E))), (8, .lit (.int .i64 (0)))], []⟩) ?_ (W.region tys_ok [] ?_); rotate_left; (conv => whnf))
 | (refine W.region tys_ok [] ?_; conv => whnf)
 | (refine W.drawAll tys_ok [] mixed rfl ?_; conv => whnf)
 | (refine W.ret ?_; conv => whnf)
 | (refine W.skip ?_; conv => whnf)
 | (refine W.exit ?_; conv => whnf)
 | (refine call_at (al := false) (hmk) rfl rfl rfl rfl ?_; conv => whnf)
 | (refine call_at (al := true) (c1) rfl rfl rfl rfl ?_; conv => whnf)
 | (refine call_at (al := true) (c2) rfl rfl rfl rfl ?_; conv => whnf)
 | (refine W.cond rfl (fun hb => ?_) (fun hb => ?_) <;> (try simp only [Int.reduceToNat, Int.reduceTDiv, Int.reduceTMod, minL, maxL, pickB, zHB, zSH] at hb) <;> (try (first | (cases hb; done) | exact absurd hb (by decide) | (exfalso; omega) | (omega))))
 | ((with_reducible refine And.intro ?_ ?_); (focus (first | (with_reducible rfl) | omega | rfl | ((try simp only [Int.reduceToNat, Int.reduceTDiv, Int.reduceTMod, minL, maxL, pickB, zHB, zSH, InK, Path.imp, zL] at *); omega))); (conv => whnf))
 | ((with_reducible refine And.intro (Side.out ?_) ?_); rotate_left; (conv => whnf))
 | ((first | refine retF1 ?_ | refine retF2 ?_) <;> (conv => whnf) <;> repeat' (first
 | exact trivial
 | (with_reducible rfl)
 | ((with_reducible refine And.intro ?_ ?_) <;> conv => whnf)
 | omega
 | rfl
 | (refine congrArg (SV.arr _) ?_)
 | (refine congrArg (Value.int _) ?_)
 | (refine congrArg Value.bool ?_)))); all_goals (try unfold Side)
    all_goals try (repeat' (first | (with_reducible rfl) | (with_reducible refine And.intro ?_ ?_) | omega | rfl | exact Or.inl rfl | exact Or.inr rfl | exact of_decide_eq_true rfl | exact Path.imp_of (of_decide_eq_true rfl) | (focus ((try simp only [Int.reduceToNat, Int.reduceTDiv, Int.reduceTMod, minL, maxL, pickB, zHB, zSH, InK, Path.imp, zL] at *); omega)) | (refine app_le rfl ?_; omega)))
    all_goals try refine subF.ok ?_ <;> (conv => whnf) <;> repeat' (first
 | exact trivial
 | (with_reducible rfl)
 | ((with_reducible refine And.intro ?_ ?_) <;> conv => whnf)
 | omega
 | rfl
 | (refine congrArg (SV.arr _) ?_)
 | (refine congrArg (Value.int _) ?_)
 | (refine congrArg Value.bool ?_))
    refine W.loop (fun i : Nat => ⟨[(3, .st true (.sadr (.agg [I64 P, .arr JT l, .arr OT os]))), (4, .st true (.arr (.int .i64) (r : List Int))), (5, .lit (.int .i64 (0))), (6, .st true (.arr (.int .i64) (m : List Int))), (7, .lit (.int .i64 (E))), (8, .lit (.int .i64 (0))), (9, .lit (.int .i64 ((A i)))), (10, .lit (.int .i64 (i)))], []⟩) (fun i => i ≤ l.length) (fun i => l.length - i) (0) ?_ ?_
    · refine ⟨Nat.zero_le _, ?_⟩
      refine subF.ok ?_ <;> (conv => whnf) <;> repeat' (first
 | exact trivial
 | (with_reducible rfl)
 | ((with_reducible refine And.intro ?_ ?_) <;> conv => whnf)
 | omega
 | rfl
 | (refine congrArg (SV.arr _) ?_)
 | (refine congrArg (Value.int _) ?_)
 | (refine congrArg Value.bool ?_))
      all_goals exact hA0.symm
    · intro i hi
      by_cases hil : i < l.length
      · have q1 := hAr i hi
        have q2 := hAr (i + 1) (by omega)
        have q3 := hAs i
        have q4 := hmb i hil
        unfold jl jp at q3 q4
        repeat' (first
 | refine W.seq ?_
 | refine W.block ?_
 | (refine W.drawPh (id := 10) tys_ok [] mixed [0, 0, 2, 0, 12, 16, 32, 0, 128, 0, 768, 1024, 2048, 4160, 8193, 32767] [([0, 1, 2, 3, 4, 5, 6, 7, 8, 9, 10, 11, 12, 13, 14, 15], 0, 65535)] (by decide +kernel) ?_; conv => whnf)
 | (refine W.region tys_ok [] ?_; conv => whnf)
 | (refine W.drawAll tys_ok [] mixed rfl ?_; conv => whnf)
 | (refine W.ret ?_; conv => whnf)
 | (refine W.skip ?_; conv => whnf)
 | (refine W.exit ?_; conv => whnf)
 | (refine Both.mk ?_ ?_ <;> (conv => whnf))
 | (refine W.cond rfl (fun hb => ?_) (fun hb => ?_) <;> (try simp only [Int.reduceToNat, Int.reduceTDiv, Int.reduceTMod, minL, maxL, pickB, zHB, zSH] at hb) <;> (try (first | (cases hb; done) | exact absurd hb (by decide) | (exfalso; omega) | (omega))))
 | ((with_reducible refine And.intro ?_ ?_); (focus (first | (with_reducible rfl) | omega | rfl | ((try simp only [Int.reduceToNat, Int.reduceTDiv, Int.reduceTMod, minL, maxL, pickB, zHB, zSH, InK, Path.imp, zL] at *); omega))); (conv => whnf))
 | ((with_reducible refine And.intro (Side.out ?_) ?_); rotate_left; (conv => whnf))
 | ((first | refine retF1 ?_ | refine retF2 ?_ | refine subF.leaf ?_ | refine subF.side ?_) <;> (conv => whnf) <;> repeat' (first
 | exact trivial
 | (with_reducible rfl)
 | ((with_reducible refine And.intro ?_ ?_) <;> conv => whnf)
 | omega
 | rfl
 | (refine congrArg (SV.arr _) ?_)
 | (refine congrArg (Value.int _) ?_)
 | (refine congrArg Value.bool ?_)))); all_goals (try unfold Side)
        all_goals try (repeat' (first | (with_reducible rfl) | (with_reducible refine And.intro ?_ ?_) | omega | rfl | exact Or.inl rfl | exact Or.inr rfl | exact of_decide_eq_true rfl | exact Path.imp_of (of_decide_eq_true rfl) | (focus ((try simp only [Int.reduceToNat, Int.reduceTDiv, Int.reduceTMod, minL, maxL, pickB, zHB, zSH, InK, Path.imp, zL] at *); omega)) | (refine app_le rfl ?_; omega)))
        refine ⟨i + 1, ⟨by omega, by omega⟩, ?_⟩
        refine subF.ok ?_ <;> (conv => whnf) <;> repeat' (first
 | exact trivial
 | (with_reducible rfl)
 | ((with_reducible refine And.intro ?_ ?_) <;> conv => whnf)
 | omega
 | rfl
 | (refine congrArg (SV.arr _) ?_)
 | (refine congrArg (Value.int _) ?_)
 | (refine congrArg Value.bool ?_))
        all_goals exact q3
      · have hie : l.length = i := by omega
        subst hie
        repeat' (first
 | refine W.seq ?_
 | refine W.block ?_
 | (refine W.region tys_ok [65] ?_; conv => whnf)
 | (refine W.drawAll tys_ok [65] mixed rfl ?_; conv => whnf)
 | (refine W.ret ?_; conv => whnf)
 | (refine W.skip ?_; conv => whnf)
 | (refine W.exit ?_; conv => whnf)
 | (refine W.cond rfl (fun hb => ?_) (fun hb => ?_) <;> (try simp only [Int.reduceToNat, Int.reduceTDiv, Int.reduceTMod, minL, maxL, pickB, zHB, zSH] at hb) <;> (try (first | (cases hb; done) | exact absurd hb (by decide) | (exfalso; omega))))
 | ((with_reducible refine And.intro ?_ ?_); (focus (first | (with_reducible rfl) | omega | rfl | ((try simp only [Int.reduceToNat, Int.reduceTDiv, Int.reduceTMod, minL, maxL, pickB, zHB, zSH, InK, Path.imp, zL] at *); omega))); (conv => whnf))
 | ((with_reducible refine And.intro (Side.out ?_) ?_); rotate_left; (conv => whnf))
 | ((first | refine retF1 ?_ | refine retF2 ?_) <;> (conv => whnf) <;> repeat' (first
 | exact trivial
 | (with_reducible rfl)
 | ((with_reducible refine And.intro ?_ ?_) <;> conv => whnf)
 | omega
 | rfl
 | (refine congrArg (SV.arr _) ?_)
 | (refine congrArg (Value.int _) ?_)
 | (refine congrArg Value.bool ?_)))); all_goals (try unfold Side)
        all_goals try (repeat' (first | (with_reducible rfl) | (with_reducible refine And.intro ?_ ?_) | omega | rfl | exact Or.inl rfl | exact Or.inr rfl | exact of_decide_eq_true rfl | exact Path.imp_of (of_decide_eq_true rfl) | (focus ((try simp only [Int.reduceToNat, Int.reduceTDiv, Int.reduceTMod, minL, maxL, pickB, zHB, zSH, InK, Path.imp, zL] at *); omega)) | (refine app_le rfl ?_; omega)))
        refine W.loop (fun q : Nat => ⟨[(3, .st true (.sadr (.agg [I64 P, .arr JT l, .arr OT os]))), (6, .st true (.arr (.int .i64) (m : List Int))), (7, .lit (.int .i64 (E))), (8, .lit (.int .i64 (0))), (9, .lit (.int .i64 ((A l.length)))), (65, .st true (.arr (.sl (.int .i64)) ([r, m] : List (List Int)))), (66, .lit (.int .i64 (2))), (67, .lit (.int .i64 (q)))], []⟩) (fun q => q ≤ 2) (fun q => 2 - q) (0) ?_ ?_
        · refine ⟨Nat.zero_le _, ?_⟩
          refine subF.ok ?_ <;> (conv => whnf) <;> repeat' (first
 | exact trivial
 | (with_reducible rfl)
 | ((with_reducible refine And.intro ?_ ?_) <;> conv => whnf)
 | omega
 | rfl
 | (refine congrArg (SV.arr _) ?_)
 | (refine congrArg (Value.int _) ?_)
 | (refine congrArg Value.bool ?_))
        · intro q hq
          by_cases hql : q < 2
          · obtain ⟨w, hw⟩ : ∃ w : List Int, @List.getD (List Int) [r, m] ((q : Int)).toNat [] = w := ⟨_, rfl⟩
            have hwf : Fit P l os w ∧ (w = m → endT l w ≤ E) := by
              rw [Int.toNat_natCast] at hw
              refine ⟨?_, fun e => by rw [e, g3]; omega⟩
              match q, hql with
              | 0, _ => rw [← hw]; exact h2
              | 1, _ => rw [← hw]; exact g2
            obtain ⟨w1, w2⟩ := hwf
            obtain ⟨r1, r2, r3⟩ := fit_rg h w1
            have c3 := Load_ok h r1 r3
            have hLl : @List.length (Ty.int .i64).T (loadL l w 24) = 24 := loadL_len
            have hLg := fun t (ht : t < 24) => loadL_get (l := l) (s := w) ht
            have hld := fun t (ht : t < 24) => fit_ld h w1 ht
            have hle := fun (t : Nat) (e : w = m) (ht : E ≤ (t : Int)) => load_end (l := l) (s := w) (t := t) (by have := w2 e; omega)
            have hSn := hAn w w1
            obtain ⟨S, hS⟩ : ∃ S : Nat → Int, S = sumZ (fun t : Nat => loadT l w (t : Int)) := ⟨_, rfl⟩
            have hS0 : S 0 = 0 := by rw [hS]; rfl
            have hSr : ∀ k, k ≤ 24 → 0 ≤ S k ∧ S k ≤ 20 * k := fun k hk => by
              rw [hS]
              exact sumZ_rg (n := 24) (by omega) (fun i hi => by have := hld i hi; omega) hk
            have hSs : ∀ k, S k + loadT l w (k : Int) = S (k + 1) := fun k => by rw [hS, sumZ]
            rw [← hS] at hSn
            obtain ⟨L, hL⟩ : ∃ L, L = loadL l w 24 := ⟨_, rfl⟩
            rw [← hL] at hLl hLg c3
            clear hS hL
            have hsm := same_at (a := w) (b := m) (by omega) (by have := g2.len; omega)
            repeat' (first
 | refine W.seq ?_
 | refine W.block ?_
 | (refine W.resub (x := Code.region 14 _ _) (Γ' := ⟨[(3, .st true (.sadr (.agg [I64 P, .arr JT l, .arr OT os]))), (6, .st true (.arr (.int .i64) (m : List Int))), (7, .lit (.int .i64 (E))), (8, .lit (.int .i64 (0))), (9, .lit (.int .i64 ((A l.length)))), (65, .st true (.arr (.sl (.int .i64)) ([r, m] : List (List Int)))), (66, .lit (.int .i64 (2))), (67, .lit (.int .i64 (q))), (12, .st true (.arr (.int .i64) (w : List Int)))], []⟩) ?_ (W.region tys_ok [] ?_); rotate_left; (conv => whnf))
 | (refine W.region tys_ok [] ?_; conv => whnf)
 | (refine W.drawAll tys_ok [] mixed rfl ?_; conv => whnf)
 | (refine W.ret ?_; conv => whnf)
 | (refine W.skip ?_; conv => whnf)
 | (refine W.exit ?_; conv => whnf)
 | (refine call_at (al := false) (c3) rfl rfl rfl rfl ?_; conv => whnf)
 | (refine W.cond rfl (fun hb => ?_) (fun hb => ?_) <;> (try simp only [Int.reduceToNat, Int.reduceTDiv, Int.reduceTMod, minL, maxL, pickB, zHB, zSH] at hb) <;> (try (first | (cases hb; done) | exact absurd hb (by decide) | (exfalso; omega) | (omega))))
 | ((with_reducible refine And.intro ?_ ?_); (focus (first | (with_reducible rfl) | omega | rfl | ((try simp only [Int.reduceToNat, Int.reduceTDiv, Int.reduceTMod, minL, maxL, pickB, zHB, zSH, InK, Path.imp, zL] at *); omega))); (conv => whnf))
 | ((with_reducible refine And.intro (Side.out ?_) ?_); rotate_left; (conv => whnf))
 | ((first | refine retF1 ?_ | refine retF2 ?_) <;> (conv => whnf) <;> repeat' (first
 | exact trivial
 | (with_reducible rfl)
 | ((with_reducible refine And.intro ?_ ?_) <;> conv => whnf)
 | omega
 | rfl
 | (refine congrArg (SV.arr _) ?_)
 | (refine congrArg (Value.int _) ?_)
 | (refine congrArg Value.bool ?_)))); all_goals (try unfold Side)
            all_goals try (repeat' (first | (with_reducible rfl) | (with_reducible refine And.intro ?_ ?_) | omega | rfl | exact Or.inl rfl | exact Or.inr rfl | exact of_decide_eq_true rfl | exact Path.imp_of (of_decide_eq_true rfl) | (focus ((try simp only [Int.reduceToNat, Int.reduceTDiv, Int.reduceTMod, minL, maxL, pickB, zHB, zSH, InK, Path.imp, zL] at *); omega)) | (refine app_le rfl ?_; omega)))
            all_goals try refine subF.ok ?_ <;> (conv => whnf) <;> repeat' (first
 | exact trivial
 | (with_reducible rfl)
 | ((with_reducible refine And.intro ?_ ?_) <;> conv => whnf)
 | omega
 | rfl
 | (refine congrArg (SV.arr _) ?_)
 | (refine congrArg (Value.int _) ?_)
 | (refine congrArg Value.bool ?_))
            all_goals try exact hw
            refine W.loop (fun t : Nat => ⟨[(3, .st true (.sadr (.agg [I64 P, .arr JT l, .arr OT os]))), (6, .st true (.arr (.int .i64) (m : List Int))), (7, .lit (.int .i64 (E))), (8, .lit (.int .i64 (0))), (9, .lit (.int .i64 ((A l.length)))), (65, .st true (.arr (.sl (.int .i64)) ([r, m] : List (List Int)))), (66, .lit (.int .i64 (2))), (67, .lit (.int .i64 (q))), (12, .st true (.arr (.int .i64) (w : List Int))), (13, .st true (.arr (.int .i64) (L : List Int))), (15, .lit (.int .i64 ((S t)))), (16, .lit (.int .i64 (t)))], []⟩) (fun t => t ≤ 24) (fun t => 24 - t) (0) ?_ ?_
            · refine ⟨Nat.zero_le _, ?_⟩
              refine subF.ok ?_ <;> (conv => whnf) <;> repeat' (first
 | exact trivial
 | (with_reducible rfl)
 | ((with_reducible refine And.intro ?_ ?_) <;> conv => whnf)
 | omega
 | rfl
 | (refine congrArg (SV.arr _) ?_)
 | (refine congrArg (Value.int _) ?_)
 | (refine congrArg Value.bool ?_))
              all_goals exact hS0.symm
            · intro t ht
              have q1 := hSr t ht
              by_cases htl : t < 24
              · have q2 := hSs t
                have q3 := hld t htl
                have q4 : L.getD t 0 = loadT l w (t : Int) := hLg t htl
                have q5 := hle t
                rw [← q4] at q2 q3 q5
                by_cases e : w = m
                · have q5 := q5 e
                  rw [decide_eq_true e] at hsm
                  repeat' (first
 | refine W.seq ?_
 | refine W.block ?_
 | (refine W.drawPh (id := 22) tys_ok [] mixed [0, 0, 3, 4, 0, 16, 40, 64, 128, 128, 896, 1152, 2048, 2048, 14336, 18432, 34816, 67712, 133248, 262144, 262144, 1835008, 2359424, 4194432] [([0, 1, 2, 3, 4, 5, 6, 7, 8, 9, 10, 11, 12, 13, 14, 15, 16, 17, 18, 19, 20], 1, 4194303), ([22, 23], 0, 16777215)] (by decide +kernel) ?_; conv => whnf)
 | (refine W.region tys_ok [] ?_; conv => whnf)
 | (refine W.drawAll tys_ok [] mixed rfl ?_; conv => whnf)
 | (refine W.ret ?_; conv => whnf)
 | (refine W.skip ?_; conv => whnf)
 | (refine W.exit ?_; conv => whnf)
 | (refine call_at (al := false) (hsm) rfl rfl rfl rfl ?_; conv => whnf)
 | (refine Both.mk ?_ ?_ <;> (conv => whnf))
 | (refine W.cond rfl (fun hb => ?_) (fun hb => ?_) <;> (try simp only [Int.reduceToNat, Int.reduceTDiv, Int.reduceTMod, minL, maxL, pickB, zHB, zSH] at hb) <;> (try (first | (cases hb; done) | exact absurd hb (by decide) | (exfalso; omega) | (omega))))
 | ((with_reducible refine And.intro ?_ ?_); (focus (first | (with_reducible rfl) | omega | rfl | ((try simp only [Int.reduceToNat, Int.reduceTDiv, Int.reduceTMod, minL, maxL, pickB, zHB, zSH, InK, Path.imp, zL] at *); omega))); (conv => whnf))
 | ((with_reducible refine And.intro (Side.out ?_) ?_); rotate_left; (conv => whnf))
 | ((first | refine retF1 ?_ | refine retF2 ?_ | refine subF.leaf ?_ | refine subF.side ?_) <;> (conv => whnf) <;> repeat' (first
 | exact trivial
 | (with_reducible rfl)
 | ((with_reducible refine And.intro ?_ ?_) <;> conv => whnf)
 | omega
 | rfl
 | (refine congrArg (SV.arr _) ?_)
 | (refine congrArg (Value.int _) ?_)
 | (refine congrArg Value.bool ?_)))); all_goals (try unfold Side)
                  all_goals try (repeat' (first | (with_reducible rfl) | (with_reducible refine And.intro ?_ ?_) | omega | rfl | exact Or.inl rfl | exact Or.inr rfl | exact of_decide_eq_true rfl | exact Path.imp_of (of_decide_eq_true rfl) | (focus ((try simp only [Int.reduceToNat, Int.reduceTDiv, Int.reduceTMod, minL, maxL, pickB, zHB, zSH, InK, Path.imp, zL] at *); omega)) | (refine app_le rfl ?_; omega)))
                  refine ⟨t + 1, ⟨by omega, by omega⟩, ?_⟩
                  refine subF.ok ?_ <;> (conv => whnf) <;> repeat' (first
 | exact trivial
 | (with_reducible rfl)
 | ((with_reducible refine And.intro ?_ ?_) <;> conv => whnf)
 | omega
 | rfl
 | (refine congrArg (SV.arr _) ?_)
 | (refine congrArg (Value.int _) ?_)
 | (refine congrArg Value.bool ?_))
                  all_goals exact q2
                · rw [decide_eq_false e] at hsm
                  repeat' (first
 | refine W.seq ?_
 | refine W.block ?_
 | (refine W.drawPh (id := 22) tys_ok [] mixed [0, 0, 3, 4, 0, 16, 40, 64, 128, 128, 896, 1152, 2048, 2048, 14336, 18432, 34816, 67712, 133248, 262144, 262144, 1835008, 2359424, 4194432] [([0, 1, 2, 3, 4, 5, 6, 7, 8, 9, 10, 11, 12, 13, 14, 15, 16, 17, 18, 19, 20], 1, 4194303), ([22, 23], 0, 16777215)] (by decide +kernel) ?_; conv => whnf)
 | (refine W.region tys_ok [] ?_; conv => whnf)
 | (refine W.drawAll tys_ok [] mixed rfl ?_; conv => whnf)
 | (refine W.ret ?_; conv => whnf)
 | (refine W.skip ?_; conv => whnf)
 | (refine W.exit ?_; conv => whnf)
 | (refine call_at (al := false) (hsm) rfl rfl rfl rfl ?_; conv => whnf)
 | (refine Both.mk ?_ ?_ <;> (conv => whnf))
 | (refine W.cond rfl (fun hb => ?_) (fun hb => ?_) <;> (try simp only [Int.reduceToNat, Int.reduceTDiv, Int.reduceTMod, minL, maxL, pickB, zHB, zSH] at hb) <;> (try (first | (cases hb; done) | exact absurd hb (by decide) | (exfalso; omega) | (omega))))
 | ((with_reducible refine And.intro ?_ ?_); (focus (first | (with_reducible rfl) | omega | rfl | ((try simp only [Int.reduceToNat, Int.reduceTDiv, Int.reduceTMod, minL, maxL, pickB, zHB, zSH, InK, Path.imp, zL] at *); omega))); (conv => whnf))
 | ((with_reducible refine And.intro (Side.out ?_) ?_); rotate_left; (conv => whnf))
 | ((first | refine retF1 ?_ | refine retF2 ?_ | refine subF.leaf ?_ | refine subF.side ?_) <;> (conv => whnf) <;> repeat' (first
 | exact trivial
 | (with_reducible rfl)
 | ((with_reducible refine And.intro ?_ ?_) <;> conv => whnf)
 | omega
 | rfl
 | (refine congrArg (SV.arr _) ?_)
 | (refine congrArg (Value.int _) ?_)
 | (refine congrArg Value.bool ?_)))); all_goals (try unfold Side)
                  all_goals try (repeat' (first | (with_reducible rfl) | (with_reducible refine And.intro ?_ ?_) | omega | rfl | exact Or.inl rfl | exact Or.inr rfl | exact of_decide_eq_true rfl | exact Path.imp_of (of_decide_eq_true rfl) | (focus ((try simp only [Int.reduceToNat, Int.reduceTDiv, Int.reduceTMod, minL, maxL, pickB, zHB, zSH, InK, Path.imp, zL] at *); omega)) | (refine app_le rfl ?_; omega)))
                  refine ⟨t + 1, ⟨by omega, by omega⟩, ?_⟩
                  refine subF.ok ?_ <;> (conv => whnf) <;> repeat' (first
 | exact trivial
 | (with_reducible rfl)
 | ((with_reducible refine And.intro ?_ ?_) <;> conv => whnf)
 | omega
 | rfl
 | (refine congrArg (SV.arr _) ?_)
 | (refine congrArg (Value.int _) ?_)
 | (refine congrArg Value.bool ?_))
                  all_goals exact q2
              · have hte : t = 24 := by omega
                subst hte
                repeat' (first
 | refine W.seq ?_
 | refine W.block ?_
 | (refine W.region tys_ok [] ?_; conv => whnf)
 | (refine W.drawAll tys_ok [] mixed rfl ?_; conv => whnf)
 | (refine W.ret ?_; conv => whnf)
 | (refine W.skip ?_; conv => whnf)
 | (refine W.exit ?_; conv => whnf)
 | (refine W.cond rfl (fun hb => ?_) (fun hb => ?_) <;> (try simp only [Int.reduceToNat, Int.reduceTDiv, Int.reduceTMod, minL, maxL, pickB, zHB, zSH] at hb) <;> (try (first | (cases hb; done) | exact absurd hb (by decide) | (exfalso; omega) | (omega))))
 | ((with_reducible refine And.intro ?_ ?_); (focus (first | (with_reducible rfl) | omega | rfl | ((try simp only [Int.reduceToNat, Int.reduceTDiv, Int.reduceTMod, minL, maxL, pickB, zHB, zSH, InK, Path.imp, zL] at *); omega))); (conv => whnf))
 | ((with_reducible refine And.intro (Side.out ?_) ?_); rotate_left; (conv => whnf))
 | ((first | refine retF1 ?_ | refine retF2 ?_) <;> (conv => whnf) <;> repeat' (first
 | exact trivial
 | (with_reducible rfl)
 | ((with_reducible refine And.intro ?_ ?_) <;> conv => whnf)
 | omega
 | rfl
 | (refine congrArg (SV.arr _) ?_)
 | (refine congrArg (Value.int _) ?_)
 | (refine congrArg Value.bool ?_)))); all_goals (try unfold Side)
                all_goals try (repeat' (first | (with_reducible rfl) | (with_reducible refine And.intro ?_ ?_) | omega | rfl | exact Or.inl rfl | exact Or.inr rfl | exact of_decide_eq_true rfl | exact Path.imp_of (of_decide_eq_true rfl) | (focus ((try simp only [Int.reduceToNat, Int.reduceTDiv, Int.reduceTMod, minL, maxL, pickB, zHB, zSH, InK, Path.imp, zL] at *); omega)) | (refine app_le rfl ?_; omega)))
                refine ⟨q + 1, ⟨by omega, by omega⟩, ?_⟩
                refine subF.ok ?_ <;> (conv => whnf) <;> repeat' (first
 | exact trivial
 | (with_reducible rfl)
 | ((with_reducible refine And.intro ?_ ?_) <;> conv => whnf)
 | omega
 | rfl
 | (refine congrArg (SV.arr _) ?_)
 | (refine congrArg (Value.int _) ?_)
 | (refine congrArg Value.bool ?_))
          · repeat' (first
 | refine W.seq ?_
 | refine W.block ?_
 | (refine W.region tys_ok [] ?_; conv => whnf)
 | (refine W.drawAll tys_ok [] mixed rfl ?_; conv => whnf)
 | (refine W.ret ?_; conv => whnf)
 | (refine W.skip ?_; conv => whnf)
 | (refine W.exit ?_; conv => whnf)
 | (refine call_at (al := false) (lives_at) rfl rfl rfl rfl ?_; conv => whnf)
 | (refine W.cond rfl (fun hb => ?_) (fun hb => ?_) <;> (try simp only [Int.reduceToNat, Int.reduceTDiv, Int.reduceTMod, minL, maxL, pickB, zHB, zSH] at hb) <;> (try (first | (cases hb; done) | exact absurd hb (by decide) | (exfalso; omega) | (omega))))
 | ((with_reducible refine And.intro ?_ ?_); (focus (first | (with_reducible rfl) | omega | rfl | ((try simp only [Int.reduceToNat, Int.reduceTDiv, Int.reduceTMod, minL, maxL, pickB, zHB, zSH, InK, Path.imp, zL] at *); omega))); (conv => whnf))
 | ((with_reducible refine And.intro (Side.out ?_) ?_); rotate_left; (conv => whnf))
 | ((first | refine retF1 ?_ | refine retF2 ?_) <;> (conv => whnf) <;> repeat' (first
 | exact trivial
 | (with_reducible rfl)
 | ((with_reducible refine And.intro ?_ ?_) <;> conv => whnf)
 | omega
 | rfl
 | (refine congrArg (SV.arr _) ?_)
 | (refine congrArg (Value.int _) ?_)
 | (refine congrArg Value.bool ?_)))); all_goals (try unfold Side)
            all_goals try (repeat' (first | (with_reducible rfl) | (with_reducible refine And.intro ?_ ?_) | omega | rfl | exact Or.inl rfl | exact Or.inr rfl | exact of_decide_eq_true rfl | exact Path.imp_of (of_decide_eq_true rfl) | (focus ((try simp only [Int.reduceToNat, Int.reduceTDiv, Int.reduceTMod, minL, maxL, pickB, zHB, zSH, InK, Path.imp, zL] at *); omega)) | (refine app_le rfl ?_; omega)))
            all_goals try refine subF.ok ?_ <;> (conv => whnf) <;> repeat' (first
 | exact trivial
 | (with_reducible rfl)
 | ((with_reducible refine And.intro ?_ ?_) <;> conv => whnf)
 | omega
 | rfl
 | (refine congrArg (SV.arr _) ?_)
 | (refine congrArg (Value.int _) ?_)
 | (refine congrArg Value.bool ?_))
end Go.Proofs.Ytmfholchenihaaa
