/- Joined of: R19. No condition. -/
import Derived.Test.YtkjcnegkdlmapaaJ7
import Derived.Test.YtkjcnegkdlmapaaJ9
import Derived.Test.YtkjcnegkdlmapaaJ12

namespace Go.Proofs.Ytkjcnegkdlmapaa
open Go Go.Vc Go.Rg
set_option linter.unusedVariables false
set_option linter.unusedSimpArgs false
abbrev AR : Ty := .cons (.int .u8) (.cons (.int .i64) (.cons (.int .i64) .nil))
variable {n : Nat} {pet : Bool} {r : Rn}
theorem cvD_len : (cvD r).1.length = r.1.length := by unfold cvD; rw [List.length_map]
theorem startE_cv {i : Int} : startDE i (cvD r) = startE i r := by
  unfold startDE startE
  rw [cvD_len]
  by_cases h : hasB r.1.length i = true
  · rw [if_pos h, if_pos h]
    obtain ⟨j, rfl, hj⟩ := has_nat h
    rw [Int.toNat_natCast]
    have e := cv_get hj
    have eB : wB (cvD r).1 j = pB r.1 j := by unfold wB cvD; rw [e]; rfl
    rw [eB]
  · rw [if_neg h, if_neg h]
theorem startK_cv {i : Int} : startDK i (cvD r) = cvD (startK i r) := by
  unfold startDK startK
  rw [startE_cv]
  by_cases h : startE i r = 0
  · rw [if_pos h, if_pos h]
    have h1 : hasB r.1.length i = true := by
      unfold startE at h
      by_cases c : hasB r.1.length i = true
      · exact c
      · rw [if_neg c] at h; cases h
    obtain ⟨j, rfl, hj⟩ := has_nat h1
    rw [Int.toNat_natCast]
    exact begin_cv hj
  · rw [if_neg h, if_neg h]
theorem rdelE_cv {i : Int} : rdelDE i (cvD r) = rdelE i r := by
  unfold rdelDE rdelE
  rw [cvD_len]; rfl
theorem rdelK_cv (h : ROk n pet r) {i : Int} : rdelDK pet i (cvD r) = cvD (rdelK pet i r) := by
  unfold rdelDK rdelK
  rw [rdelE_cv]
  by_cases h0 : rdelE i r = 0
  · rw [if_pos h0, if_pos h0]
    unfold rdelE at h0
    by_cases c : hasB r.1.length i = true
    · rw [if_pos c] at h0
      obtain ⟨j, rfl, hj⟩ := has_nat c
      rw [Int.toNat_natCast] at h0 ⊢
      refine del_cv h (by rw [← h.len]; exact hj) fun e => ?_
      rw [if_pos e] at h0; cases h0
    · rw [if_neg c] at h0; cases h0
  · rw [if_neg h0, if_neg h0]
theorem start_sent' {i : Int} : (startK i r).2.2 ≤ r.2.2 + 2 := by
  unfold startK
  split
  · show r.2.2 + 1 ≤ _; omega
  · omega
theorem del_sent' {i : Int} : (rdelK pet i r).2.2 ≤ r.2.2 + 2 := by
  unfold rdelK
  split
  · exact recv_sent
  · omega
set_option maxHeartbeats 16000000 in
theorem RingPlays_good {x : List Int} {acts : List AR.T} {xs : List Int} (hx : xs = x.take 11) (h1 : 1 ≤ xs.length) (h2 : xs.length ≤ 10) (hg : ∀ i, i < xs.length → goodAt xs i) : FnAt Try.prog false 9 [.arr (.int .i64) x, .lit (.bool pet), .arr AR acts] (.lit (.bool true)) [] := by
  have hl : @List.length (Ty.int .i64).T x = x.length := rfl
  have hla : @List.length AR.T acts = acts.length := rfl
  have hxl : xs.length ≤ 11 := by rw [hx, List.length_take]; omega
  have em : (minL (x.length : Int) [(11 : Int)]).toNat = min x.length 11 := by simp only [minL]; omega
  have em' : 0 ≤ minL (x.length : Int) [(11 : Int)] ∧ minL (x.length : Int) [(11 : Int)] ≤ x.length := by simp only [minL]; omega
  have ex : List.drop 0 (List.take (minL (x.length : Int) [(11 : Int)]).toNat x) = xs := by
    rw [em, List.drop_zero, hx, Nat.min_comm, ← List.take_take, List.take_length]
  have ex' : ([] : List Int) ++ List.drop 0 (List.take (minL (x.length : Int) [(11 : Int)]).toNat x) = xs := ex
  have exl : 0 + (List.drop 0 (List.take (minL (x.length : Int) [(11 : Int)]).toNat x)).length ≤ 4294967296 := by rw [ex]; omega
  have exl' : ([] : List Int).length + (List.drop 0 (List.take (minL (x.length : Int) [(11 : Int)]).toNat x)).length ≤ 4294967296 := by rw [ex]; simp; omega
  have c8 := lives_at
  have c1 := new_ok (pet := pet) h1 h2 hg
  have c3 := valid_at (xs := xs) (b := true) (by omega) ⟨fun _ => ⟨⟨h1, h2⟩, hg⟩, fun _ => rfl⟩
  have c4 := rnew_at (xs := xs) (pet := pet) (by omega)
  obtain ⟨n, hn⟩ : ∃ n, n = xs.length := ⟨_, rfl⟩
  have hk0 : ROk n pet (rnew xs) := by rw [hn]; exact ROk.new (by omega) h2
  refine FnAt.of_body tys_ok Try.func9 (by rfl) rfl Try.ntmps9 (by rw [Try.results9]) (by simp) ?_
  
  repeat' (first
 | refine W.seq ?_
 | refine W.block ?_
 | (refine W.resub (x := Code.region 2 _ _) (Γ' := ⟨[(1, .lit (.bool pet)), (2, .st false (.arr AR acts)), (7, .st true (.arr (.int .i64) (xs : List Int)))], []⟩) ?_ (W.regionM tys_ok [] [2] ?_); rotate_left; (conv => whnf))
 | (refine W.regionM (id := 5) tys_ok [] [2] ?_; conv => whnf)
 | (refine W.region tys_ok [] ?_; conv => whnf)
 | (refine W.drawAll tys_ok [] mixed rfl ?_; conv => whnf)
 | (refine W.ret ?_; conv => whnf)
 | (refine W.skip ?_; conv => whnf)
 | (refine W.exit ?_; conv => whnf)
 | (refine callM_at (c1) ?_; conv => whnf)
 | (refine call_at (al := false) (c3) rfl rfl rfl rfl ?_; conv => whnf)
 | (refine callM_at (c4) ?_; conv => whnf)
 | (refine call_at (al := false) (c8) rfl rfl rfl rfl ?_; conv => whnf)
 | (refine W.cond rfl (fun hb => ?_) (fun hb => ?_) <;> (try simp only [Int.reduceToNat, Int.reduceTDiv, Int.reduceTMod, minL, maxL, pickB, zHB, zSH] at hb) <;> (try (first | (cases hb; done) | exact absurd hb (by decide) | (exfalso; omega) | (omega) | ((simp [pickB] at hb; omega)))))
 | (refine Or.inl (And.intro ?_ ?_); (focus (first | exact trivial | exact ⟨rfl, trivial⟩ | (refine ⟨?_, trivial⟩; dsimp only; simp only [Int.reduceToNat, Int.reduceTDiv, Int.reduceTMod, minL, maxL, pickB, zHB, zSH]; omega) | (refine ⟨?_, trivial⟩; dsimp only; (try simp only [Int.reduceToNat, Int.reduceTDiv, Int.reduceTMod, minL, maxL, pickB, zHB, zSH]); (simp_all; done)) | (refine ⟨?_, trivial⟩; dsimp only; (simp only [Int.reduceToNat, Int.reduceTDiv, Int.reduceTMod, minL, maxL, pickB, zHB, zSH]; done)) | (refine ⟨?_, trivial⟩; dsimp only; (simp; done)))); (conv => whnf))
 | (refine Or.inr (And.intro ?_ ?_); (focus (intro h; have h := h.1; dsimp only at h; first | (exact Bool.noConfusion h) | (simp only [Int.reduceToNat, Int.reduceTDiv, Int.reduceTMod, minL, maxL, pickB, zHB, zSH] at h; omega) | ((try simp only [Int.reduceToNat, Int.reduceTDiv, Int.reduceTMod, minL, maxL, pickB, zHB, zSH] at h); (simp_all; done)))); (conv => whnf))
 | ((with_reducible refine And.intro ?_ ?_); (focus (first | (with_reducible rfl) | omega | rfl | ((try simp only [Int.reduceToNat, Int.reduceTDiv, Int.reduceTMod, minL, maxL, pickB, zHB, zSH, InK, Path.imp, zL] at *); omega))); (conv => whnf))
 | ((with_reducible refine And.intro (Side.out ?_) ?_); rotate_left; (conv => whnf))
 | ((first | refine retF1 ?_ | refine retF2 ?_) <;> (conv => whnf) <;> repeat' (first
 | exact trivial
 | (with_reducible rfl)
 | ((with_reducible refine And.intro ?_ ?_) <;> conv => whnf)
 | omega
 | rfl
 | (refine congrArg (SV.arr _) ?_)
 | (refine congrArg (Value.int _) ?_)
 | (refine congrArg Value.bool ?_)))); all_goals (try unfold Side)
  all_goals try refine subF.ok ?_ <;> (conv => whnf) <;> repeat' (first
 | exact trivial
 | (with_reducible rfl)
 | ((with_reducible refine And.intro ?_ ?_) <;> conv => whnf)
 | omega
 | rfl
 | (refine congrArg (SV.arr _) ?_)
 | (refine congrArg (Value.int _) ?_)
 | (refine congrArg Value.bool ?_))
  all_goals try (repeat' (first | (with_reducible rfl) | (with_reducible refine And.intro ?_ ?_) | omega | rfl | exact Or.inl rfl | exact Or.inr rfl | exact of_decide_eq_true rfl | exact Path.imp_of (of_decide_eq_true rfl) | (focus ((try simp only [Int.reduceToNat, Int.reduceTDiv, Int.reduceTMod, minL, maxL, pickB, zHB, zSH, InK, Path.imp, zL] at *); omega)) | (refine app_le rfl ?_; omega)))
  all_goals first | exact ex | exact ex' | exact exl | exact exl' | exact Path.imp_of em' | exact congrArg _ ex | exact congrArg _ ex' | skip
  refine W.loop (fun p : Nat × Rn => ⟨[(2, .st false (.arr AR acts)), (8, .padr 9000 0), (10, .padr 9003 0), (11, (.lit (.int .i64 (p.1 : Int))))], [(9000, .box [.lit (.bool true), .lit (.bool pet), .own 9001, .mown 9002, (.lit (.int .i64 ((p.2).2.2 : Int)))]), (9001, .row 105 PT true (p.2).1), (9002, .mat 80 91 NT true (p.2).2.1 none), (9003, .box [.lit (.bool pet), .own 9004, .own 9005, (.lit (.int .i64 ((p.2).2.2 : Int)))]), (9004, .row 111 WT true ((p.2).1.map cv)), (9005, .row 80 (.sl NT) true (p.2).2.1)]⟩) (fun p => p.1 ≤ acts.length ∧ ROk n pet p.2 ∧ p.2.2.2 ≤ 2 * p.1 ∧ p.1 ≤ 150) (fun p => acts.length - p.1) ((0, rnew xs)) ?_ ?_
  · refine ⟨⟨Nat.zero_le _, hk0, Int.le_refl _, Nat.zero_le _⟩, ?_⟩
    refine subF.ok ?_ <;> (conv => whnf) <;> repeat' (first
 | exact trivial
 | (with_reducible rfl)
 | ((with_reducible refine And.intro ?_ ?_) <;> conv => whnf)
 | omega
 | rfl
 | (refine congrArg (SV.arr _) ?_)
 | (refine congrArg (Value.int _) ?_)
 | (refine congrArg Value.bool ?_))
  · rintro ⟨i, r⟩ ⟨hi, hk, hsn, hi1⟩
    dsimp only at hi hk hsn hi1 ⊢
    by_cases hil : i < acts.length ∧ i < 150
    · obtain ⟨hia, hi2⟩ := hil
      obtain ⟨κ, hκ⟩ : ∃ κ : Int, κ = (acts.getD i AR.dflt).1 := ⟨_, rfl⟩
      obtain ⟨a, ha⟩ : ∃ a : Int, a = (acts.getD i AR.dflt).2.1 := ⟨_, rfl⟩
      have ia : 0 ≤ (i : Int) ∧ i < @List.length AR.T acts := ⟨by omega, hia⟩
      have hs0 := hk.s0
      have hlm : (cvD r).1.length = r.1.length := cvD_len
      have key : ∃ e r2, (κ.tmod 4 = 0 ∧ e = startE a r ∧ r2 = startK a r) ∨ (κ.tmod 4 = 3 ∧ e = 0 ∧ r2 = r) ∨ ((κ.tmod 4 ≠ 0 ∧ κ.tmod 4 ≠ 3) ∧ e = rdelE a r ∧ r2 = rdelK pet a r) := by
        by_cases k0 : κ.tmod 4 = 0
        · exact ⟨_, _, .inl ⟨k0, rfl, rfl⟩⟩
        · by_cases k3 : κ.tmod 4 = 3
          · exact ⟨_, _, .inr (.inl ⟨k3, rfl, rfl⟩)⟩
          · exact ⟨_, _, .inr (.inr ⟨⟨k0, k3⟩, rfl, rfl⟩)⟩
      obtain ⟨e, r2, key⟩ := key
      have hk2 : ROk n pet r2 ∧ r2.2.2 ≤ r.2.2 + 2 := by
        rcases key with ⟨_, _, hr⟩ | ⟨_, _, hr⟩ | ⟨_, _, hr⟩ <;> rw [hr]
        · exact ⟨hk.start, start_sent'⟩
        · exact ⟨hk, by omega⟩
        · exact ⟨hk.del, del_sent'⟩
      obtain ⟨hk2, hsn2⟩ := hk2
      have c5 := rings_at (pet := pet) (r := r2) hk2 (by omega)
      have c6 := ringclone_at (pet := pet) (r := r) hk (by omega)
      have s1 : e = startE a r → r2 = startK a r → _ := fun he hr => start_ring (pet := pet) (i := a) hk (by omega) he.symm hr.symm
      have s2 : e = startE a r → r2 = startK a r → _ := fun he hr => startd_at (pet := pet) (d := cvD r) (i := a) (d2 := cvD r2) (by rw [hlm, hk.len]; exact hk.fln) hk.fl ⟨hs0, by show r.2.2 ≤ 1000000; omega⟩ (by rw [hlm, hk.len]; have := hk.n1; omega) (startE_cv.trans he.symm) (by rw [startK_cv, hr])
      have t1 : e = rdelE a r → r2 = rdelK pet a r → _ := fun he hr => deliver_ring (pet := pet) (i := a) hk (by omega) he.symm hr.symm
      have t2 : e = rdelE a r → r2 = rdelK pet a r → _ := fun he hr => delivd_at (pet := pet) (d := cvD r) (i := a) (d2 := cvD r2) (by rw [hlm, hk.len]; exact hk.n0) (by rw [hlm, hk.len]; exact hk.fln) hk.fl ⟨hs0, by show r.2.2 ≤ 900000; omega⟩ (by rw [hlm, hk.len]; have := hk.n1; omega) hk.kd (rdelE_cv.trans he.symm) (by rw [rdelK_cv hk, hr])
      rcases key with ⟨k1, he, hr⟩ | ⟨k1, he, hr⟩ | ⟨k1, he, hr⟩
      all_goals
        repeat' (first
 | refine W.seq ?_
 | refine W.block ?_
 | (refine W.drawMTo (id := 15) tys_ok [] [6, 13] mixed [0, 0, 0, 6, 8, 16, 33, 0, 0, 0, 768, 1024, 2048, 4288, 8319, 32767] [([0, 1, 2, 3, 4, 5, 7, 8, 9, 10, 11, 12], 1, 8191), ([], 1, 16383), ([14, 15], 0, 65535)] ⟨[(2, .st false (.arr AR acts)), (8, .padr 9000 0), (10, .padr 9003 0), (11, (.lit (.int .i64 (i : Int)))), (12, (.lit (.int .i64 (e : Int)))), (13, (.lit (.int .i64 (e : Int))))], [(9000, .box [.lit (.bool true), .lit (.bool pet), .own 9001, .mown 9002, (.lit (.int .i64 ((r2).2.2 : Int)))]), (9001, .row 105 PT true (r2).1), (9002, .mat 80 91 NT true (r2).2.1 none), (9003, .box [.lit (.bool pet), .own 9004, .own 9005, (.lit (.int .i64 ((r2).2.2 : Int)))]), (9004, .row 111 WT true ((r2).1.map cv)), (9005, .row 80 (.sl NT) true (r2).2.1)]⟩ (by decide +kernel) ?_ ?_ <;> (conv => whnf))
 | (refine W.drawMTo (id := 13) tys_ok [] [6, 13] mixed [0, 0, 0, 6, 8, 16, 33, 0, 0, 0, 768, 1024, 2048, 4288, 8319, 32767] [([0, 1, 2, 3, 4, 5, 7, 8, 9, 10, 11, 12], 1, 8191), ([], 1, 16383), ([14, 15], 0, 65535)] ⟨[(2, .st false (.arr AR acts)), (8, .padr 9000 0), (10, .padr 9003 0), (11, (.lit (.int .i64 (i : Int)))), (12, (.lit (.int .i64 (e : Int)))), (13, (.lit (.int .i64 (e : Int))))], [(9000, .box [.lit (.bool true), .lit (.bool pet), .own 9001, .mown 9002, (.lit (.int .i64 ((r2).2.2 : Int)))]), (9001, .row 105 PT true (r2).1), (9002, .mat 80 91 NT true (r2).2.1 none), (9003, .box [.lit (.bool pet), .own 9004, .own 9005, (.lit (.int .i64 ((r2).2.2 : Int)))]), (9004, .row 111 WT true ((r2).1.map cv)), (9005, .row 80 (.sl NT) true (r2).2.1)]⟩ (by decide +kernel) ?_ ?_ <;> (conv => whnf))
 | (refine W.regionM (id := 17) tys_ok [] [1] ?_; conv => whnf)
 | (refine W.resub (x := Code.region 20 _ _) (Γ' := ⟨[(2, .st false (.arr AR acts)), (8, .padr 9000 0), (10, .padr 9003 0), (11, (.lit (.int .i64 (i : Int)))), (12, (.lit (.int .i64 (e : Int)))), (13, (.lit (.int .i64 (e : Int))))], [(9000, .box [.lit (.bool true), .lit (.bool pet), .own 9001, .mown 9002, (.lit (.int .i64 ((r2).2.2 : Int)))]), (9001, .row 105 PT true (r2).1), (9002, .mat 80 91 NT true (r2).2.1 none), (9003, .box [.lit (.bool pet), .own 9004, .own 9005, (.lit (.int .i64 ((r2).2.2 : Int)))]), (9004, .row 111 WT true ((r2).1.map cv)), (9005, .row 80 (.sl NT) true (r2).2.1)]⟩) ?_ (W.regionM tys_ok [] [6] ?_); rotate_left; (conv => whnf))
 | (refine W.region tys_ok [] ?_; conv => whnf)
 | (refine W.drawAll tys_ok [] mixed rfl ?_; conv => whnf)
 | (refine W.ret ?_; conv => whnf)
 | (refine W.skip ?_; conv => whnf)
 | (refine W.exit ?_; conv => whnf)
 | (refine callM_at (s1 he hr) ?_; conv => whnf)
 | (refine callM_at (s2 he hr) ?_; conv => whnf)
 | (refine callM_at (t1 he hr) ?_; conv => whnf)
 | (refine callM_at (t2 he hr) ?_; conv => whnf)
 | (refine callM_at (c6) ?_; conv => whnf)
 | (refine callM_at (c5) ?_; conv => whnf)
 | (refine Both.mk ?_ ?_ <;> (conv => whnf))
 | (refine W.cond rfl (fun hb => ?_) (fun hb => ?_) <;> (try simp only [Int.reduceToNat, Int.reduceTDiv, Int.reduceTMod, minL, maxL, pickB, zHB, zSH] at hb) <;> (try (first | (cases hb; done) | exact absurd hb (by decide) | (exfalso; omega) | (omega) | ((rw [← hκ] at hb; omega)) | ((rw [Int.toNat_natCast, ← hκ] at hb; omega)) | ((simp [pickB] at hb; omega)))))
 | (refine Or.inl (And.intro ?_ ?_); (focus (first | exact trivial | exact ⟨rfl, trivial⟩ | (refine ⟨?_, trivial⟩; dsimp only; simp only [Int.reduceToNat, Int.reduceTDiv, Int.reduceTMod, minL, maxL, pickB, zHB, zSH]; omega) | (refine ⟨?_, trivial⟩; dsimp only; (try simp only [Int.reduceToNat, Int.reduceTDiv, Int.reduceTMod, minL, maxL, pickB, zHB, zSH]); (simp_all; done)) | (refine ⟨?_, trivial⟩; dsimp only; (simp only [Int.reduceToNat, Int.reduceTDiv, Int.reduceTMod, minL, maxL, pickB, zHB, zSH]; done)) | (refine ⟨?_, trivial⟩; dsimp only; (simp; done)))); (conv => whnf))
 | (refine Or.inr (And.intro ?_ ?_); (focus (intro h; have h := h.1; dsimp only at h; first | (exact Bool.noConfusion h) | (simp only [Int.reduceToNat, Int.reduceTDiv, Int.reduceTMod, minL, maxL, pickB, zHB, zSH] at h; omega) | ((try simp only [Int.reduceToNat, Int.reduceTDiv, Int.reduceTMod, minL, maxL, pickB, zHB, zSH] at h); (simp_all; done)))); (conv => whnf))
 | ((with_reducible refine And.intro ?_ ?_); (focus (first | (with_reducible rfl) | omega | rfl | ((try simp only [Int.reduceToNat, Int.reduceTDiv, Int.reduceTMod, minL, maxL, pickB, zHB, zSH, InK, Path.imp, zL] at *); omega))); (conv => whnf))
 | ((with_reducible refine And.intro (Side.out ?_) ?_); rotate_left; (conv => whnf))
 | ((first | refine retF1 ?_ | refine retF2 ?_ | refine subF.leaf ?_ | refine subF.side ?_) <;> (conv => whnf) <;> repeat' (first
 | exact trivial
 | (with_reducible rfl)
 | ((with_reducible refine And.intro ?_ ?_) <;> conv => whnf)
 | omega
 | rfl
 | (refine congrArg (SV.arr _) ?_)
 | (refine congrArg (Value.int _) ?_)
 | (refine congrArg Value.bool ?_)))); all_goals (try unfold Side)
      all_goals first | exact congrArg (fun r : Rn => r.2.2) hr.symm | exact congrArg (fun r : Rn => r.1) hr.symm | exact congrArg (fun r : Rn => r.2.1) hr.symm | exact congrArg (fun r : Rn => r.1.map cv) hr.symm | exact he.symm | exact ha.symm | exact Path.imp_of ia | exact ia.2 | skip
      all_goals
        refine ⟨(i + 1, r2), ⟨⟨by dsimp only; omega, hk2, by dsimp only; omega, by dsimp only; omega⟩, by dsimp only; omega⟩, ?_⟩
        refine subF.ok ?_ <;> (conv => whnf) <;> repeat' (first
 | exact trivial
 | (with_reducible rfl)
 | ((with_reducible refine And.intro ?_ ?_) <;> conv => whnf)
 | omega
 | rfl
 | (refine congrArg (SV.arr _) ?_)
 | (refine congrArg (Value.int _) ?_)
 | (refine congrArg Value.bool ?_))
    · repeat' (first
 | refine W.seq ?_
 | refine W.block ?_
 | (refine W.region tys_ok [] ?_; conv => whnf)
 | (refine W.drawAll tys_ok [] mixed rfl ?_; conv => whnf)
 | (refine W.ret ?_; conv => whnf)
 | (refine W.skip ?_; conv => whnf)
 | (refine W.exit ?_; conv => whnf)
 | (refine W.cond rfl (fun hb => ?_) (fun hb => ?_) <;> (try simp only [Int.reduceToNat, Int.reduceTDiv, Int.reduceTMod, minL, maxL, pickB, zHB, zSH] at hb) <;> (try (first | (cases hb; done) | exact absurd hb (by decide) | (exfalso; omega) | (omega) | ((simp [pickB] at hb; omega)))))
 | ((with_reducible refine And.intro ?_ ?_); (focus (first | (with_reducible rfl) | omega | rfl | ((try simp only [Int.reduceToNat, Int.reduceTDiv, Int.reduceTMod, minL, maxL, pickB, zHB, zSH, InK, Path.imp, zL] at *); omega))); (conv => whnf))
 | ((with_reducible refine And.intro (Side.out ?_) ?_); rotate_left; (conv => whnf))
 | ((first | refine retF1 ?_ | refine retF2 ?_) <;> (conv => whnf) <;> repeat' (first
 | exact trivial
 | (with_reducible rfl)
 | ((with_reducible refine And.intro ?_ ?_) <;> conv => whnf)
 | omega
 | rfl
 | (refine congrArg (SV.arr _) ?_)
 | (refine congrArg (Value.int _) ?_)
 | (refine congrArg Value.bool ?_)))); all_goals (try unfold Side)
      all_goals try (repeat' (first | (with_reducible rfl) | (with_reducible refine And.intro ?_ ?_) | omega | rfl | exact Or.inl rfl | exact Or.inr rfl | exact of_decide_eq_true rfl | exact Path.imp_of (of_decide_eq_true rfl) | (focus ((try simp only [Int.reduceToNat, Int.reduceTDiv, Int.reduceTMod, minL, maxL, pickB, zHB, zSH, InK, Path.imp, zL] at *); omega)) | (refine app_le rfl ?_; omega)))
set_option maxHeartbeats 4000000 in
theorem RingPlays_bad {x : List Int} {acts : List AR.T} {xs : List Int} (hx : xs = x.take 11) (hg : ¬ ((1 ≤ xs.length ∧ xs.length ≤ 10) ∧ ∀ i, i < xs.length → goodAt xs i)) : FnAt Try.prog false 9 [.arr (.int .i64) x, .lit (.bool pet), .arr AR acts] (.lit (.bool true)) [] := by
  have hl : @List.length (Ty.int .i64).T x = x.length := rfl
  have hxl : xs.length ≤ 11 := by rw [hx, List.length_take]; omega
  have em : (minL (x.length : Int) [(11 : Int)]).toNat = min x.length 11 := by simp only [minL]; omega
  have em' : 0 ≤ minL (x.length : Int) [(11 : Int)] ∧ minL (x.length : Int) [(11 : Int)] ≤ x.length := by simp only [minL]; omega
  have ex : List.drop 0 (List.take (minL (x.length : Int) [(11 : Int)]).toNat x) = xs := by
    rw [em, List.drop_zero, hx, Nat.min_comm, ← List.take_take, List.take_length]
  have ex' : ([] : List Int) ++ List.drop 0 (List.take (minL (x.length : Int) [(11 : Int)]).toNat x) = xs := ex
  have exl : 0 + (List.drop 0 (List.take (minL (x.length : Int) [(11 : Int)]).toNat x)).length ≤ 4294967296 := by rw [ex]; omega
  have exl' : ([] : List Int).length + (List.drop 0 (List.take (minL (x.length : Int) [(11 : Int)]).toNat x)).length ≤ 4294967296 := by rw [ex]; simp; omega
  have c8 := lives_at
  have c1 : FnM Try.prog 27 [.st false (.arr (.int .i64) xs), .lit (.bool pet)] [] (.tup [.lit (.pointer none), (.lit (.int .i64 (1 : Int)))]) [] := by
    by_cases h : 1 ≤ xs.length ∧ xs.length ≤ 10
    · exact new_bad h.1 h.2 fun h' => hg ⟨h, h'⟩
    · exact new_len (by omega)
  have c3 := valid_at (xs := xs) (b := false) (by omega) ⟨fun h => Bool.noConfusion h, fun h => absurd h hg⟩
  refine FnAt.of_body tys_ok Try.func9 (by rfl) rfl Try.ntmps9 (by rw [Try.results9]) (by simp) ?_
  
  repeat' (first
 | refine W.seq ?_
 | refine W.block ?_
 | (refine W.resub (x := Code.region 2 _ _) (Γ' := ⟨[(1, .lit (.bool pet)), (2, .st false (.arr AR acts)), (7, .st true (.arr (.int .i64) (xs : List Int)))], []⟩) ?_ (W.regionM tys_ok [] [2] ?_); rotate_left; (conv => whnf))
 | (refine W.region tys_ok [] ?_; conv => whnf)
 | (refine W.drawAll tys_ok [] mixed rfl ?_; conv => whnf)
 | (refine W.ret ?_; conv => whnf)
 | (refine W.skip ?_; conv => whnf)
 | (refine W.exit ?_; conv => whnf)
 | (refine callM_at (c1) ?_; conv => whnf)
 | (refine call_at (al := false) (c3) rfl rfl rfl rfl ?_; conv => whnf)
 | (refine call_at (al := false) (c8) rfl rfl rfl rfl ?_; conv => whnf)
 | (refine W.cond rfl (fun hb => ?_) (fun hb => ?_) <;> (try simp only [Int.reduceToNat, Int.reduceTDiv, Int.reduceTMod, minL, maxL, pickB, zHB, zSH] at hb) <;> (try (first | (cases hb; done) | exact absurd hb (by decide) | (exfalso; omega) | (omega) | ((simp [pickB] at hb; omega)))))
 | (refine Or.inl (And.intro ?_ ?_); (focus (first | exact trivial | exact ⟨rfl, trivial⟩ | (refine ⟨?_, trivial⟩; dsimp only; simp only [Int.reduceToNat, Int.reduceTDiv, Int.reduceTMod, minL, maxL, pickB, zHB, zSH]; omega) | (refine ⟨?_, trivial⟩; dsimp only; (try simp only [Int.reduceToNat, Int.reduceTDiv, Int.reduceTMod, minL, maxL, pickB, zHB, zSH]); (simp_all; done)) | (refine ⟨?_, trivial⟩; dsimp only; (simp only [Int.reduceToNat, Int.reduceTDiv, Int.reduceTMod, minL, maxL, pickB, zHB, zSH]; done)) | (refine ⟨?_, trivial⟩; dsimp only; (simp; done)))); (conv => whnf))
 | (refine Or.inr (And.intro ?_ ?_); (focus (intro h; have h := h.1; dsimp only at h; first | (exact Bool.noConfusion h) | (simp only [Int.reduceToNat, Int.reduceTDiv, Int.reduceTMod, minL, maxL, pickB, zHB, zSH] at h; omega) | ((try simp only [Int.reduceToNat, Int.reduceTDiv, Int.reduceTMod, minL, maxL, pickB, zHB, zSH] at h); (simp_all; done)))); (conv => whnf))
 | ((with_reducible refine And.intro ?_ ?_); (focus (first | (with_reducible rfl) | omega | rfl | ((try simp only [Int.reduceToNat, Int.reduceTDiv, Int.reduceTMod, minL, maxL, pickB, zHB, zSH, InK, Path.imp, zL] at *); omega))); (conv => whnf))
 | ((with_reducible refine And.intro (Side.out ?_) ?_); rotate_left; (conv => whnf))
 | ((first | refine retF1 ?_ | refine retF2 ?_) <;> (conv => whnf) <;> repeat' (first
 | exact trivial
 | (with_reducible rfl)
 | ((with_reducible refine And.intro ?_ ?_) <;> conv => whnf)
 | omega
 | rfl
 | (refine congrArg (SV.arr _) ?_)
 | (refine congrArg (Value.int _) ?_)
 | (refine congrArg Value.bool ?_)))); all_goals (try unfold Side)
  all_goals try refine subF.ok ?_ <;> (conv => whnf) <;> repeat' (first
 | exact trivial
 | (with_reducible rfl)
 | ((with_reducible refine And.intro ?_ ?_) <;> conv => whnf)
 | omega
 | rfl
 | (refine congrArg (SV.arr _) ?_)
 | (refine congrArg (Value.int _) ?_)
 | (refine congrArg Value.bool ?_))
  all_goals try (repeat' (first | (with_reducible rfl) | (with_reducible refine And.intro ?_ ?_) | omega | rfl | exact Or.inl rfl | exact Or.inr rfl | exact of_decide_eq_true rfl | exact Path.imp_of (of_decide_eq_true rfl) | (focus ((try simp only [Int.reduceToNat, Int.reduceTDiv, Int.reduceTMod, minL, maxL, pickB, zHB, zSH, InK, Path.imp, zL] at *); omega)) | (refine app_le rfl ?_; omega)))
  all_goals first | exact ex | exact ex' | exact exl | exact exl' | exact Path.imp_of em' | exact congrArg _ ex | exact congrArg _ ex' | skip
theorem RingPlays_at (x : List Int) (pet : Bool) (acts : List AR.T) : FnAt Try.prog false 9 [.arr (.int .i64) x, .lit (.bool pet), .arr AR acts] (.lit (.bool true)) [] := by
  by_cases h : (1 ≤ (x.take 11).length ∧ (x.take 11).length ≤ 10) ∧ ∀ i, i < (x.take 11).length → goodAt (x.take 11) i
  · exact RingPlays_good rfl h.1.1 h.1.2 h.2
  · exact RingPlays_bad rfl h
end Go.Proofs.Ytkjcnegkdlmapaa

