/- Joined of: R13 K4 K5. No condition. -/
import Derived.Test.YtkjcnegkdlmapaaJ8
import Derived.Test.YtkjcnegkdlmapaaJ9
import Derived.Test.YtkjcnegkdlmapaaJ5

namespace Go.Proofs.Ytkjcnegkdlmapaa
open Go Go.Vc Go.Rg
set_option linter.unusedVariables false
set_option linter.unusedSimpArgs false
def smo (y : List Int) : Prop := ∀ i, 0 ≤ y.getD i 0 ∧ y.getD i 0 ≤ 255
def fstE (n : Nat) (os : List Int) : Nat := if 0 < os.length then (os.getD 0 0).toNat % n else 0
set_option maxRecDepth 100000 in
set_option maxHeartbeats 32000000 in
theorem elect_at {l os : List Int} {pet : Bool} {m0 R : Nat} (h : Nb l) (hl : El l.length m0 (fun i => l.getD i 0) (gr l l.length) R) (ho : smo os) {cF : Ct} {K : Nat} (hK : 100 ≤ K) (hcF : cF = sim pet l.length os K 0 (startK (fstE l.length os : Int) (rnew l)) (0, 0, 0)) :
    FnAt Try.prog false 15 [.arr (.int .i64) l, .lit (.bool pet), .arr (.int .u8) os] (.tup [.strct [(.lit (.int .i64 (0 : Int))), (.lit (.int .i64 (cF.1 : Int))), (.lit (.int .i64 (cF.2.1 : Int))), (.lit (.int .i64 (cF.2.2 : Int)))], .lit (.bool true)]) [] := by
  obtain ⟨n, hn⟩ : ∃ n, n = l.length := ⟨_, rfl⟩
  have hll : @List.length (Ty.int .i64).T l = n := hn.symm
  have hlo : @List.length (Ty.int .u8).T os = os.length := rfl
  have h0 := h.l0
  have h1 := h.l1
  have hM := gr_rg (l := l) (k := l.length) fun i hi => (h.rg i hi).2
  obtain ⟨M, hMd⟩ : ∃ M, M = gr l l.length := ⟨_, rfl⟩
  have c0 := greatest_at h hMd
  have c1 := new_ok (pet := pet) h.l0 h.l1 (fun i hi => h.good hi)
  have hfl : fstE l.length os < l.length := by
    unfold fstE
    split
    · exact Nat.mod_lt _ h0
    · exact h0
  obtain ⟨f, hfd⟩ : ∃ f, f = fstE l.length os := ⟨_, rfl⟩
  rw [← hfd] at hfl hcF
  obtain ⟨hE0, hs0⟩ := h.begin (pet := pet) hl hfl
  have hss := start_sent (i := (f : Int)) (r := rnew l)
  obtain ⟨r0, hr0⟩ : ∃ r0, r0 = startK (f : Int) (rnew l) := ⟨_, rfl⟩
  have hk0 : ROk l.length pet (rnew l) := ROk.new h.l0 h.l1
  have c2 := start_ring (pet := pet) (i := (f : Int)) hk0 (by show (0 : Int) ≤ 900000; decide) hs0 hr0.symm
  rw [← hr0] at hE0 hss hcF
  have hss : r0.2.2 ≤ 1 := hss
  rw [← hMd] at hl hE0 hM
  rw [← hn] at hl hE0 hfl h0 h1 hcF
  have hf0 : 0 < os.length → (os.getD 0 0).tmod (l.length : Int) = f := fun hp => by
    have := ho 0
    rw [hfd]
    unfold fstE
    rw [if_pos hp, Int.natCast_emod, Int.toNat_of_nonneg this.1, Int.tmod_eq_emod_of_nonneg this.1]
  have hf1 : ¬ 0 < os.length → f = 0 := fun hp => by rw [hfd]; unfold fstE; rw [if_neg hp]
  have hoz := ho 0
  refine FnAt.of_body tys_ok Try.func15 (by rfl) rfl Try.ntmps15 (by rw [Try.results15]) (by simp) ?_
  
  repeat' (first
 | refine W.joinTo (t := 41) ⟨[(0, .st false (.arr (.int .i64) (l : List Int))), (2, .st false (.arr (.int .u8) (os : List Int))), (6, .padr 6500 0), (8, .padr 8500 0), (9, .padr 9000 0), (11, (.lit (.int .i64 (M : Int)))), (12, (.lit (.int .i64 (f : Int))))], [(6500, .box [(.lit (.int .i64 (0 : Int))), (.lit (.int .i64 (0 : Int))), (.lit (.int .i64 (0 : Int))), (.lit (.int .i64 (0 : Int)))]), (8500, .box [(.lit (.int .i64 (0 : Int))), (.lit (.int .i64 ((((0, 0, 0) : Ct)).1 : Int))), (.lit (.int .i64 ((((0, 0, 0) : Ct)).2.1 : Int))), (.lit (.int .i64 ((((0, 0, 0) : Ct)).2.2 : Int)))]), (9000, .box [.lit (.bool true), .lit (.bool pet), .own 9001, .mown 9002, (.lit (.int .i64 ((rnew l).2.2 : Int)))]), (9001, .row 105 PT true (rnew l).1), (9002, .mat 80 91 NT true (rnew l).2.1 none)]⟩ ?_ ?_
 | refine W.seq ?_
 | refine W.block ?_
 | (refine W.regionM (id := 2) tys_ok [] [2] ?_; conv => whnf)
 | (refine W.regionM (id := 9) tys_ok [] [2] ?_; conv => whnf)
 | (refine W.region tys_ok [] ?_; conv => whnf)
 | (refine W.drawAll tys_ok [] mixed rfl ?_; conv => whnf)
 | (refine W.ret ?_; conv => whnf)
 | (refine W.skip ?_; conv => whnf)
 | (refine W.exit ?_; conv => whnf)
 | (refine call_at (al := false) (c0) rfl rfl rfl rfl ?_; conv => whnf)
 | (refine callM_at (c1) ?_; conv => whnf)
 | (refine callM_at (c2) ?_; conv => whnf)
 | (refine Both.mk ?_ ?_ <;> (conv => whnf))
 | (refine W.cond rfl (fun hb => ?_) (fun hb => ?_) <;> (try simp only [Int.reduceToNat, Int.reduceTDiv, Int.reduceTMod, minL, maxL, pickB, zHB, zSH] at hb) <;> (try (first | (cases hb; done) | exact absurd hb (by decide) | (exfalso; omega) | (omega) | ((simp [pickB] at hb; done)))))
 | (refine Or.inl (And.intro ?_ ?_); (focus (first | exact trivial | exact ⟨rfl, trivial⟩ | (refine ⟨?_, trivial⟩; dsimp only; simp only [Int.reduceToNat, Int.reduceTDiv, Int.reduceTMod, minL, maxL, pickB, zHB, zSH]; omega) | (refine ⟨?_, trivial⟩; dsimp only; (try simp only [Int.reduceToNat, Int.reduceTDiv, Int.reduceTMod, minL, maxL, pickB, zHB, zSH]); (simp_all; done)) | (refine ⟨?_, trivial⟩; dsimp only; (simp only [Int.reduceToNat, Int.reduceTDiv, Int.reduceTMod, minL, maxL, pickB, zHB, zSH]; done)) | (refine ⟨?_, trivial⟩; dsimp only; (simp; done)))); (conv => whnf))
 | (refine Or.inr (And.intro ?_ ?_); (focus (intro h; have h := h.1; dsimp only at h; first | (exact Bool.noConfusion h) | (simp only [Int.reduceToNat, Int.reduceTDiv, Int.reduceTMod, minL, maxL, pickB, zHB, zSH] at h; omega) | ((try simp only [Int.reduceToNat, Int.reduceTDiv, Int.reduceTMod, minL, maxL, pickB, zHB, zSH] at h); (simp_all; done)))); (conv => whnf))
 | ((with_reducible refine And.intro ?_ ?_); (focus (first | (with_reducible rfl) | omega | rfl | ((try simp only [Int.reduceToNat, Int.reduceTDiv, Int.reduceTMod, minL, maxL, pickB, zHB, zSH, InK, Path.imp, zL] at *); omega))); (conv => whnf))
 | ((with_reducible refine And.intro (Side.out ?_) ?_); rotate_left; (conv => whnf))
 | ((first | refine retF1 ?_ | refine retF2 ?_ | refine subF.leaf ?_ | refine subF.side ?_) <;> (conv => whnf) <;> repeat' (first
 | exact trivial
 | (with_reducible rfl)
 | ((with_reducible refine And.intro ?_ ?_) <;> conv => whnf)
 | omega
 | rfl
 | (refine congrArg (SV.arr _) ?_)
 | (refine congrArg (Value.int _) ?_)
 | (refine congrArg Value.bool ?_)))); all_goals (try unfold Side)
  all_goals try (repeat' (first | (with_reducible rfl) | (with_reducible refine And.intro ?_ ?_) | omega | rfl | exact Or.inl rfl | exact Or.inr rfl | exact of_decide_eq_true rfl | exact Path.imp_of (of_decide_eq_true rfl) | (focus ((try simp only [Int.reduceToNat, Int.reduceTDiv, Int.reduceTMod, minL, maxL, pickB, zHB, zSH, InK, Path.imp, zL] at *); omega)) | (refine app_le rfl ?_; omega)))
  all_goals first | exact hf0 (by omega) | skip
  refine W.loop (fun p : Nat × Rn × Ct => ⟨[(0, .st false (.arr (.int .i64) (l : List Int))), (2, .st false (.arr (.int .u8) (os : List Int))), (6, .padr 6500 0), (8, .padr 8500 0), (9, .padr 9000 0), (11, (.lit (.int .i64 (M : Int)))), (13, (.lit (.int .i64 (p.1 : Int))))], [(6500, .box [(.lit (.int .i64 (0 : Int))), (.lit (.int .i64 (0 : Int))), (.lit (.int .i64 (0 : Int))), (.lit (.int .i64 (0 : Int)))]), (8500, .box [(.lit (.int .i64 (0 : Int))), (.lit (.int .i64 ((p.2.2).1 : Int))), (.lit (.int .i64 ((p.2.2).2.1 : Int))), (.lit (.int .i64 ((p.2.2).2.2 : Int)))]), (9000, .box [.lit (.bool true), .lit (.bool pet), .own 9001, .mown 9002, (.lit (.int .i64 ((p.2.1).2.2 : Int)))]), (9001, .row 105 PT true (p.2.1).1), (9002, .mat 80 91 NT true (p.2.1).2.1 none)]⟩) (fun p => EI pet n m0 (fun i => l.getD i 0) M R p.2.1 p.2.2 ∧ (p.1 : Int) = p.2.2.1 + p.2.2.2.1 + p.2.2.2.2 ∧ p.2.1.2.2 ≤ 4 * p.1 + 1 ∧ p.1 ≤ K ∧ cF = sim pet n os (K - p.1) p.1 p.2.1 p.2.2) (fun p => 100 - p.1) ((0, r0, (0, 0, 0))) ?_ ?_
  · refine ⟨⟨hE0, rfl, hss, Nat.zero_le _, hcF⟩, ?_⟩
    refine subF.ok ?_ <;> (conv => whnf) <;> repeat' (first
 | exact trivial
 | (with_reducible rfl)
 | ((with_reducible refine And.intro ?_ ?_) <;> conv => whnf)
 | omega
 | rfl
 | (refine congrArg (SV.arr _) ?_)
 | (refine congrArg (Value.int _) ?_)
 | (refine congrArg Value.bool ?_))
  · rintro ⟨t, r, c⟩ ⟨hE, ht, hsn, htK, hsim⟩
    dsimp only at hE ht hsn htK hsim ⊢
    have htot := hE.tot hl
    have ht80 : t ≤ 80 := by omega
    obtain ⟨v, hv⟩ : ∃ v, v = vE os t := ⟨_, rfl⟩
    have hos := ho (t % os.length)
    have hv0 : 0 < os.length → 7 * (t : Int) + os.getD (t % os.length) 0 = v := fun hp => by
      rw [hv]; unfold vE; rw [if_pos hp]; omega
    have hv1 : ¬ 0 < os.length → 7 * (t : Int) = v := fun hp => by
      rw [hv]; unfold vE; rw [if_neg hp]; omega
    have hvb : v ≤ 1000 := by
      by_cases hp : 0 < os.length
      · have := hv0 hp; omega
      · have := hv1 hp; omega
    obtain ⟨r1, hr1⟩ : ∃ r1, r1 = wkE n v r := ⟨_, rfl⟩
    obtain ⟨hE1, hs1⟩ := hE.wk hl h0 v
    rw [← hr1] at hE1 hs1
    have hk := hE.ok
    have hk1 := hE1.ok
    obtain ⟨A0, hA0⟩ : ∃ A0, A0 = atF n v r1 n 0 := ⟨_, rfl⟩
    have htm : 0 < os.length → ((t : Int).tmod (os.length : Int)) = ((t % os.length : Nat) : Int) := fun hp => (Int.ofNat_tmod _ _).symm
    have htl : 0 < os.length → t % os.length < os.length := fun hp => Nat.mod_lt _ hp
    have hv3 : 0 < os.length → 7 * (t : Int) + os.getD ((t : Int).tmod (os.length : Int)).toNat 0 = v := fun hp => by rw [htm hp, Int.toNat_natCast]; exact hv0 hp
    have hv4 : 0 < os.length → 0 ≤ (t : Int).tmod (os.length : Int) ∧ ((t : Int).tmod (os.length : Int)).toNat < os.length := fun hp => by rw [htm hp, Int.toNat_natCast]; have := htl hp; omega
    have c3 := start_ring (pet := pet) (i := ((v / 11 % n : Nat) : Int)) hk (by omega) rfl rfl
    have hw1 : (v : Int).tmod 11 = 0 → startK ((v / 11 % n : Nat) : Int) r = r1 := fun he => by
      have he : ((v % 11 : Nat) : Int) = 0 := (Int.ofNat_tmod v 11).trans he
      rw [hr1]; unfold wkE; rw [if_pos (by omega)]
    have hw2 : ¬ (v : Int).tmod 11 = 0 → r = r1 := fun he => by
      have he : ¬ ((v % 11 : Nat) : Int) = 0 := fun h => he ((Int.ofNat_tmod v 11).symm.trans h)
      rw [hr1]; unfold wkE; rw [if_neg (by omega)]
    have hq1 : ((v : Int).tdiv 11).tmod (l.length : Int) = ((v / 11 % n : Nat) : Int) := by rw [← hn]; rfl
    have hq2 : (11 : Int) ≠ 0 ∧ InK .i64 ((v : Int).tdiv 11) := by
      have e : (v : Int).tdiv 11 = ((v / 11 : Nat) : Int) := rfl
      rw [e]
      exact ⟨by decide, by omega, by omega⟩
    have h5 := (hE.start (i := v / 11 % n) hl (Nat.mod_lt _ h0)).2
    repeat' (first
 | refine W.joinTo (t := 62) ⟨[(0, .st false (.arr (.int .i64) (l : List Int))), (2, .st false (.arr (.int .u8) (os : List Int))), (6, .padr 6500 0), (8, .padr 8500 0), (9, .padr 9000 0), (11, (.lit (.int .i64 (M : Int)))), (13, (.lit (.int .i64 (t : Int)))), (14, (.lit (.int .i64 (v : Int))))], [(6500, .box [(.lit (.int .i64 (0 : Int))), (.lit (.int .i64 (0 : Int))), (.lit (.int .i64 (0 : Int))), (.lit (.int .i64 (0 : Int)))]), (8500, .box [(.lit (.int .i64 (0 : Int))), (.lit (.int .i64 ((c).1 : Int))), (.lit (.int .i64 ((c).2.1 : Int))), (.lit (.int .i64 ((c).2.2 : Int)))]), (9000, .box [.lit (.bool true), .lit (.bool pet), .own 9001, .mown 9002, (.lit (.int .i64 ((r).2.2 : Int)))]), (9001, .row 105 PT true (r).1), (9002, .mat 80 91 NT true (r).2.1 none)]⟩ ?_ ?_
 | refine W.joinTo (t := 75) ⟨[(0, .st false (.arr (.int .i64) (l : List Int))), (2, .st false (.arr (.int .u8) (os : List Int))), (6, .padr 6500 0), (8, .padr 8500 0), (9, .padr 9000 0), (11, (.lit (.int .i64 (M : Int)))), (13, (.lit (.int .i64 (t : Int)))), (14, (.lit (.int .i64 (v : Int))))], [(6500, .box [(.lit (.int .i64 (0 : Int))), (.lit (.int .i64 (0 : Int))), (.lit (.int .i64 (0 : Int))), (.lit (.int .i64 (0 : Int)))]), (8500, .box [(.lit (.int .i64 (0 : Int))), (.lit (.int .i64 ((c).1 : Int))), (.lit (.int .i64 ((c).2.1 : Int))), (.lit (.int .i64 ((c).2.2 : Int)))]), (9000, .box [.lit (.bool true), .lit (.bool pet), .own 9001, .mown 9002, (.lit (.int .i64 ((r1).2.2 : Int)))]), (9001, .row 105 PT true (r1).1), (9002, .mat 80 91 NT true (r1).2.1 none)]⟩ ?_ ?_
 | refine W.seq ?_
 | refine W.block ?_
 | (refine W.regionM (id := 18) tys_ok [] [6] ?_; conv => whnf)
 | (refine W.region tys_ok [] ?_; conv => whnf)
 | (refine W.drawAll tys_ok [] mixed rfl ?_; conv => whnf)
 | (refine W.ret ?_; conv => whnf)
 | (refine W.skip ?_; conv => whnf)
 | (refine W.exit ?_; conv => whnf)
 | (refine callM_at (c3) ?_; conv => whnf)
 | (refine Both.mk ?_ ?_ <;> (conv => whnf))
 | (refine W.cond rfl (fun hb => ?_) (fun hb => ?_) <;> (try simp only [Int.reduceToNat, Int.reduceTDiv, Int.reduceTMod, minL, maxL, pickB, zHB, zSH] at hb) <;> (try (first | (cases hb; done) | exact absurd hb (by decide) | (exfalso; omega) | (omega) | ((simp [pickB] at hb; omega)))))
 | (refine Or.inl (And.intro ?_ ?_); (focus (first | exact trivial | exact ⟨rfl, trivial⟩ | (refine ⟨?_, trivial⟩; dsimp only; simp only [Int.reduceToNat, Int.reduceTDiv, Int.reduceTMod, minL, maxL, pickB, zHB, zSH]; omega) | (refine ⟨?_, trivial⟩; dsimp only; (try simp only [Int.reduceToNat, Int.reduceTDiv, Int.reduceTMod, minL, maxL, pickB, zHB, zSH]); (simp_all; done)) | (refine ⟨?_, trivial⟩; dsimp only; (simp only [Int.reduceToNat, Int.reduceTDiv, Int.reduceTMod, minL, maxL, pickB, zHB, zSH]; done)) | (refine ⟨?_, trivial⟩; dsimp only; (simp; done)))); (conv => whnf))
 | (refine Or.inr (And.intro ?_ ?_); (focus (intro h; have h := h.1; dsimp only at h; first | (exact Bool.noConfusion h) | (simp only [Int.reduceToNat, Int.reduceTDiv, Int.reduceTMod, minL, maxL, pickB, zHB, zSH] at h; omega) | ((try simp only [Int.reduceToNat, Int.reduceTDiv, Int.reduceTMod, minL, maxL, pickB, zHB, zSH] at h); (simp_all; done)))); (conv => whnf))
 | ((with_reducible refine And.intro ?_ ?_); (focus (first | (with_reducible rfl) | omega | rfl | ((try simp only [Int.reduceToNat, Int.reduceTDiv, Int.reduceTMod, minL, maxL, pickB, zHB, zSH, InK, Path.imp, zL] at *); omega))); (conv => whnf))
 | ((with_reducible refine And.intro (Side.out ?_) ?_); rotate_left; (conv => whnf))
 | ((first | refine retF1 ?_ | refine retF2 ?_ | refine subF.leaf ?_ | refine subF.side ?_) <;> (conv => whnf) <;> repeat' (first
 | exact trivial
 | (with_reducible rfl)
 | ((with_reducible refine And.intro ?_ ?_) <;> conv => whnf)
 | omega
 | rfl
 | (refine congrArg (SV.arr _) ?_)
 | (refine congrArg (Value.int _) ?_)
 | (refine congrArg Value.bool ?_)))); all_goals (try unfold Side)
    all_goals try (repeat' (first | (with_reducible rfl) | (with_reducible refine And.intro ?_ ?_) | omega | rfl | exact Or.inl rfl | exact Or.inr rfl | exact of_decide_eq_true rfl | exact Path.imp_of (of_decide_eq_true rfl) | (focus ((try simp only [Int.reduceToNat, Int.reduceTDiv, Int.reduceTMod, minL, maxL, pickB, zHB, zSH, InK, Path.imp, zL] at *); omega)) | (refine app_le rfl ?_; omega)))
    all_goals first | exact congrArg (fun r : Rn => r.2.2) (hw1 (by omega)) | exact congrArg (fun r : Rn => r.1) (hw1 (by omega)) | exact congrArg (fun r : Rn => r.2.1) (hw1 (by omega)) | exact congrArg (fun r : Rn => r.2.2) (hw2 (by omega)) | exact congrArg (fun r : Rn => r.1) (hw2 (by omega)) | exact congrArg (fun r : Rn => r.2.1) (hw2 (by omega)) | exact hq1 | exact Path.imp_of hq2 | skip
    refine W.loop (fun q : Nat × Int => ⟨[(0, .st false (.arr (.int .i64) (l : List Int))), (2, .st false (.arr (.int .u8) (os : List Int))), (6, .padr 6500 0), (8, .padr 8500 0), (9, .padr 9000 0), (11, (.lit (.int .i64 (M : Int)))), (13, (.lit (.int .i64 (t : Int)))), (14, (.lit (.int .i64 (v : Int)))), (16, (.lit (.int .i64 (q.2 : Int)))), (17, (.lit (.int .i64 (q.1 : Int))))], [(6500, .box [(.lit (.int .i64 (0 : Int))), (.lit (.int .i64 (0 : Int))), (.lit (.int .i64 (0 : Int))), (.lit (.int .i64 (0 : Int)))]), (8500, .box [(.lit (.int .i64 (0 : Int))), (.lit (.int .i64 ((c).1 : Int))), (.lit (.int .i64 ((c).2.1 : Int))), (.lit (.int .i64 ((c).2.2 : Int)))]), (9000, .box [.lit (.bool true), .lit (.bool pet), .own 9001, .mown 9002, (.lit (.int .i64 ((r1).2.2 : Int)))]), (9001, .row 105 PT true (r1).1), (9002, .mat 80 91 NT true (r1).2.1 none)]⟩) (fun q => q.1 ≤ n ∧ ((q.2 = -1 ∧ atF n v r1 (n - q.1) q.1 = A0) ∨ ∃ a : Nat, q.2 = a ∧ A0 = some a)) (fun q => n - q.1) ((0, -1)) ?_ ?_
    · refine ⟨⟨Nat.zero_le _, .inl ⟨rfl, hA0.symm⟩⟩, ?_⟩
      refine subF.ok ?_ <;> (conv => whnf) <;> repeat' (first
 | exact trivial
 | (with_reducible rfl)
 | ((with_reducible refine And.intro ?_ ?_) <;> conv => whnf)
 | omega
 | rfl
 | (refine congrArg (SV.arr _) ?_)
 | (refine congrArg (Value.int _) ?_)
 | (refine congrArg Value.bool ?_))
    · rintro ⟨i, at'⟩ ⟨hi, hat⟩
      dsimp only at hi hat ⊢
      by_cases hgo : i < n ∧ at' < 0
      · obtain ⟨hin, hat0⟩ := hgo
        have hatF : at' = -1 ∧ atF n v r1 (n - i) i = A0 := by
          rcases hat with q | ⟨a, q, _⟩
          · exact q
          · omega
        obtain ⟨he, hA⟩ := hatF
        subst he
        have hA' := hA
        rw [show n - i = (n - i - 1) + 1 by omega, atF] at hA'
        obtain ⟨k, hk0⟩ : ∃ k, k = (v + i) % n := ⟨_, rfl⟩
        rw [← hk0] at hA'
        have hkn : k < n := by rw [hk0]; exact Nat.mod_lt _ h0
        obtain ⟨w, hw⟩ : ∃ w, w = r1.2.1.getD k [] := ⟨_, rfl⟩
        have c4 := rflight_in (pet := pet) hk1 hkn (by omega) hw
        have hkm : ((v : Int) + (i : Int)).tmod (l.length : Int) = (k : Int) := by rw [← hn, hk0]; rfl
        have hwl : @List.length NT.T w = w.length := rfl
        have hwb := hk1.fl k
        rw [← hw] at hwb
        by_cases hne : w.length = 0
        · have hF : (F' r1 k).length = 0 := by show (r1.2.1.getD k []).length = 0; rw [← hw]; exact hne
          rw [if_neg (by omega)] at hA'
          repeat' (first
 | refine W.seq ?_
 | refine W.block ?_
 | (refine W.resub (x := Code.region 26 _ _) (Γ' := ⟨[(0, .st false (.arr (.int .i64) (l : List Int))), (2, .st false (.arr (.int .u8) (os : List Int))), (6, .padr 6500 0), (8, .padr 8500 0), (9, .padr 9000 0), (11, (.lit (.int .i64 (M : Int)))), (13, (.lit (.int .i64 (t : Int)))), (14, (.lit (.int .i64 (v : Int)))), (16, (.lit (.int .i64 (-1 : Int)))), (17, (.lit (.int .i64 (i : Int)))), (18, (.lit (.int .i64 (k : Int))))], [(6500, .box [(.lit (.int .i64 (0 : Int))), (.lit (.int .i64 (0 : Int))), (.lit (.int .i64 (0 : Int))), (.lit (.int .i64 (0 : Int)))]), (8500, .box [(.lit (.int .i64 (0 : Int))), (.lit (.int .i64 ((c).1 : Int))), (.lit (.int .i64 ((c).2.1 : Int))), (.lit (.int .i64 ((c).2.2 : Int)))]), (9000, .box [.lit (.bool true), .lit (.bool pet), .own 9001, .mown 9002, (.lit (.int .i64 ((r1).2.2 : Int)))]), (9001, .row 105 PT true (r1).1), (9002, .mat 80 91 NT true (r1).2.1 none)]⟩) ?_ (W.regionM tys_ok [] [2] ?_); rotate_left; (conv => whnf))
 | (refine W.region tys_ok [] ?_; conv => whnf)
 | (refine W.drawAll tys_ok [] mixed rfl ?_; conv => whnf)
 | (refine W.ret ?_; conv => whnf)
 | (refine W.skip ?_; conv => whnf)
 | (refine W.exit ?_; conv => whnf)
 | (refine callM_at (c4) ?_; conv => whnf)
 | (refine W.cond rfl (fun hb => ?_) (fun hb => ?_) <;> (try simp only [Int.reduceToNat, Int.reduceTDiv, Int.reduceTMod, minL, maxL, pickB, zHB, zSH] at hb) <;> (try (first | (cases hb; done) | exact absurd hb (by decide) | (exfalso; omega) | (omega) | ((simp [pickB] at hb; omega)))))
 | (refine Or.inl (And.intro ?_ ?_); (focus (first | exact trivial | exact ⟨rfl, trivial⟩ | (refine ⟨?_, trivial⟩; dsimp only; simp only [Int.reduceToNat, Int.reduceTDiv, Int.reduceTMod, minL, maxL, pickB, zHB, zSH]; omega) | (refine ⟨?_, trivial⟩; dsimp only; (try simp only [Int.reduceToNat, Int.reduceTDiv, Int.reduceTMod, minL, maxL, pickB, zHB, zSH]); (simp_all; done)) | (refine ⟨?_, trivial⟩; dsimp only; (simp only [Int.reduceToNat, Int.reduceTDiv, Int.reduceTMod, minL, maxL, pickB, zHB, zSH]; done)) | (refine ⟨?_, trivial⟩; dsimp only; (simp; done)))); (conv => whnf))
 | (refine Or.inr (And.intro ?_ ?_); (focus (intro h; have h := h.1; dsimp only at h; first | (exact Bool.noConfusion h) | (simp only [Int.reduceToNat, Int.reduceTDiv, Int.reduceTMod, minL, maxL, pickB, zHB, zSH] at h; omega) | ((try simp only [Int.reduceToNat, Int.reduceTDiv, Int.reduceTMod, minL, maxL, pickB, zHB, zSH] at h); (simp_all; done)))); (conv => whnf))
 | ((with_reducible refine And.intro ?_ ?_); (focus (first | (with_reducible rfl) | omega | rfl | ((try simp only [Int.reduceToNat, Int.reduceTDiv, Int.reduceTMod, minL, maxL, pickB, zHB, zSH, InK, Path.imp, zL] at *); omega))); (conv => whnf))
 | ((with_reducible refine And.intro (Side.out ?_) ?_); rotate_left; (conv => whnf))
 | ((first | refine retF1 ?_ | refine retF2 ?_) <;> (conv => whnf) <;> repeat' (first
 | exact trivial
 | (with_reducible rfl)
 | ((with_reducible refine And.intro ?_ ?_) <;> conv => whnf)
 | omega
 | rfl
 | (refine congrArg (SV.arr _) ?_)
 | (refine congrArg (Value.int _) ?_)
 | (refine congrArg Value.bool ?_)))); all_goals (try unfold Side)
          all_goals try refine subF.ok ?_ <;> (conv => whnf) <;> repeat' (first
 | exact trivial
 | (with_reducible rfl)
 | ((with_reducible refine And.intro ?_ ?_) <;> conv => whnf)
 | omega
 | rfl
 | (refine congrArg (SV.arr _) ?_)
 | (refine congrArg (Value.int _) ?_)
 | (refine congrArg Value.bool ?_))
          all_goals try (repeat' (first | (with_reducible rfl) | (with_reducible refine And.intro ?_ ?_) | omega | rfl | exact Or.inl rfl | exact Or.inr rfl | exact of_decide_eq_true rfl | exact Path.imp_of (of_decide_eq_true rfl) | (focus ((try simp only [Int.reduceToNat, Int.reduceTDiv, Int.reduceTMod, minL, maxL, pickB, zHB, zSH, InK, Path.imp, zL] at *); omega)) | (refine app_le rfl ?_; omega)))
          all_goals first | exact hkm | skip
          refine ⟨(i + 1, -1), ⟨⟨by dsimp only; omega, .inl ⟨rfl, by dsimp only; rw [show n - (i + 1) = n - i - 1 by omega]; exact hA'⟩⟩, by dsimp only; omega⟩, ?_⟩
          refine subF.ok ?_ <;> (conv => whnf) <;> repeat' (first
 | exact trivial
 | (with_reducible rfl)
 | ((with_reducible refine And.intro ?_ ?_) <;> conv => whnf)
 | omega
 | rfl
 | (refine congrArg (SV.arr _) ?_)
 | (refine congrArg (Value.int _) ?_)
 | (refine congrArg Value.bool ?_))
        · have hF : (F' r1 k).length ≠ 0 := by show (r1.2.1.getD k []).length ≠ 0; rw [← hw]; exact hne
          rw [if_pos hF] at hA'
          repeat' (first
 | refine W.seq ?_
 | refine W.block ?_
 | (refine W.resub (x := Code.region 26 _ _) (Γ' := ⟨[(0, .st false (.arr (.int .i64) (l : List Int))), (2, .st false (.arr (.int .u8) (os : List Int))), (6, .padr 6500 0), (8, .padr 8500 0), (9, .padr 9000 0), (11, (.lit (.int .i64 (M : Int)))), (13, (.lit (.int .i64 (t : Int)))), (14, (.lit (.int .i64 (v : Int)))), (16, (.lit (.int .i64 (-1 : Int)))), (17, (.lit (.int .i64 (i : Int)))), (18, (.lit (.int .i64 (k : Int))))], [(6500, .box [(.lit (.int .i64 (0 : Int))), (.lit (.int .i64 (0 : Int))), (.lit (.int .i64 (0 : Int))), (.lit (.int .i64 (0 : Int)))]), (8500, .box [(.lit (.int .i64 (0 : Int))), (.lit (.int .i64 ((c).1 : Int))), (.lit (.int .i64 ((c).2.1 : Int))), (.lit (.int .i64 ((c).2.2 : Int)))]), (9000, .box [.lit (.bool true), .lit (.bool pet), .own 9001, .mown 9002, (.lit (.int .i64 ((r1).2.2 : Int)))]), (9001, .row 105 PT true (r1).1), (9002, .mat 80 91 NT true (r1).2.1 none)]⟩) ?_ (W.regionM tys_ok [] [2] ?_); rotate_left; (conv => whnf))
 | (refine W.region tys_ok [] ?_; conv => whnf)
 | (refine W.drawAll tys_ok [] mixed rfl ?_; conv => whnf)
 | (refine W.ret ?_; conv => whnf)
 | (refine W.skip ?_; conv => whnf)
 | (refine W.exit ?_; conv => whnf)
 | (refine callM_at (c4) ?_; conv => whnf)
 | (refine W.cond rfl (fun hb => ?_) (fun hb => ?_) <;> (try simp only [Int.reduceToNat, Int.reduceTDiv, Int.reduceTMod, minL, maxL, pickB, zHB, zSH] at hb) <;> (try (first | (cases hb; done) | exact absurd hb (by decide) | (exfalso; omega) | (omega) | ((simp [pickB] at hb; omega)))))
 | (refine Or.inl (And.intro ?_ ?_); (focus (first | exact trivial | exact ⟨rfl, trivial⟩ | (refine ⟨?_, trivial⟩; dsimp only; simp only [Int.reduceToNat, Int.reduceTDiv, Int.reduceTMod, minL, maxL, pickB, zHB, zSH]; omega) | (refine ⟨?_, trivial⟩; dsimp only; (try simp only [Int.reduceToNat, Int.reduceTDiv, Int.reduceTMod, minL, maxL, pickB, zHB, zSH]); (simp_all; done)) | (refine ⟨?_, trivial⟩; dsimp only; (simp only [Int.reduceToNat, Int.reduceTDiv, Int.reduceTMod, minL, maxL, pickB, zHB, zSH]; done)) | (refine ⟨?_, trivial⟩; dsimp only; (simp; done)))); (conv => whnf))
 | (refine Or.inr (And.intro ?_ ?_); (focus (intro h; have h := h.1; dsimp only at h; first | (exact Bool.noConfusion h) | (simp only [Int.reduceToNat, Int.reduceTDiv, Int.reduceTMod, minL, maxL, pickB, zHB, zSH] at h; omega) | ((try simp only [Int.reduceToNat, Int.reduceTDiv, Int.reduceTMod, minL, maxL, pickB, zHB, zSH] at h); (simp_all; done)))); (conv => whnf))
 | ((with_reducible refine And.intro ?_ ?_); (focus (first | (with_reducible rfl) | omega | rfl | ((try simp only [Int.reduceToNat, Int.reduceTDiv, Int.reduceTMod, minL, maxL, pickB, zHB, zSH, InK, Path.imp, zL] at *); omega))); (conv => whnf))
 | ((with_reducible refine And.intro (Side.out ?_) ?_); rotate_left; (conv => whnf))
 | ((first | refine retF1 ?_ | refine retF2 ?_) <;> (conv => whnf) <;> repeat' (first
 | exact trivial
 | (with_reducible rfl)
 | ((with_reducible refine And.intro ?_ ?_) <;> conv => whnf)
 | omega
 | rfl
 | (refine congrArg (SV.arr _) ?_)
 | (refine congrArg (Value.int _) ?_)
 | (refine congrArg Value.bool ?_)))); all_goals (try unfold Side)
          all_goals try refine subF.ok ?_ <;> (conv => whnf) <;> repeat' (first
 | exact trivial
 | (with_reducible rfl)
 | ((with_reducible refine And.intro ?_ ?_) <;> conv => whnf)
 | omega
 | rfl
 | (refine congrArg (SV.arr _) ?_)
 | (refine congrArg (Value.int _) ?_)
 | (refine congrArg Value.bool ?_))
          all_goals try (repeat' (first | (with_reducible rfl) | (with_reducible refine And.intro ?_ ?_) | omega | rfl | exact Or.inl rfl | exact Or.inr rfl | exact of_decide_eq_true rfl | exact Path.imp_of (of_decide_eq_true rfl) | (focus ((try simp only [Int.reduceToNat, Int.reduceTDiv, Int.reduceTMod, minL, maxL, pickB, zHB, zSH, InK, Path.imp, zL] at *); omega)) | (refine app_le rfl ?_; omega)))
          all_goals first | exact hkm | skip
          refine ⟨(i + 1, (k : Int)), ⟨⟨by dsimp only; omega, .inr ⟨k, rfl, hA'.symm⟩⟩, by dsimp only; omega⟩, ?_⟩
          refine subF.ok ?_ <;> (conv => whnf) <;> repeat' (first
 | exact trivial
 | (with_reducible rfl)
 | ((with_reducible refine And.intro ?_ ?_) <;> conv => whnf)
 | omega
 | rfl
 | (refine congrArg (SV.arr _) ?_)
 | (refine congrArg (Value.int _) ?_)
 | (refine congrArg Value.bool ?_))
      · rcases hat with ⟨he, hA⟩ | ⟨a, he, hA⟩
        · subst he
          have hie : i = n := by omega
          subst hie
          rw [Nat.sub_self] at hA
          have hq := atF_none h0 (hA0.symm.trans hA.symm)
          obtain ⟨q1, q2, q3⟩ := hE1.quiet hl hq
          have hcc : cF = c := by
            rw [hsim, show K - t = (K - t - 1) + 1 by omega]
            exact sim_none (by rw [← hv, ← hr1, ← hA0, ← hA]; rfl)
          clear hsim hcF
          subst hcc
          have c7 := sent_at (pet := pet) (r := r1)
          repeat' (first
 | refine W.seq ?_
 | refine W.block ?_
 | (refine W.region tys_ok [] ?_; conv => whnf)
 | (refine W.drawAll tys_ok [] mixed rfl ?_; conv => whnf)
 | (refine W.ret ?_; conv => whnf)
 | (refine W.skip ?_; conv => whnf)
 | (refine W.exit ?_; conv => whnf)
 | (refine W.cond rfl (fun hb => ?_) (fun hb => ?_) <;> (try simp only [Int.reduceToNat, Int.reduceTDiv, Int.reduceTMod, minL, maxL, pickB, zHB, zSH] at hb) <;> (try (first | (cases hb; done) | exact absurd hb (by decide) | (exfalso; omega) | (omega))))
 | ((with_reducible refine And.intro ?_ ?_); (focus (first | (with_reducible rfl) | omega | rfl | ((try simp only [Int.reduceToNat, Int.reduceTDiv, Int.reduceTMod, minL, maxL, pickB, zHB, zSH, InK, Path.imp, zL] at *); omega))); (conv => whnf))
 | ((with_reducible refine And.intro (Side.out ?_) ?_); rotate_left; (conv => whnf))
 | ((first | refine retF1 ?_ | refine retF2 ?_) <;> (conv => whnf) <;> repeat' (first
 | exact trivial
 | (with_reducible rfl)
 | ((with_reducible refine And.intro ?_ ?_) <;> conv => whnf)
 | omega
 | rfl
 | (refine congrArg (SV.arr _) ?_)
 | (refine congrArg (Value.int _) ?_)
 | (refine congrArg Value.bool ?_)))); all_goals (try unfold Side)
          all_goals try (repeat' (first | (with_reducible rfl) | (with_reducible refine And.intro ?_ ?_) | omega | rfl | exact Or.inl rfl | exact Or.inr rfl | exact of_decide_eq_true rfl | exact Path.imp_of (of_decide_eq_true rfl) | (focus ((try simp only [Int.reduceToNat, Int.reduceTDiv, Int.reduceTMod, minL, maxL, pickB, zHB, zSH, InK, Path.imp, zL] at *); omega)) | (refine app_le rfl ?_; omega)))
          refine W.frz (t := 8) rfl rfl rfl ?_
          refine W.loop (fun j : Nat => ⟨[(0, .st false (.arr (.int .i64) (l : List Int))), (6, .padr 6500 0), (8, .st false (.sadr (.agg [(.lit (.int .i64 (0 : Int))), (.lit (.int .i64 (cF.1 : Int))), (.lit (.int .i64 (cF.2.1 : Int))), (.lit (.int .i64 (cF.2.2 : Int)))]))), (9, .padr 9000 0), (11, (.lit (.int .i64 (M : Int)))), (22, (.lit (.int .i64 (j : Int))))], [(6500, .box [(.lit (.int .i64 (0 : Int))), (.lit (.int .i64 (0 : Int))), (.lit (.int .i64 (0 : Int))), (.lit (.int .i64 (0 : Int)))]), (9000, .box [.lit (.bool true), .lit (.bool pet), .own 9001, .mown 9002, (.lit (.int .i64 ((r1).2.2 : Int)))]), (9001, .row 105 PT true (r1).1), (9002, .mat 80 91 NT true (r1).2.1 none)]⟩) (fun j => j ≤ i) (fun j => i - j) (0) ?_ ?_
          · refine ⟨Nat.zero_le _, ?_⟩
            refine subF.ok ?_ <;> (conv => whnf) <;> repeat' (first
 | exact trivial
 | (with_reducible rfl)
 | ((with_reducible refine And.intro ?_ ?_) <;> conv => whnf)
 | omega
 | rfl
 | (refine congrArg (SV.arr _) ?_)
 | (refine congrArg (Value.int _) ?_)
 | (refine congrArg Value.bool ?_))
          · rintro j hj
            by_cases hjn : j < i
            · obtain ⟨w, hw⟩ : ∃ w, w = r1.2.1.getD j [] := ⟨_, rfl⟩
              have c4 := rflight_in (pet := pet) hk1 hjn (by omega) hw
              have hw0 : @List.length NT.T w = 0 := by rw [hw]; exact hq j hjn
              have c6 := leader_in (pet := pet) (r := r1) (i := j) (by rw [hk1.len]; exact hjn)
              rw [q1 j hjn] at c6
              have hpk : decide (0 < (w.length : Int)) = false := decide_eq_false (by have e : w.length = 0 := hw0; omega)
              repeat' (first
 | refine W.seq ?_
 | refine W.block ?_
 | (refine W.regionM (id := 42) tys_ok [] [2,8] ?_; conv => whnf)
 | (refine W.region tys_ok [] ?_; conv => whnf)
 | (refine W.drawAll tys_ok [] mixed rfl ?_; conv => whnf)
 | (refine W.ret ?_; conv => whnf)
 | (refine W.skip ?_; conv => whnf)
 | (refine W.exit ?_; conv => whnf)
 | (refine callM_at (c4) ?_; conv => whnf)
 | (refine callM_at (c6) ?_; conv => whnf)
 | (refine Or.inl (And.intro ⟨hpk, trivial⟩ ?_); (conv => whnf))
 | (refine W.cond rfl (fun hb => ?_) (fun hb => ?_) <;> (try simp only [Int.reduceToNat, Int.reduceTDiv, Int.reduceTMod, minL, maxL, pickB, zHB, zSH] at hb) <;> (try (first | (cases hb; done) | exact absurd hb (by decide) | (exfalso; omega) | (omega) | ((simp [pickB] at hb; omega)))))
 | (refine Or.inl (And.intro ?_ ?_); (focus (first | exact trivial | exact ⟨rfl, trivial⟩ | (refine ⟨?_, trivial⟩; dsimp only; simp only [Int.reduceToNat, Int.reduceTDiv, Int.reduceTMod, minL, maxL, pickB, zHB, zSH]; omega) | (refine ⟨?_, trivial⟩; dsimp only; (try simp only [Int.reduceToNat, Int.reduceTDiv, Int.reduceTMod, minL, maxL, pickB, zHB, zSH]); (simp_all; done)) | (refine ⟨?_, trivial⟩; dsimp only; (simp only [Int.reduceToNat, Int.reduceTDiv, Int.reduceTMod, minL, maxL, pickB, zHB, zSH]; done)) | (refine ⟨?_, trivial⟩; dsimp only; (simp; done)))); (conv => whnf))
 | (refine Or.inr (And.intro ?_ ?_); (focus (intro h; have h := h.1; dsimp only at h; first | (exact Bool.noConfusion h) | (simp only [Int.reduceToNat, Int.reduceTDiv, Int.reduceTMod, minL, maxL, pickB, zHB, zSH] at h; omega) | ((try simp only [Int.reduceToNat, Int.reduceTDiv, Int.reduceTMod, minL, maxL, pickB, zHB, zSH] at h); (simp_all; done)))); (conv => whnf))
 | ((with_reducible refine And.intro ?_ ?_); (focus (first | (with_reducible rfl) | omega | rfl | ((try simp only [Int.reduceToNat, Int.reduceTDiv, Int.reduceTMod, minL, maxL, pickB, zHB, zSH, InK, Path.imp, zL] at *); omega))); (conv => whnf))
 | ((with_reducible refine And.intro (Side.out ?_) ?_); rotate_left; (conv => whnf))
 | ((first | refine retF1 ?_ | refine retF2 ?_) <;> (conv => whnf) <;> repeat' (first
 | exact trivial
 | (with_reducible rfl)
 | ((with_reducible refine And.intro ?_ ?_) <;> conv => whnf)
 | omega
 | rfl
 | (refine congrArg (SV.arr _) ?_)
 | (refine congrArg (Value.int _) ?_)
 | (refine congrArg Value.bool ?_)))); all_goals (try unfold Side)
              all_goals try (repeat' (first | (with_reducible rfl) | (with_reducible refine And.intro ?_ ?_) | omega | rfl | exact Or.inl rfl | exact Or.inr rfl | exact of_decide_eq_true rfl | exact Path.imp_of (of_decide_eq_true rfl) | (focus ((try simp only [Int.reduceToNat, Int.reduceTDiv, Int.reduceTMod, minL, maxL, pickB, zHB, zSH, InK, Path.imp, zL] at *); omega)) | (refine app_le rfl ?_; omega)))
              refine ⟨j + 1, ⟨by omega, by omega⟩, ?_⟩
              refine subF.ok ?_ <;> (conv => whnf) <;> repeat' (first
 | exact trivial
 | (with_reducible rfl)
 | ((with_reducible refine And.intro ?_ ?_) <;> conv => whnf)
 | omega
 | rfl
 | (refine congrArg (SV.arr _) ?_)
 | (refine congrArg (Value.int _) ?_)
 | (refine congrArg Value.bool ?_))
            · repeat' (first
 | refine W.seq ?_
 | refine W.block ?_
 | (refine W.drawM (id := 44) tys_ok [] [2] mixed [0, 0, 2, 0, 8, 0, 32, 80, 0, 256, 640, 1028, 5, 8191] [([0, 1, 3, 4, 5, 6, 7, 8, 9, 10], 1, 2047), ([11], 1, 8191), ([13], 0, 16383)] (by decide +kernel) ?_; conv => whnf)
 | (refine W.region tys_ok [] ?_; conv => whnf)
 | (refine W.drawAll tys_ok [] mixed rfl ?_; conv => whnf)
 | (refine W.ret ?_; conv => whnf)
 | (refine W.skip ?_; conv => whnf)
 | (refine W.exit ?_; conv => whnf)
 | (refine callM_at (c7) ?_; conv => whnf)
 | (refine Both.mk ?_ ?_ <;> (conv => whnf))
 | (refine W.cond rfl (fun hb => ?_) (fun hb => ?_) <;> (try simp only [Int.reduceToNat, Int.reduceTDiv, Int.reduceTMod, minL, maxL, pickB, zHB, zSH] at hb) <;> (try (first | (cases hb; done) | exact absurd hb (by decide) | (exfalso; omega) | (omega))))
 | (refine Or.inl (And.intro ?_ ?_); (focus (first | exact trivial | exact ⟨rfl, trivial⟩ | (refine ⟨?_, trivial⟩; dsimp only; simp only [Int.reduceToNat, Int.reduceTDiv, Int.reduceTMod, minL, maxL, pickB, zHB, zSH]; omega) | (refine ⟨?_, trivial⟩; dsimp only; (try simp only [Int.reduceToNat, Int.reduceTDiv, Int.reduceTMod, minL, maxL, pickB, zHB, zSH]); (simp_all; done)) | (refine ⟨?_, trivial⟩; dsimp only; (simp only [Int.reduceToNat, Int.reduceTDiv, Int.reduceTMod, minL, maxL, pickB, zHB, zSH]; done)) | (refine ⟨?_, trivial⟩; dsimp only; (simp; done)))); (conv => whnf))
 | (refine Or.inr (And.intro ?_ ?_); (focus (intro h; have h := h.1; dsimp only at h; first | (exact Bool.noConfusion h) | (simp only [Int.reduceToNat, Int.reduceTDiv, Int.reduceTMod, minL, maxL, pickB, zHB, zSH] at h; omega) | ((try simp only [Int.reduceToNat, Int.reduceTDiv, Int.reduceTMod, minL, maxL, pickB, zHB, zSH] at h); (simp_all; done)))); (conv => whnf))
 | ((with_reducible refine And.intro ?_ ?_); (focus (first | (with_reducible rfl) | omega | rfl | ((try simp only [Int.reduceToNat, Int.reduceTDiv, Int.reduceTMod, minL, maxL, pickB, zHB, zSH, InK, Path.imp, zL] at *); omega))); (conv => whnf))
 | ((with_reducible refine And.intro (Side.out ?_) ?_); rotate_left; (conv => whnf))
 | ((first | refine retF1 ?_ | refine retF2 ?_ | refine subF.leaf ?_ | refine subF.side ?_) <;> (conv => whnf) <;> repeat' (first
 | exact trivial
 | (with_reducible rfl)
 | ((with_reducible refine And.intro ?_ ?_) <;> conv => whnf)
 | omega
 | rfl
 | (refine congrArg (SV.arr _) ?_)
 | (refine congrArg (Value.int _) ?_)
 | (refine congrArg Value.bool ?_)))); all_goals (try unfold Side)
              all_goals try (repeat' (first | (with_reducible rfl) | (with_reducible refine And.intro ?_ ?_) | omega | rfl | exact Or.inl rfl | exact Or.inr rfl | exact of_decide_eq_true rfl | exact Path.imp_of (of_decide_eq_true rfl) | (focus ((try simp only [Int.reduceToNat, Int.reduceTDiv, Int.reduceTMod, minL, maxL, pickB, zHB, zSH, InK, Path.imp, zL] at *); omega)) | (refine app_le rfl ?_; omega)))
              all_goals exact decide_eq_true q2
        · subst he
          rw [hA0] at hA
          obtain ⟨han, hne⟩ := atF_some h0 hA
          obtain ⟨hE2, hd0⟩ := hE1.del hl han hne
          have hkd := hE1.kind han hne
          obtain ⟨hd, hhd⟩ : ∃ hd, hd = (F' r1 a).getD 0 N0 := ⟨_, rfl⟩
          rw [← hhd] at hE2 hkd
          obtain ⟨r2, hr2⟩ : ∃ r2, r2 = rdelK pet (a : Int) r1 := ⟨_, rfl⟩
          have hs2 := del_sent (pet := pet) (i := (a : Int)) (r := r1)
          rw [← hr2] at hE2 hs2
          have hk2 := hE2.ok
          have hsum : ((t + 1 : Nat) : Int) = (bump hd.1 c).1 + (bump hd.1 c).2.1 + (bump hd.1 c).2.2 := by rw [bump_sum]; omega
          have hsim2 : cF = sim pet n os (K - (t + 1)) (t + 1) r2 (bump hd.1 c) := by
            rw [hsim, show K - t = (K - (t + 1)) + 1 by omega, sim_some (a := a) (by rw [← hv, ← hr1]; exact hA), ← hv, ← hr1, ← hhd, ← hr2]
          obtain ⟨w, hw⟩ : ∃ w, w = r1.2.1.getD a [] := ⟨_, rfl⟩
          have c4 := rflight_in (pet := pet) hk1 han (by omega) hw
          have c5 := deliver_ring (pet := pet) (i := (a : Int)) hk1 (by omega) hd0 hr2.symm
          have hwd : w.getD 0 N0 = hd := by rw [hhd, hw]; rfl
          have hwl : @List.length NT.T w = w.length := rfl
          have hlw : 0 ≤ (0 : Int) ∧ 0 < w.length := ⟨by decide, by rw [hw]; exact Nat.pos_of_ne_zero hne⟩
          obtain ⟨c2, hc2⟩ : ∃ c2, c2 = bump hd.1 c := ⟨_, rfl⟩
          rw [← hc2] at hE2 hsum hsim2
          have hx1 : (hd.1 = 1 → c2.1 = c.1 + 1) ∧ (¬ hd.1 = 1 → c2.1 = c.1) := by
            rw [hc2]; rcases hkd with e | e | e <;> simp [bump, e]
          have hx2 : (hd.1 = 2 → c2.2.1 = c.2.1 + 1) ∧ (¬ hd.1 = 2 → c2.2.1 = c.2.1) := by
            rw [hc2]; rcases hkd with e | e | e <;> simp [bump, e]
          have hx3 : (hd.1 = 3 → c2.2.2 = c.2.2 + 1) ∧ (¬ hd.1 = 3 → c2.2.2 = c.2.2) := by
            rw [hc2]; rcases hkd with e | e | e <;> simp [bump, e]
          have hwk : (w.getD (Int.toNat 0) NT.dflt).1 = hd.1 := congrArg (fun x : Nt => x.1) hwd
          have hwv : (w.getD (Int.toNat 0) NT.dflt).2.1 = hd.2.1 := congrArg (fun x : Nt => x.2.1) hwd
          rcases hkd with hkd | hkd | hkd
          all_goals
            repeat' (first
 | refine W.seq ?_
 | refine W.block ?_
 | (refine W.regionM (id := 29) tys_ok [] [2] ?_; conv => whnf)
 | (have _ : hd.1 = 1 := hkd; refine W.resub (x := Code.region 30 _ _) (Γ' := ⟨[(0, .st false (.arr (.int .i64) (l : List Int))), (2, .st false (.arr (.int .u8) (os : List Int))), (6, .padr 6500 0), (8, .padr 8500 0), (9, .padr 9000 0), (11, (.lit (.int .i64 (M : Int)))), (13, (.lit (.int .i64 (t : Int)))), (16, (.lit (.int .i64 (a : Int)))), (19, .padr 1900 0)], [(6500, .box [(.lit (.int .i64 (0 : Int))), (.lit (.int .i64 (0 : Int))), (.lit (.int .i64 (0 : Int))), (.lit (.int .i64 (0 : Int)))]), (8500, .box [(.lit (.int .i64 (0 : Int))), (.lit (.int .i64 ((c).1 : Int))), (.lit (.int .i64 ((c).2.1 : Int))), (.lit (.int .i64 ((c).2.2 : Int)))]), (9000, .box [.lit (.bool true), .lit (.bool pet), .own 9001, .mown 9002, (.lit (.int .i64 ((r1).2.2 : Int)))]), (9001, .row 105 PT true (r1).1), (9002, .mat 80 91 NT true (r1).2.1 none), (1900, .box [(.lit (.int .i64 (1 : Int))), (.lit (.int .i64 (hd.2.1 : Int)))])]⟩) ?_ (W.regionM tys_ok [] [11] ?_); rotate_left; (conv => whnf))
 | (have _ : hd.1 = 2 := hkd; refine W.resub (x := Code.region 30 _ _) (Γ' := ⟨[(0, .st false (.arr (.int .i64) (l : List Int))), (2, .st false (.arr (.int .u8) (os : List Int))), (6, .padr 6500 0), (8, .padr 8500 0), (9, .padr 9000 0), (11, (.lit (.int .i64 (M : Int)))), (13, (.lit (.int .i64 (t : Int)))), (16, (.lit (.int .i64 (a : Int)))), (19, .padr 1900 0)], [(6500, .box [(.lit (.int .i64 (0 : Int))), (.lit (.int .i64 (0 : Int))), (.lit (.int .i64 (0 : Int))), (.lit (.int .i64 (0 : Int)))]), (8500, .box [(.lit (.int .i64 (0 : Int))), (.lit (.int .i64 ((c).1 : Int))), (.lit (.int .i64 ((c).2.1 : Int))), (.lit (.int .i64 ((c).2.2 : Int)))]), (9000, .box [.lit (.bool true), .lit (.bool pet), .own 9001, .mown 9002, (.lit (.int .i64 ((r1).2.2 : Int)))]), (9001, .row 105 PT true (r1).1), (9002, .mat 80 91 NT true (r1).2.1 none), (1900, .box [(.lit (.int .i64 (2 : Int))), (.lit (.int .i64 (hd.2.1 : Int)))])]⟩) ?_ (W.regionM tys_ok [] [11] ?_); rotate_left; (conv => whnf))
 | (have _ : hd.1 = 3 := hkd; refine W.resub (x := Code.region 30 _ _) (Γ' := ⟨[(0, .st false (.arr (.int .i64) (l : List Int))), (2, .st false (.arr (.int .u8) (os : List Int))), (6, .padr 6500 0), (8, .padr 8500 0), (9, .padr 9000 0), (11, (.lit (.int .i64 (M : Int)))), (13, (.lit (.int .i64 (t : Int)))), (16, (.lit (.int .i64 (a : Int)))), (19, .padr 1900 0)], [(6500, .box [(.lit (.int .i64 (0 : Int))), (.lit (.int .i64 (0 : Int))), (.lit (.int .i64 (0 : Int))), (.lit (.int .i64 (0 : Int)))]), (8500, .box [(.lit (.int .i64 (0 : Int))), (.lit (.int .i64 ((c).1 : Int))), (.lit (.int .i64 ((c).2.1 : Int))), (.lit (.int .i64 ((c).2.2 : Int)))]), (9000, .box [.lit (.bool true), .lit (.bool pet), .own 9001, .mown 9002, (.lit (.int .i64 ((r1).2.2 : Int)))]), (9001, .row 105 PT true (r1).1), (9002, .mat 80 91 NT true (r1).2.1 none), (1900, .box [(.lit (.int .i64 (3 : Int))), (.lit (.int .i64 (hd.2.1 : Int)))])]⟩) ?_ (W.regionM tys_ok [] [11] ?_); rotate_left; (conv => whnf))
 | (refine W.region tys_ok [] ?_; conv => whnf)
 | (refine W.drawAll tys_ok [] mixed rfl ?_; conv => whnf)
 | (refine W.ret ?_; conv => whnf)
 | (refine W.skip ?_; conv => whnf)
 | (refine W.exit ?_; conv => whnf)
 | (refine callM_at (c4) ?_; conv => whnf)
 | (refine callM_at (c5) ?_; conv => whnf)
 | (refine W.cond rfl (fun hb => ?_) (fun hb => ?_) <;> (try simp only [Int.reduceToNat, Int.reduceTDiv, Int.reduceTMod, minL, maxL, pickB, zHB, zSH] at hb) <;> (try (first | (cases hb; done) | exact absurd hb (by decide) | (exfalso; omega) | (omega) | ((simp [pickB] at hb; omega)))))
 | (refine Or.inl (And.intro ?_ ?_); (focus (first | exact trivial | exact ⟨rfl, trivial⟩ | (refine ⟨?_, trivial⟩; dsimp only; simp only [Int.reduceToNat, Int.reduceTDiv, Int.reduceTMod, minL, maxL, pickB, zHB, zSH]; omega) | (refine ⟨?_, trivial⟩; dsimp only; (try simp only [Int.reduceToNat, Int.reduceTDiv, Int.reduceTMod, minL, maxL, pickB, zHB, zSH]); (simp_all; done)) | (refine ⟨?_, trivial⟩; dsimp only; (simp only [Int.reduceToNat, Int.reduceTDiv, Int.reduceTMod, minL, maxL, pickB, zHB, zSH]; done)) | (refine ⟨?_, trivial⟩; dsimp only; (simp; done)))); (conv => whnf))
 | (refine Or.inr (And.intro ?_ ?_); (focus (intro h; have h := h.1; dsimp only at h; first | (exact Bool.noConfusion h) | (simp only [Int.reduceToNat, Int.reduceTDiv, Int.reduceTMod, minL, maxL, pickB, zHB, zSH] at h; omega) | ((try simp only [Int.reduceToNat, Int.reduceTDiv, Int.reduceTMod, minL, maxL, pickB, zHB, zSH] at h); (simp_all; done)))); (conv => whnf))
 | ((with_reducible refine And.intro ?_ ?_); (focus (first | (with_reducible rfl) | omega | rfl | ((try simp only [Int.reduceToNat, Int.reduceTDiv, Int.reduceTMod, minL, maxL, pickB, zHB, zSH, InK, Path.imp, zL] at *); omega))); (conv => whnf))
 | ((with_reducible refine And.intro (Side.out ?_) ?_); rotate_left; (conv => whnf))
 | ((first | refine retF1 ?_ | refine retF2 ?_) <;> (conv => whnf) <;> repeat' (first
 | exact trivial
 | (with_reducible rfl)
 | ((with_reducible refine And.intro ?_ ?_) <;> conv => whnf)
 | omega
 | rfl
 | (refine congrArg (SV.arr _) ?_)
 | (refine congrArg (Value.int _) ?_)
 | (refine congrArg Value.bool ?_)))); all_goals (try unfold Side)
          all_goals try refine subF.ok ?_ <;> (conv => whnf) <;> repeat' (first
 | exact trivial
 | (with_reducible rfl)
 | ((with_reducible refine And.intro ?_ ?_) <;> conv => whnf)
 | omega
 | rfl
 | (refine congrArg (SV.arr _) ?_)
 | (refine congrArg (Value.int _) ?_)
 | (refine congrArg Value.bool ?_))
          all_goals try (repeat' (first | (with_reducible rfl) | (with_reducible refine And.intro ?_ ?_) | omega | rfl | exact Or.inl rfl | exact Or.inr rfl | exact of_decide_eq_true rfl | exact Path.imp_of (of_decide_eq_true rfl) | (focus ((try simp only [Int.reduceToNat, Int.reduceTDiv, Int.reduceTMod, minL, maxL, pickB, zHB, zSH, InK, Path.imp, zL] at *); omega)) | (refine app_le rfl ?_; omega)))
          all_goals first | exact hwk.trans hkd | exact hwv | exact hlw | exact Path.imp_of hlw | skip
          all_goals
            refine W.loop (fun j : Nat => ⟨[(0, .st false (.arr (.int .i64) (l : List Int))), (2, .st false (.arr (.int .u8) (os : List Int))), (6, .padr 6500 0), (8, .padr 8500 0), (9, .padr 9000 0), (11, (.lit (.int .i64 (M : Int)))), (13, (.lit (.int .i64 (t : Int)))), (20, (.lit (.int .i64 (j : Int))))], [(6500, .box [(.lit (.int .i64 (0 : Int))), (.lit (.int .i64 (0 : Int))), (.lit (.int .i64 (0 : Int))), (.lit (.int .i64 (0 : Int)))]), (8500, .box [(.lit (.int .i64 (0 : Int))), (.lit (.int .i64 ((c2).1 : Int))), (.lit (.int .i64 ((c2).2.1 : Int))), (.lit (.int .i64 ((c2).2.2 : Int)))]), (9000, .box [.lit (.bool true), .lit (.bool pet), .own 9001, .mown 9002, (.lit (.int .i64 ((r2).2.2 : Int)))]), (9001, .row 105 PT true (r2).1), (9002, .mat 80 91 NT true (r2).2.1 none)]⟩) (fun j => j ≤ n) (fun j => n - j) (0) ?_ ?_
            · refine ⟨Nat.zero_le _, ?_⟩
              refine subF.ok ?_ <;> (conv => whnf) <;> repeat' (first
 | exact trivial
 | (with_reducible rfl)
 | ((with_reducible refine And.intro ?_ ?_) <;> conv => whnf)
 | omega
 | rfl
 | (refine congrArg (SV.arr _) ?_)
 | (refine congrArg (Value.int _) ?_)
 | (refine congrArg Value.bool ?_))
            · rintro j hj
              by_cases hjn : j < n
              · have c6 := leader_in (pet := pet) (r := r2) (i := j) (by rw [hk2.len]; exact hjn)
                have hld := hE2.leader hl hjn
                repeat' (first
 | refine W.seq ?_
 | refine W.block ?_
 | (refine W.regionM (id := 36) tys_ok [] [2] ?_; conv => whnf)
 | (refine W.region tys_ok [] ?_; conv => whnf)
 | (refine W.drawAll tys_ok [] mixed rfl ?_; conv => whnf)
 | (refine W.ret ?_; conv => whnf)
 | (refine W.skip ?_; conv => whnf)
 | (refine W.exit ?_; conv => whnf)
 | (refine callM_at (c6) ?_; conv => whnf)
 | (refine W.cond rfl (fun hb => ?_) (fun hb => ?_) <;> (try simp only [Int.reduceToNat, Int.reduceTDiv, Int.reduceTMod, minL, maxL, pickB, zHB, zSH] at hb) <;> (try (first | (cases hb; done) | exact absurd hb (by decide) | (exfalso; omega) | (omega) | ((simp [pickB] at hb; omega)))))
 | (refine Or.inl (And.intro ?_ ?_); (focus (first | exact trivial | exact ⟨rfl, trivial⟩ | (refine ⟨?_, trivial⟩; dsimp only; simp only [Int.reduceToNat, Int.reduceTDiv, Int.reduceTMod, minL, maxL, pickB, zHB, zSH]; omega) | (refine ⟨?_, trivial⟩; dsimp only; (try simp only [Int.reduceToNat, Int.reduceTDiv, Int.reduceTMod, minL, maxL, pickB, zHB, zSH]); (simp_all; done)) | (refine ⟨?_, trivial⟩; dsimp only; (simp only [Int.reduceToNat, Int.reduceTDiv, Int.reduceTMod, minL, maxL, pickB, zHB, zSH]; done)) | (refine ⟨?_, trivial⟩; dsimp only; (simp; done)))); (conv => whnf))
 | (refine Or.inr (And.intro ?_ ?_); (focus (intro h; have h := h.1; dsimp only at h; first | (exact Bool.noConfusion h) | (simp only [Int.reduceToNat, Int.reduceTDiv, Int.reduceTMod, minL, maxL, pickB, zHB, zSH] at h; omega) | ((try simp only [Int.reduceToNat, Int.reduceTDiv, Int.reduceTMod, minL, maxL, pickB, zHB, zSH] at h); (simp_all; done)))); (conv => whnf))
 | ((with_reducible refine And.intro ?_ ?_); (focus (first | (with_reducible rfl) | omega | rfl | ((try simp only [Int.reduceToNat, Int.reduceTDiv, Int.reduceTMod, minL, maxL, pickB, zHB, zSH, InK, Path.imp, zL] at *); omega))); (conv => whnf))
 | ((with_reducible refine And.intro (Side.out ?_) ?_); rotate_left; (conv => whnf))
 | ((first | refine retF1 ?_ | refine retF2 ?_) <;> (conv => whnf) <;> repeat' (first
 | exact trivial
 | (with_reducible rfl)
 | ((with_reducible refine And.intro ?_ ?_) <;> conv => whnf)
 | omega
 | rfl
 | (refine congrArg (SV.arr _) ?_)
 | (refine congrArg (Value.int _) ?_)
 | (refine congrArg Value.bool ?_)))); all_goals (try unfold Side)
                all_goals try (repeat' (first | (with_reducible rfl) | (with_reducible refine And.intro ?_ ?_) | omega | rfl | exact Or.inl rfl | exact Or.inr rfl | exact of_decide_eq_true rfl | exact Path.imp_of (of_decide_eq_true rfl) | (focus ((try simp only [Int.reduceToNat, Int.reduceTDiv, Int.reduceTMod, minL, maxL, pickB, zHB, zSH, InK, Path.imp, zL] at *); omega)) | (refine app_le rfl ?_; omega)))
                refine ⟨j + 1, ⟨by omega, by omega⟩, ?_⟩
                refine subF.ok ?_ <;> (conv => whnf) <;> repeat' (first
 | exact trivial
 | (with_reducible rfl)
 | ((with_reducible refine And.intro ?_ ?_) <;> conv => whnf)
 | omega
 | rfl
 | (refine congrArg (SV.arr _) ?_)
 | (refine congrArg (Value.int _) ?_)
 | (refine congrArg Value.bool ?_))
              · repeat' (first
 | refine W.seq ?_
 | refine W.block ?_
 | (refine W.region tys_ok [] ?_; conv => whnf)
 | (refine W.drawAll tys_ok [] mixed rfl ?_; conv => whnf)
 | (refine W.ret ?_; conv => whnf)
 | (refine W.skip ?_; conv => whnf)
 | (refine W.exit ?_; conv => whnf)
 | (refine W.cond rfl (fun hb => ?_) (fun hb => ?_) <;> (try simp only [Int.reduceToNat, Int.reduceTDiv, Int.reduceTMod, minL, maxL, pickB, zHB, zSH] at hb) <;> (try (first | (cases hb; done) | exact absurd hb (by decide) | (exfalso; omega) | (omega))))
 | ((with_reducible refine And.intro ?_ ?_); (focus (first | (with_reducible rfl) | omega | rfl | ((try simp only [Int.reduceToNat, Int.reduceTDiv, Int.reduceTMod, minL, maxL, pickB, zHB, zSH, InK, Path.imp, zL] at *); omega))); (conv => whnf))
 | ((with_reducible refine And.intro (Side.out ?_) ?_); rotate_left; (conv => whnf))
 | ((first | refine retF1 ?_ | refine retF2 ?_) <;> (conv => whnf) <;> repeat' (first
 | exact trivial
 | (with_reducible rfl)
 | ((with_reducible refine And.intro ?_ ?_) <;> conv => whnf)
 | omega
 | rfl
 | (refine congrArg (SV.arr _) ?_)
 | (refine congrArg (Value.int _) ?_)
 | (refine congrArg Value.bool ?_)))); all_goals (try unfold Side)
                all_goals try (repeat' (first | (with_reducible rfl) | (with_reducible refine And.intro ?_ ?_) | omega | rfl | exact Or.inl rfl | exact Or.inr rfl | exact of_decide_eq_true rfl | exact Path.imp_of (of_decide_eq_true rfl) | (focus ((try simp only [Int.reduceToNat, Int.reduceTDiv, Int.reduceTMod, minL, maxL, pickB, zHB, zSH, InK, Path.imp, zL] at *); omega)) | (refine app_le rfl ?_; omega)))
                refine ⟨(t + 1, r2, c2), ⟨⟨hE2, hsum, by dsimp only; omega, by dsimp only; omega, hsim2⟩, by dsimp only; omega⟩, ?_⟩
                refine subF.ok ?_ <;> (conv => whnf) <;> repeat' (first
 | exact trivial
 | (with_reducible rfl)
 | ((with_reducible refine And.intro ?_ ?_) <;> conv => whnf)
 | omega
 | rfl
 | (refine congrArg (SV.arr _) ?_)
 | (refine congrArg (Value.int _) ?_)
 | (refine congrArg Value.bool ?_))
end Go.Proofs.Ytkjcnegkdlmapaa
namespace Go.Proofs.Ytkjcnegkdlmapaa
open Go Go.Vc Go.Rg
set_option linter.unusedVariables false
set_option linter.unusedSimpArgs false
variable {hs : List Hd} {fl : List Lt}
theorem is_at (h : 0 < hs.length) : FnM Try.prog 51 [.padr 1000000000 0] [(1000000000, .box [.own 1000000001, .own 1000000002]), (1000000001, .row 96 HT true (hs)), (1000000002, .row 50 LT true (fl))] (.lit (.bool true)) [(1000000000, .box [.own 1000000001, .own 1000000002]), (1000000001, .row 96 HT true (hs)), (1000000002, .row 50 LT true (fl))] := by
  have hl : @List.length HT.T hs = hs.length := rfl
  refine FnM.of_body tys_ok Try.func51 (by rfl) rfl Try.ntmps51 (by rw [Try.results51]) (by simp) ?_
  
  repeat' (first
 | refine W.seq ?_
 | refine W.block ?_
 | (refine W.region tys_ok [] ?_; conv => whnf)
 | (refine W.drawAll tys_ok [] mixed rfl ?_; conv => whnf)
 | (refine W.ret ?_; conv => whnf)
 | (refine W.skip ?_; conv => whnf)
 | (refine W.exit ?_; conv => whnf)
 | (refine W.cond rfl (fun hb => ?_) (fun hb => ?_) <;> (try simp only [Int.reduceToNat, Int.reduceTDiv, Int.reduceTMod, minL, maxL, pickB, zHB, zSH] at hb) <;> (try (first | (cases hb; done) | exact absurd hb (by decide) | (exfalso; omega) | (omega))))
 | ((with_reducible refine And.intro ?_ ?_); (focus (first | (with_reducible rfl) | omega | rfl | ((try simp only [Int.reduceToNat, Int.reduceTDiv, Int.reduceTMod, minL, maxL, pickB, zHB, zSH, InK, Path.imp, zL] at *); omega))); (conv => whnf))
 | ((with_reducible refine And.intro (Side.out ?_) ?_); rotate_left; (conv => whnf))
 | ((first | refine retM1 ?_ | refine retM2 ?_) <;> (conv => whnf) <;> repeat' (first
 | exact trivial
 | (with_reducible rfl)
 | ((with_reducible refine And.intro ?_ ?_) <;> conv => whnf)
 | omega
 | rfl
 | (refine congrArg (SV.arr _) ?_)
 | (refine congrArg (Value.int _) ?_)
 | (refine congrArg Value.bool ?_)))); all_goals (try unfold Side)
  all_goals try (repeat' (first | (with_reducible rfl) | (with_reducible refine And.intro ?_ ?_) | omega | rfl | exact Or.inl rfl | exact Or.inr rfl | exact of_decide_eq_true rfl | exact Path.imp_of (of_decide_eq_true rfl) | (focus ((try simp only [Int.reduceToNat, Int.reduceTDiv, Int.reduceTMod, minL, maxL, pickB, zHB, zSH, InK, Path.imp, zL] at *); omega)) | (refine app_le rfl ?_; omega)))
  all_goals (simp [pickB]; omega)
theorem hasf_at {i : Int} {b : Bool} (h : b = !hasB hs.length i) : FnM Try.prog 76 [.lit (.int .i64 i), .padr 1000000003 0] [(1000000003, .box1 (.padr 1000000000 0)), (1000000000, .box [.own 1000000001, .own 1000000002]), (1000000001, .row 96 HT true (hs)), (1000000002, .row 50 LT true (fl))] (.lit (.bool b)) [(1000000003, .box1 (.padr 1000000000 0)), (1000000000, .box [.own 1000000001, .own 1000000002]), (1000000001, .row 96 HT true (hs)), (1000000002, .row 50 LT true (fl))] := by
  subst h
  have hl : @List.length HT.T hs = hs.length := rfl
  refine FnM.of_body tys_ok Try.func76 (by rfl) rfl Try.ntmps76 (by rw [Try.results76]) (by simp) ?_
  
  repeat' (first
 | refine W.seq ?_
 | refine W.block ?_
 | (refine W.region tys_ok [] ?_; conv => whnf)
 | (refine W.drawAll tys_ok [] mixed rfl ?_; conv => whnf)
 | (refine W.ret ?_; conv => whnf)
 | (refine W.skip ?_; conv => whnf)
 | (refine W.exit ?_; conv => whnf)
 | (refine W.cond rfl (fun hb => ?_) (fun hb => ?_) <;> (try simp only [Int.reduceToNat, Int.reduceTDiv, Int.reduceTMod, minL, maxL, pickB, zHB, zSH] at hb) <;> (try (first | (cases hb; done) | exact absurd hb (by decide) | (exfalso; omega) | (omega))))
 | ((with_reducible refine And.intro ?_ ?_); (focus (first | (with_reducible rfl) | omega | rfl | ((try simp only [Int.reduceToNat, Int.reduceTDiv, Int.reduceTMod, minL, maxL, pickB, zHB, zSH, InK, Path.imp, zL] at *); omega))); (conv => whnf))
 | ((with_reducible refine And.intro (Side.out ?_) ?_); rotate_left; (conv => whnf))
 | ((first | refine retM1 ?_ | refine retM2 ?_) <;> (conv => whnf) <;> repeat' (first
 | exact trivial
 | (with_reducible rfl)
 | ((with_reducible refine And.intro ?_ ?_) <;> conv => whnf)
 | omega
 | rfl
 | (refine congrArg (SV.arr _) ?_)
 | (refine congrArg (Value.int _) ?_)
 | (refine congrArg Value.bool ?_)))); all_goals (try unfold Side)
  all_goals try (repeat' (first | (with_reducible rfl) | (with_reducible refine And.intro ?_ ?_) | omega | rfl | exact Or.inl rfl | exact Or.inr rfl | exact of_decide_eq_true rfl | exact Path.imp_of (of_decide_eq_true rfl) | (focus ((try simp only [Int.reduceToNat, Int.reduceTDiv, Int.reduceTMod, minL, maxL, pickB, zHB, zSH, InK, Path.imp, zL] at *); omega)) | (refine app_le rfl ?_; omega)))
  unfold hasB
  simp only [pickB]
  rw [Bool.eq_iff_iff]
  simp
  omega
def ixB (n : Nat) (l : List Int) (i : Nat) : Int := if (l.drop i).all (hasB n) = true then -1 else ((i + (l.drop i).findIdx (fun x => !hasB n x) : Nat) : Int)
theorem ixB_end {n : Nat} {l : List Int} {i : Nat} (h : l.length ≤ i) : ixB n l i = -1 := by
  unfold ixB
  rw [List.drop_of_length_le h]
  rfl
theorem ixB_no {n : Nat} {l : List Int} {i : Nat} (h : i < l.length) (hb : hasB n (l.getD i 0) = false) : ixB n l i = (i : Int) := by
  unfold ixB
  rw [List.drop_eq_getElem_cons h]
  have : l.getD i 0 = l[i] := by rw [List.getD_eq_getElem?_getD, List.getElem?_eq_getElem h]; rfl
  rw [this] at hb
  rw [List.all_cons, hb, Bool.false_and, if_neg (by decide), List.findIdx_cons, hb]
  simp
theorem ixB_yes {n : Nat} {l : List Int} {i : Nat} (h : i < l.length) (hb : hasB n (l.getD i 0) = true) : ixB n l i = ixB n l (i + 1) := by
  unfold ixB
  rw [List.drop_eq_getElem_cons h]
  have : l.getD i 0 = l[i] := by rw [List.getD_eq_getElem?_getD, List.getElem?_eq_getElem h]; rfl
  rw [this] at hb
  simp only [List.all_cons, hb, Bool.true_and, List.findIdx_cons, Bool.not_true, cond_false]
  split
  · rfl
  · congr 1; omega
theorem ixB_sign {n : Nat} {l : List Int} : decide (0 ≤ ixB n l 0) = !l.all (hasB n) := by
  unfold ixB
  rw [List.drop_zero]
  cases h : l.all (hasB n)
  · simp
  · simp
theorem index_at {l : List Int} (hll : l.length ≤ 1000) : FnM Try.prog 81 [.st false (.arr (.int .i64) l), .fn 76 [.padr 1000000003 0]] [(1000000003, .box1 (.padr 1000000000 0)), (1000000000, .box [.own 1000000001, .own 1000000002]), (1000000001, .row 96 HT true (hs)), (1000000002, .row 50 LT true (fl))] (.lit (.int .i64 (ixB hs.length l 0))) [(1000000003, .box1 (.padr 1000000000 0)), (1000000000, .box [.own 1000000001, .own 1000000002]), (1000000001, .row 96 HT true (hs)), (1000000002, .row 50 LT true (fl))] := by
  have hl : @List.length (Ty.int .i64).T l = l.length := rfl
  refine FnM.of_body tys_ok Try.func81 (by rfl) rfl Try.ntmps81 (by rw [Try.results81]) (by simp) ?_
  
  repeat' (first
 | refine W.seq ?_
 | refine W.block ?_
 | (refine W.region tys_ok [] ?_; conv => whnf)
 | (refine W.drawAll tys_ok [] mixed rfl ?_; conv => whnf)
 | (refine W.ret ?_; conv => whnf)
 | (refine W.skip ?_; conv => whnf)
 | (refine W.exit ?_; conv => whnf)
 | (refine W.cond rfl (fun hb => ?_) (fun hb => ?_) <;> (try simp only [Int.reduceToNat, Int.reduceTDiv, Int.reduceTMod, minL, maxL, pickB, zHB, zSH] at hb) <;> (try (first | (cases hb; done) | exact absurd hb (by decide) | (exfalso; omega) | (omega))))
 | ((with_reducible refine And.intro ?_ ?_); (focus (first | (with_reducible rfl) | omega | rfl | ((try simp only [Int.reduceToNat, Int.reduceTDiv, Int.reduceTMod, minL, maxL, pickB, zHB, zSH, InK, Path.imp, zL] at *); omega))); (conv => whnf))
 | ((with_reducible refine And.intro (Side.out ?_) ?_); rotate_left; (conv => whnf))
 | ((first | refine retM1 ?_ | refine retM2 ?_) <;> (conv => whnf) <;> repeat' (first
 | exact trivial
 | (with_reducible rfl)
 | ((with_reducible refine And.intro ?_ ?_) <;> conv => whnf)
 | omega
 | rfl
 | (refine congrArg (SV.arr _) ?_)
 | (refine congrArg (Value.int _) ?_)
 | (refine congrArg Value.bool ?_)))); all_goals (try unfold Side)
  all_goals try (repeat' (first | (with_reducible rfl) | (with_reducible refine And.intro ?_ ?_) | omega | rfl | exact Or.inl rfl | exact Or.inr rfl | exact of_decide_eq_true rfl | exact Path.imp_of (of_decide_eq_true rfl) | (focus ((try simp only [Int.reduceToNat, Int.reduceTDiv, Int.reduceTMod, minL, maxL, pickB, zHB, zSH, InK, Path.imp, zL] at *); omega)) | (refine app_le rfl ?_; omega)))
  refine W.loop (fun i : Nat => ⟨[(0, .st false (.arr (.int .i64) l)), (1, .fn 76 [.padr 1000000003 0]), (7, .lit (.int .i64 ((l.length : Int)))), (8, .lit (.int .i64 (i)))], [(1000000003, .box1 (.padr 1000000000 0)), (1000000000, .box [.own 1000000001, .own 1000000002]), (1000000001, .row 96 HT true hs), (1000000002, .row 50 LT true fl)]⟩) (fun i => i ≤ l.length ∧ ixB hs.length l 0 = ixB hs.length l i) (fun i => l.length - i) (0) ?_ ?_
  · refine ⟨⟨Nat.zero_le _, rfl⟩, ?_⟩
    refine subF.ok ?_ <;> (conv => whnf) <;> repeat' (first
 | exact trivial
 | (with_reducible rfl)
 | ((with_reducible refine And.intro ?_ ?_) <;> conv => whnf)
 | omega
 | rfl
 | (refine congrArg (SV.arr _) ?_)
 | (refine congrArg (Value.int _) ?_)
 | (refine congrArg Value.bool ?_))
  · rintro i ⟨hi, hix⟩
    by_cases hil : i < l.length
    · cases hb0 : hasB hs.length (l.getD i 0) with
      | true =>
        have hy := ixB_yes hil hb0
        have c1 := hasf_at (hs := hs) (fl := fl) (i := l.getD i 0) (b := false) (by rw [hb0]; rfl)
        repeat' (first
 | refine W.seq ?_
 | refine W.block ?_
 | (refine W.regionM (id := 4) tys_ok [] [5] ?_; conv => whnf)
 | (refine W.region tys_ok [] ?_; conv => whnf)
 | (refine W.drawAll tys_ok [] mixed rfl ?_; conv => whnf)
 | (refine W.ret ?_; conv => whnf)
 | (refine W.skip ?_; conv => whnf)
 | (refine W.exit ?_; conv => whnf)
 | (refine callM_at (c1) ?_; conv => whnf)
 | (refine W.cond rfl (fun hb => ?_) (fun hb => ?_) <;> (try simp only [Int.reduceToNat, Int.reduceTDiv, Int.reduceTMod, minL, maxL, pickB, zHB, zSH] at hb) <;> (try (first | (cases hb; done) | exact absurd hb (by decide) | (exfalso; omega) | (omega))))
 | (refine Or.inl (And.intro ?_ ?_); (focus (first | exact trivial | exact ⟨rfl, trivial⟩ | (refine ⟨?_, trivial⟩; dsimp only; simp only [Int.reduceToNat, Int.reduceTDiv, Int.reduceTMod, minL, maxL, pickB, zHB, zSH]; omega) | (refine ⟨?_, trivial⟩; dsimp only; (try simp only [Int.reduceToNat, Int.reduceTDiv, Int.reduceTMod, minL, maxL, pickB, zHB, zSH]); (simp_all; done)) | (refine ⟨?_, trivial⟩; dsimp only; (simp only [Int.reduceToNat, Int.reduceTDiv, Int.reduceTMod, minL, maxL, pickB, zHB, zSH]; done)) | (refine ⟨?_, trivial⟩; dsimp only; (simp; done)))); (conv => whnf))
 | (refine Or.inr (And.intro ?_ ?_); (focus (intro h; have h := h.1; dsimp only at h; first | (exact Bool.noConfusion h) | (simp only [Int.reduceToNat, Int.reduceTDiv, Int.reduceTMod, minL, maxL, pickB, zHB, zSH] at h; omega) | ((try simp only [Int.reduceToNat, Int.reduceTDiv, Int.reduceTMod, minL, maxL, pickB, zHB, zSH] at h); (simp_all; done)))); (conv => whnf))
 | ((with_reducible refine And.intro ?_ ?_); (focus (first | (with_reducible rfl) | omega | rfl | ((try simp only [Int.reduceToNat, Int.reduceTDiv, Int.reduceTMod, minL, maxL, pickB, zHB, zSH, InK, Path.imp, zL] at *); omega))); (conv => whnf))
 | ((with_reducible refine And.intro (Side.out ?_) ?_); rotate_left; (conv => whnf))
 | ((first | refine retM1 ?_ | refine retM2 ?_) <;> (conv => whnf) <;> repeat' (first
 | exact trivial
 | (with_reducible rfl)
 | ((with_reducible refine And.intro ?_ ?_) <;> conv => whnf)
 | omega
 | rfl
 | (refine congrArg (SV.arr _) ?_)
 | (refine congrArg (Value.int _) ?_)
 | (refine congrArg Value.bool ?_)))); all_goals (try unfold Side)
        all_goals try (repeat' (first | (with_reducible rfl) | (with_reducible refine And.intro ?_ ?_) | omega | rfl | exact Or.inl rfl | exact Or.inr rfl | exact of_decide_eq_true rfl | exact Path.imp_of (of_decide_eq_true rfl) | (focus ((try simp only [Int.reduceToNat, Int.reduceTDiv, Int.reduceTMod, minL, maxL, pickB, zHB, zSH, InK, Path.imp, zL] at *); omega)) | (refine app_le rfl ?_; omega)))
        refine ⟨i + 1, ⟨⟨by omega, by rw [hix, hy]⟩, by omega⟩, ?_⟩
        refine subF.ok ?_ <;> (conv => whnf) <;> repeat' (first
 | exact trivial
 | (with_reducible rfl)
 | ((with_reducible refine And.intro ?_ ?_) <;> conv => whnf)
 | omega
 | rfl
 | (refine congrArg (SV.arr _) ?_)
 | (refine congrArg (Value.int _) ?_)
 | (refine congrArg Value.bool ?_))
      | false =>
        have hy := ixB_no hil hb0
        have c1 := hasf_at (hs := hs) (fl := fl) (i := l.getD i 0) (b := true) (by rw [hb0]; rfl)
        repeat' (first
 | refine W.seq ?_
 | refine W.block ?_
 | (refine W.regionM (id := 4) tys_ok [] [5] ?_; conv => whnf)
 | (refine W.region tys_ok [] ?_; conv => whnf)
 | (refine W.drawAll tys_ok [] mixed rfl ?_; conv => whnf)
 | (refine W.ret ?_; conv => whnf)
 | (refine W.skip ?_; conv => whnf)
 | (refine W.exit ?_; conv => whnf)
 | (refine callM_at (c1) ?_; conv => whnf)
 | (refine W.cond rfl (fun hb => ?_) (fun hb => ?_) <;> (try simp only [Int.reduceToNat, Int.reduceTDiv, Int.reduceTMod, minL, maxL, pickB, zHB, zSH] at hb) <;> (try (first | (cases hb; done) | exact absurd hb (by decide) | (exfalso; omega) | (omega))))
 | (refine Or.inl (And.intro ?_ ?_); (focus (first | exact trivial | exact ⟨rfl, trivial⟩ | (refine ⟨?_, trivial⟩; dsimp only; simp only [Int.reduceToNat, Int.reduceTDiv, Int.reduceTMod, minL, maxL, pickB, zHB, zSH]; omega) | (refine ⟨?_, trivial⟩; dsimp only; (try simp only [Int.reduceToNat, Int.reduceTDiv, Int.reduceTMod, minL, maxL, pickB, zHB, zSH]); (simp_all; done)) | (refine ⟨?_, trivial⟩; dsimp only; (simp only [Int.reduceToNat, Int.reduceTDiv, Int.reduceTMod, minL, maxL, pickB, zHB, zSH]; done)) | (refine ⟨?_, trivial⟩; dsimp only; (simp; done)))); (conv => whnf))
 | (refine Or.inr (And.intro ?_ ?_); (focus (intro h; have h := h.1; dsimp only at h; first | (exact Bool.noConfusion h) | (simp only [Int.reduceToNat, Int.reduceTDiv, Int.reduceTMod, minL, maxL, pickB, zHB, zSH] at h; omega) | ((try simp only [Int.reduceToNat, Int.reduceTDiv, Int.reduceTMod, minL, maxL, pickB, zHB, zSH] at h); (simp_all; done)))); (conv => whnf))
 | ((with_reducible refine And.intro ?_ ?_); (focus (first | (with_reducible rfl) | omega | rfl | ((try simp only [Int.reduceToNat, Int.reduceTDiv, Int.reduceTMod, minL, maxL, pickB, zHB, zSH, InK, Path.imp, zL] at *); omega))); (conv => whnf))
 | ((with_reducible refine And.intro (Side.out ?_) ?_); rotate_left; (conv => whnf))
 | ((first | refine retM1 ?_ | refine retM2 ?_) <;> (conv => whnf) <;> repeat' (first
 | exact trivial
 | (with_reducible rfl)
 | ((with_reducible refine And.intro ?_ ?_) <;> conv => whnf)
 | omega
 | rfl
 | (refine congrArg (SV.arr _) ?_)
 | (refine congrArg (Value.int _) ?_)
 | (refine congrArg Value.bool ?_)))); all_goals (try unfold Side)
        all_goals try (repeat' (first | (with_reducible rfl) | (with_reducible refine And.intro ?_ ?_) | omega | rfl | exact Or.inl rfl | exact Or.inr rfl | exact of_decide_eq_true rfl | exact Path.imp_of (of_decide_eq_true rfl) | (focus ((try simp only [Int.reduceToNat, Int.reduceTDiv, Int.reduceTMod, minL, maxL, pickB, zHB, zSH, InK, Path.imp, zL] at *); omega)) | (refine app_le rfl ?_; omega)))
        all_goals (rw [hix, hy])
    · have hy := ixB_end (n := hs.length) (l := l) (i := i) (by omega)
      repeat' (first
 | refine W.seq ?_
 | refine W.block ?_
 | (refine W.region tys_ok [] ?_; conv => whnf)
 | (refine W.drawAll tys_ok [] mixed rfl ?_; conv => whnf)
 | (refine W.ret ?_; conv => whnf)
 | (refine W.skip ?_; conv => whnf)
 | (refine W.exit ?_; conv => whnf)
 | (refine W.cond rfl (fun hb => ?_) (fun hb => ?_) <;> (try simp only [Int.reduceToNat, Int.reduceTDiv, Int.reduceTMod, minL, maxL, pickB, zHB, zSH] at hb) <;> (try (first | (cases hb; done) | exact absurd hb (by decide) | (exfalso; omega) | (omega))))
 | ((with_reducible refine And.intro ?_ ?_); (focus (first | (with_reducible rfl) | omega | rfl | ((try simp only [Int.reduceToNat, Int.reduceTDiv, Int.reduceTMod, minL, maxL, pickB, zHB, zSH, InK, Path.imp, zL] at *); omega))); (conv => whnf))
 | ((with_reducible refine And.intro (Side.out ?_) ?_); rotate_left; (conv => whnf))
 | ((first | refine retM1 ?_ | refine retM2 ?_) <;> (conv => whnf) <;> repeat' (first
 | exact trivial
 | (with_reducible rfl)
 | ((with_reducible refine And.intro ?_ ?_) <;> conv => whnf)
 | omega
 | rfl
 | (refine congrArg (SV.arr _) ?_)
 | (refine congrArg (Value.int _) ?_)
 | (refine congrArg Value.bool ?_)))); all_goals (try unfold Side)
      all_goals try (repeat' (first | (with_reducible rfl) | (with_reducible refine And.intro ?_ ?_) | omega | rfl | exact Or.inl rfl | exact Or.inr rfl | exact of_decide_eq_true rfl | exact Path.imp_of (of_decide_eq_true rfl) | (focus ((try simp only [Int.reduceToNat, Int.reduceTDiv, Int.reduceTMod, minL, maxL, pickB, zHB, zSH, InK, Path.imp, zL] at *); omega)) | (refine app_le rfl ?_; omega)))
      all_goals (rw [hix, hy])
theorem contains_at {l : List Int} (hll : l.length ≤ 1000) : FnM Try.prog 75 [.st false (.arr (.int .i64) l), .fn 76 [.padr 1000000003 0]] [(1000000003, .box1 (.padr 1000000000 0)), (1000000000, .box [.own 1000000001, .own 1000000002]), (1000000001, .row 96 HT true (hs)), (1000000002, .row 50 LT true (fl))] (.lit (.bool (!l.all (hasB hs.length)))) [(1000000003, .box1 (.padr 1000000000 0)), (1000000000, .box [.own 1000000001, .own 1000000002]), (1000000001, .row 96 HT true (hs)), (1000000002, .row 50 LT true (fl))] := by
  have c1 := index_at (hs := hs) (fl := fl) hll
  have hs1 := ixB_sign (n := hs.length) (l := l)
  refine FnM.of_body tys_ok Try.func75 (by rfl) rfl Try.ntmps75 (by rw [Try.results75]) (by simp) ?_
  
  repeat' (first
 | refine W.seq ?_
 | refine W.block ?_
 | (refine W.regionM (id := 1) tys_ok [] [2] ?_; conv => whnf)
 | (refine W.region tys_ok [] ?_; conv => whnf)
 | (refine W.drawAll tys_ok [] mixed rfl ?_; conv => whnf)
 | (refine W.ret ?_; conv => whnf)
 | (refine W.skip ?_; conv => whnf)
 | (refine W.exit ?_; conv => whnf)
 | (refine callM_at (c1) ?_; conv => whnf)
 | (refine W.cond rfl (fun hb => ?_) (fun hb => ?_) <;> (try simp only [Int.reduceToNat, Int.reduceTDiv, Int.reduceTMod, minL, maxL, pickB, zHB, zSH] at hb) <;> (try (first | (cases hb; done) | exact absurd hb (by decide) | (exfalso; omega) | (omega))))
 | (refine Or.inl (And.intro ?_ ?_); (focus (first | exact trivial | exact ⟨rfl, trivial⟩ | (refine ⟨?_, trivial⟩; dsimp only; simp only [Int.reduceToNat, Int.reduceTDiv, Int.reduceTMod, minL, maxL, pickB, zHB, zSH]; omega) | (refine ⟨?_, trivial⟩; dsimp only; (try simp only [Int.reduceToNat, Int.reduceTDiv, Int.reduceTMod, minL, maxL, pickB, zHB, zSH]); (simp_all; done)) | (refine ⟨?_, trivial⟩; dsimp only; (simp only [Int.reduceToNat, Int.reduceTDiv, Int.reduceTMod, minL, maxL, pickB, zHB, zSH]; done)) | (refine ⟨?_, trivial⟩; dsimp only; (simp; done)))); (conv => whnf))
 | (refine Or.inr (And.intro ?_ ?_); (focus (intro h; have h := h.1; dsimp only at h; first | (exact Bool.noConfusion h) | (simp only [Int.reduceToNat, Int.reduceTDiv, Int.reduceTMod, minL, maxL, pickB, zHB, zSH] at h; omega) | ((try simp only [Int.reduceToNat, Int.reduceTDiv, Int.reduceTMod, minL, maxL, pickB, zHB, zSH] at h); (simp_all; done)))); (conv => whnf))
 | ((with_reducible refine And.intro ?_ ?_); (focus (first | (with_reducible rfl) | omega | rfl | ((try simp only [Int.reduceToNat, Int.reduceTDiv, Int.reduceTMod, minL, maxL, pickB, zHB, zSH, InK, Path.imp, zL] at *); omega))); (conv => whnf))
 | ((with_reducible refine And.intro (Side.out ?_) ?_); rotate_left; (conv => whnf))
 | ((first | refine retM1 ?_ | refine retM2 ?_) <;> (conv => whnf) <;> repeat' (first
 | exact trivial
 | (with_reducible rfl)
 | ((with_reducible refine And.intro ?_ ?_) <;> conv => whnf)
 | omega
 | rfl
 | (refine congrArg (SV.arr _) ?_)
 | (refine congrArg (Value.int _) ?_)
 | (refine congrArg Value.bool ?_)))); all_goals (try unfold Side)
  all_goals try (repeat' (first | (with_reducible rfl) | (with_reducible refine And.intro ?_ ?_) | omega | rfl | exact Or.inl rfl | exact Or.inr rfl | exact of_decide_eq_true rfl | exact Path.imp_of (of_decide_eq_true rfl) | (focus ((try simp only [Int.reduceToNat, Int.reduceTDiv, Int.reduceTMod, minL, maxL, pickB, zHB, zSH, InK, Path.imp, zL] at *); omega)) | (refine app_le rfl ?_; omega)))
  all_goals exact hs1
theorem has_at {l : List Int} {b : Bool} (hll : l.length ≤ 1000) (h : b = l.all (hasB hs.length)) : FnM Try.prog 52 [.padr 1000000000 0, .st false (.arr (.int .i64) l)] [(1000000000, .box [.own 1000000001, .own 1000000002]), (1000000001, .row 96 HT true (hs)), (1000000002, .row 50 LT true (fl))] (.lit (.bool b)) [(1000000000, .box [.own 1000000001, .own 1000000002]), (1000000001, .row 96 HT true (hs)), (1000000002, .row 50 LT true (fl))] := by
  subst h
  have c1 := contains_at (hs := hs) (fl := fl) hll
  refine FnM.of_body tys_ok Try.func52 (by rfl) rfl Try.ntmps52 (by rw [Try.results52]) (by simp) ?_
  
  repeat' (first
 | refine W.seq ?_
 | refine W.block ?_
 | (refine W.regionM (id := 1) tys_ok [] [2] ?_; conv => whnf)
 | (refine W.region tys_ok [] ?_; conv => whnf)
 | (refine W.drawAll tys_ok [] mixed rfl ?_; conv => whnf)
 | (refine W.ret ?_; conv => whnf)
 | (refine W.skip ?_; conv => whnf)
 | (refine W.exit ?_; conv => whnf)
 | (refine callM_at (c1) ?_; conv => whnf)
 | (refine W.cond rfl (fun hb => ?_) (fun hb => ?_) <;> (try simp only [Int.reduceToNat, Int.reduceTDiv, Int.reduceTMod, minL, maxL, pickB, zHB, zSH] at hb) <;> (try (first | (cases hb; done) | exact absurd hb (by decide) | (exfalso; omega) | (omega))))
 | (refine Or.inl (And.intro ?_ ?_); (focus (first | exact trivial | exact ⟨rfl, trivial⟩ | (refine ⟨?_, trivial⟩; dsimp only; simp only [Int.reduceToNat, Int.reduceTDiv, Int.reduceTMod, minL, maxL, pickB, zHB, zSH]; omega) | (refine ⟨?_, trivial⟩; dsimp only; (try simp only [Int.reduceToNat, Int.reduceTDiv, Int.reduceTMod, minL, maxL, pickB, zHB, zSH]); (simp_all; done)) | (refine ⟨?_, trivial⟩; dsimp only; (simp only [Int.reduceToNat, Int.reduceTDiv, Int.reduceTMod, minL, maxL, pickB, zHB, zSH]; done)) | (refine ⟨?_, trivial⟩; dsimp only; (simp; done)))); (conv => whnf))
 | (refine Or.inr (And.intro ?_ ?_); (focus (intro h; have h := h.1; dsimp only at h; first | (exact Bool.noConfusion h) | (simp only [Int.reduceToNat, Int.reduceTDiv, Int.reduceTMod, minL, maxL, pickB, zHB, zSH] at h; omega) | ((try simp only [Int.reduceToNat, Int.reduceTDiv, Int.reduceTMod, minL, maxL, pickB, zHB, zSH] at h); (simp_all; done)))); (conv => whnf))
 | ((with_reducible refine And.intro ?_ ?_); (focus (first | (with_reducible rfl) | omega | rfl | ((try simp only [Int.reduceToNat, Int.reduceTDiv, Int.reduceTMod, minL, maxL, pickB, zHB, zSH, InK, Path.imp, zL] at *); omega))); (conv => whnf))
 | ((with_reducible refine And.intro (Side.out ?_) ?_); rotate_left; (conv => whnf))
 | ((first | refine retM1 ?_ | refine retM2 ?_) <;> (conv => whnf) <;> repeat' (first
 | exact trivial
 | (with_reducible rfl)
 | ((with_reducible refine And.intro ?_ ?_) <;> conv => whnf)
 | omega
 | rfl
 | (refine congrArg (SV.arr _) ?_)
 | (refine congrArg (Value.int _) ?_)
 | (refine congrArg Value.bool ?_)))); all_goals (try unfold Side)
  all_goals try (repeat' (first | (with_reducible rfl) | (with_reducible refine And.intro ?_ ?_) | omega | rfl | exact Or.inl rfl | exact Or.inr rfl | exact of_decide_eq_true rfl | exact Path.imp_of (of_decide_eq_true rfl) | (focus ((try simp only [Int.reduceToNat, Int.reduceTDiv, Int.reduceTMod, minL, maxL, pickB, zHB, zSH, InK, Path.imp, zL] at *); omega)) | (refine app_le rfl ?_; omega)))
  all_goals simp
end Go.Proofs.Ytkjcnegkdlmapaa
namespace Go.Proofs.Ytkjcnegkdlmapaa
open Go Go.Vc Go.Rg
set_option linter.unusedVariables false
set_option linter.unusedSimpArgs false
variable {hs : List Hd} {fl : List Lt}
theorem leaves_at {i : Nat} {b : Bool} (hi : i < hs.length) (h : b = goesB hs i) : FnM Try.prog 53 [.padr 1000000000 0, .lit (.int .i64 (i : Int))] [(1000000000, .box [.own 1000000001, .own 1000000002]), (1000000001, .row 96 HT true (hs)), (1000000002, .row 50 LT true (fl))] (.lit (.bool b)) [(1000000000, .box [.own 1000000001, .own 1000000002]), (1000000001, .row 96 HT true (hs)), (1000000002, .row 50 LT true (fl))] := by
  subst h
  have hl : @List.length HT.T hs = hs.length := rfl
  refine FnM.of_body tys_ok Try.func53 (by rfl) rfl Try.ntmps53 (by rw [Try.results53]) (by simp) ?_
  
  repeat' (first
 | refine W.seq ?_
 | refine W.block ?_
 | (refine W.region tys_ok [] ?_; conv => whnf)
 | (refine W.drawAll tys_ok [] mixed rfl ?_; conv => whnf)
 | (refine W.ret ?_; conv => whnf)
 | (refine W.skip ?_; conv => whnf)
 | (refine W.exit ?_; conv => whnf)
 | (refine W.cond rfl (fun hb => ?_) (fun hb => ?_) <;> (try simp only [Int.reduceToNat, Int.reduceTDiv, Int.reduceTMod, minL, maxL, pickB, zHB, zSH] at hb) <;> (try (first | (cases hb; done) | exact absurd hb (by decide) | (exfalso; omega) | (omega))))
 | ((with_reducible refine And.intro ?_ ?_); (focus (first | (with_reducible rfl) | omega | rfl | ((try simp only [Int.reduceToNat, Int.reduceTDiv, Int.reduceTMod, minL, maxL, pickB, zHB, zSH, InK, Path.imp, zL] at *); omega))); (conv => whnf))
 | ((with_reducible refine And.intro (Side.out ?_) ?_); rotate_left; (conv => whnf))
 | ((first | refine retM1 ?_ | refine retM2 ?_) <;> (conv => whnf) <;> repeat' (first
 | exact trivial
 | (with_reducible rfl)
 | ((with_reducible refine And.intro ?_ ?_) <;> conv => whnf)
 | omega
 | rfl
 | (refine congrArg (SV.arr _) ?_)
 | (refine congrArg (Value.int _) ?_)
 | (refine congrArg Value.bool ?_)))); all_goals (try unfold Side)
  all_goals try (repeat' (first | (with_reducible rfl) | (with_reducible refine And.intro ?_ ?_) | omega | rfl | exact Or.inl rfl | exact Or.inr rfl | exact of_decide_eq_true rfl | exact Path.imp_of (of_decide_eq_true rfl) | (focus ((try simp only [Int.reduceToNat, Int.reduceTDiv, Int.reduceTMod, minL, maxL, pickB, zHB, zSH, InK, Path.imp, zL] at *); omega)) | (refine app_le rfl ?_; omega)))
  rw [Int.toNat_natCast]
  show pickB (pickB (pickB (!decide ((i : Int) = 0)) (Operand.tmp 17) (Operand.const (Value.bool false)) (ge hs i) false) (Operand.tmp 22) (Operand.const (Value.bool false)) (!gw hs i) false) (Operand.tmp 27) (Operand.const (Value.bool false)) (decide (go hs i = 0)) false = goesB hs i
  unfold goesB
  simp only [pickB]
  by_cases e : i = 0
  · subst e; simp
  · have : ¬ (i : Int) = 0 := by omega
    cases ge hs i <;> cases gw hs i <;> simp [e, this]
theorem settle_no {i : Nat} (hi : i < hs.length) (h : goesB hs i = false) : FnM Try.prog 54 [.padr 1000000000 0, .lit (.int .i64 (i : Int))] [(1000000000, .box [.own 1000000001, .own 5]), (1000000001, .row 96 HT true (hs)), (5, .row 50 LT true (fl))] (.tup []) [(1000000000, .box [.own 1000000001, .own 5]), (1000000001, .row 96 HT true (hs)), (5, .row 50 LT true (fl))] := by
  have c1 := leaves_at (fl := fl) hi h.symm
  refine FnM.of_body tys_ok Try.func54 (by rfl) rfl Try.ntmps54 (by rw [Try.results54]) (by simp) ?_
  
  repeat' (first
 | refine W.seq ?_
 | refine W.block ?_
 | (refine W.regionM (id := 0) tys_ok [] [2] ?_; conv => whnf)
 | (refine W.region tys_ok [] ?_; conv => whnf)
 | (refine W.drawAll tys_ok [] mixed rfl ?_; conv => whnf)
 | (refine W.ret ?_; conv => whnf)
 | (refine W.skip ?_; conv => whnf)
 | (refine W.exit ?_; conv => whnf)
 | (refine callM_at (c1) ?_; conv => whnf)
 | (refine W.cond rfl (fun hb => ?_) (fun hb => ?_) <;> (try simp only [Int.reduceToNat, Int.reduceTDiv, Int.reduceTMod, minL, maxL, pickB, zHB, zSH] at hb) <;> (try (first | (cases hb; done) | exact absurd hb (by decide) | (exfalso; omega) | (omega))))
 | (refine Or.inl (And.intro ?_ ?_); (focus (first | exact trivial | exact ⟨rfl, trivial⟩ | (refine ⟨?_, trivial⟩; dsimp only; simp only [Int.reduceToNat, Int.reduceTDiv, Int.reduceTMod, minL, maxL, pickB, zHB, zSH]; omega) | (refine ⟨?_, trivial⟩; dsimp only; (try simp only [Int.reduceToNat, Int.reduceTDiv, Int.reduceTMod, minL, maxL, pickB, zHB, zSH]); (simp_all; done)) | (refine ⟨?_, trivial⟩; dsimp only; (simp only [Int.reduceToNat, Int.reduceTDiv, Int.reduceTMod, minL, maxL, pickB, zHB, zSH]; done)) | (refine ⟨?_, trivial⟩; dsimp only; (simp; done)))); (conv => whnf))
 | (refine Or.inr (And.intro ?_ ?_); (focus (intro h; have h := h.1; dsimp only at h; first | (exact Bool.noConfusion h) | (simp only [Int.reduceToNat, Int.reduceTDiv, Int.reduceTMod, minL, maxL, pickB, zHB, zSH] at h; omega) | ((try simp only [Int.reduceToNat, Int.reduceTDiv, Int.reduceTMod, minL, maxL, pickB, zHB, zSH] at h); (simp_all; done)))); (conv => whnf))
 | ((with_reducible refine And.intro ?_ ?_); (focus (first | (with_reducible rfl) | omega | rfl | ((try simp only [Int.reduceToNat, Int.reduceTDiv, Int.reduceTMod, minL, maxL, pickB, zHB, zSH, InK, Path.imp, zL] at *); omega))); (conv => whnf))
 | ((with_reducible refine And.intro (Side.out ?_) ?_); rotate_left; (conv => whnf))
 | ((first | refine retM1 ?_ | refine retM2 ?_) <;> (conv => whnf) <;> repeat' (first
 | exact trivial
 | (with_reducible rfl)
 | ((with_reducible refine And.intro ?_ ?_) <;> conv => whnf)
 | omega
 | rfl
 | (refine congrArg (SV.arr _) ?_)
 | (refine congrArg (Value.int _) ?_)
 | (refine congrArg Value.bool ?_)))); all_goals (try unfold Side)
  all_goals try (repeat' (first | (with_reducible rfl) | (with_reducible refine And.intro ?_ ?_) | omega | rfl | exact Or.inl rfl | exact Or.inr rfl | exact of_decide_eq_true rfl | exact Path.imp_of (of_decide_eq_true rfl) | (focus ((try simp only [Int.reduceToNat, Int.reduceTDiv, Int.reduceTMod, minL, maxL, pickB, zHB, zSH, InK, Path.imp, zL] at *); omega)) | (refine app_le rfl ?_; omega)))
set_option maxHeartbeats 4000000 in
theorem settle_yes {i : Nat} (hi : i < hs.length) (hfl : fl.length ≤ 1000) (h : goesB hs i = true) : FnM Try.prog 54 [.padr 1000000000 0, .lit (.int .i64 (i : Int))] [(1000000000, .box [.own 1000000001, .own 5]), (1000000001, .row 96 HT true (hs)), (5, .row 50 LT true (fl))] (.tup []) [(1000000000, .box [.own 1000000001, .own 5]), (1000000001, .row 96 HT true ((leftL i (hs, fl)).1)), (5, .row 50 LT true ((leftL i (hs, fl)).2))] := by
  have c1 := leaves_at (fl := fl) hi h.symm
  have hl : @List.length HT.T hs = hs.length := rfl
  have hlf : @List.length LT.T fl = fl.length := rfl
  refine FnM.of_body tys_ok Try.func54 (by rfl) rfl Try.ntmps54 (by rw [Try.results54]) (by simp) ?_
  
  have e1 : (hs.set i ((hs.getD i H0).1, false, (hs.getD i H0).2.2)).getD i H0 = ((hs.getD i H0).1, false, (hs.getD i H0).2.2) := by rw [Rg.getD_set hi, if_pos rfl]
  have e2 : (hs.set i ((hs.getD i H0).1, false, (hs.getD i H0).2.2)).set i (((hs.set i ((hs.getD i H0).1, false, (hs.getD i H0).2.2)).getD i H0).1, ((hs.set i ((hs.getD i H0).1, false, (hs.getD i H0).2.2)).getD i H0).2.1, -1, ((hs.set i ((hs.getD i H0).1, false, (hs.getD i H0).2.2)).getD i H0).2.2.2) = (leftL i (hs, fl)).1 := by
    rw [e1, List.set_set]; rfl
  have e3 : i < (hs.set i ((hs.getD i H0).1, false, (hs.getD i H0).2.2)).length := by rw [List.length_set]; exact hi
  repeat' (first
 | refine W.seq ?_
 | refine W.block ?_
 | (refine W.regionM (id := 0) tys_ok [] [2] ?_; conv => whnf)
 | (refine W.resub (x := Code.region 2 _ _) (Γ' := ⟨[(0, .padr 1000000000 0), (1, .lit (.int .i64 ((i : Int)))), (4, .oadr 1000000001 4 i 0)], [(1000000000, .box [.own 1000000001, .own 5]), (1000000001, .row 96 HT true (hs)), (5, .row 50 LT true (fl))]⟩) ?_ ?_; rotate_left; refine W.drawPhTo (id := 2) tys_ok [] mixed [0, 0, 2, 4, 8, 0, 0, 64, 128, 256, 544, 1024, 2064, 8191, 16383, 24575] [([0, 1, 2, 3, 5, 6, 7, 8], 4, 4095), ([], 1, 8191), ([13, 14], 1, 65535)] ⟨[(0, .padr 1000000000 0), (4, .oadr 1000000001 4 i 0)], [(1000000000, .box [.own 1000000001, .own 5]), (1000000001, .row 96 HT true (hs)), (5, .row 50 LT true (fl ++ [((i : Int), gp hs i, true, ())]))]⟩ (by decide +kernel) ?_ ?_; (conv => whnf); rotate_left; (conv => whnf))
 | (refine W.region tys_ok [] ?_; conv => whnf)
 | (refine W.drawAll tys_ok [] mixed rfl ?_; conv => whnf)
 | (refine W.ret ?_; conv => whnf)
 | (refine W.skip ?_; conv => whnf)
 | (refine W.exit ?_; conv => whnf)
 | (refine callM_at (c1) ?_; conv => whnf)
 | (refine Both.mk ?_ ?_ <;> (conv => whnf))
 | (refine W.cond rfl (fun hb => ?_) (fun hb => ?_) <;> (try simp only [Int.reduceToNat, Int.reduceTDiv, Int.reduceTMod, minL, maxL, pickB, zHB, zSH] at hb) <;> (try (first | (cases hb; done) | exact absurd hb (by decide) | (exfalso; omega) | (omega))))
 | (refine Or.inl (And.intro ?_ ?_); (focus (first | exact trivial | exact ⟨rfl, trivial⟩ | (refine ⟨?_, trivial⟩; dsimp only; simp only [Int.reduceToNat, Int.reduceTDiv, Int.reduceTMod, minL, maxL, pickB, zHB, zSH]; omega) | (refine ⟨?_, trivial⟩; dsimp only; (try simp only [Int.reduceToNat, Int.reduceTDiv, Int.reduceTMod, minL, maxL, pickB, zHB, zSH]); (simp_all; done)) | (refine ⟨?_, trivial⟩; dsimp only; (simp only [Int.reduceToNat, Int.reduceTDiv, Int.reduceTMod, minL, maxL, pickB, zHB, zSH]; done)) | (refine ⟨?_, trivial⟩; dsimp only; (simp; done)))); (conv => whnf))
 | (refine Or.inr (And.intro ?_ ?_); (focus (intro h; have h := h.1; dsimp only at h; first | (exact Bool.noConfusion h) | (simp only [Int.reduceToNat, Int.reduceTDiv, Int.reduceTMod, minL, maxL, pickB, zHB, zSH] at h; omega) | ((try simp only [Int.reduceToNat, Int.reduceTDiv, Int.reduceTMod, minL, maxL, pickB, zHB, zSH] at h); (simp_all; done)))); (conv => whnf))
 | ((with_reducible refine And.intro ?_ ?_); (focus (first | (with_reducible rfl) | omega | rfl | ((try simp only [Int.reduceToNat, Int.reduceTDiv, Int.reduceTMod, minL, maxL, pickB, zHB, zSH, InK, Path.imp, zL] at *); omega))); (conv => whnf))
 | ((with_reducible refine And.intro (Side.out ?_) ?_); rotate_left; (conv => whnf))
 | ((first | refine retM1 ?_ | refine retM2 ?_ | refine subF.leaf ?_ | refine subF.side ?_) <;> (conv => whnf) <;> repeat' (first
 | exact trivial
 | (with_reducible rfl)
 | ((with_reducible refine And.intro ?_ ?_) <;> conv => whnf)
 | omega
 | rfl
 | (refine congrArg (SV.arr _) ?_)
 | (refine congrArg (Value.int _) ?_)
 | (refine congrArg Value.bool ?_)))); all_goals (try unfold Side)
  all_goals try (repeat' (first | (with_reducible rfl) | (with_reducible refine And.intro ?_ ?_) | omega | rfl | exact Or.inl rfl | exact Or.inr rfl | exact of_decide_eq_true rfl | exact Path.imp_of (of_decide_eq_true rfl) | (focus ((try simp only [Int.reduceToNat, Int.reduceTDiv, Int.reduceTMod, minL, maxL, pickB, zHB, zSH, InK, Path.imp, zL] at *); omega)) | (refine app_le rfl ?_; omega)))
  · exact e2
  · exact e3
end Go.Proofs.Ytkjcnegkdlmapaa
