/- Joined of: D2 D3 D4 Vc45. No condition. -/
import Derived.Test.YtckmhlpngolbpaaJ5
set_option linter.unusedVariables false
set_option linter.unusedSimpArgs false
namespace Go.Proofs.Ytckmhlpngolbpaa
open Int renaming reduceToNat → zr, reduceTDiv → zd, reduceTMod → zm
open Go Go.Vc Go.Sh Go.Tp
def wayI (C : List (List Int)) (n u : Nat) : Int := ((way (alC C) n u : Nat) : Int)
def waysL (C : List (List Int)) (n : Nat) : List Int := (List.range (2 ^ n)).map (wayI C n)
theorem waysL_len {C : List (List Int)} {n : Nat} : (waysL C n).length = 2 ^ n := by simp [waysL]
theorem waysL_get {C : List (List Int)} {n u : Nat} (h : u < 2 ^ n) : (waysL C n).getD u 0 = wayI C n u := by
 unfold waysL
 rw [List.getD_eq_getElem?_getD, List.getElem?_map, List.getElem?_range h]; rfl
theorem getD_setI {l : List Int} {i j : Nat} {x : Int} (hi : i < l.length) : (l.set i x).getD j 0 = if j = i then x else l.getD j 0 := by
 rw [List.getD_eq_getElem?_getD, List.getElem?_set, List.getD_eq_getElem?_getD]
 by_cases e : i = j
 · subst e; simp [hi]
 · rw [if_neg e, if_neg (Ne.symm e)]
theorem setI_self {l : List Int} {i : Nat} {x : Int} (hi : i < l.length) (hx : l.getD i 0 = x) : l.set i x = l := by
 refine ext_get (by rw [List.length_set]) fun j hj => ?_
 rw [getD_setI hi]
 split
 · rename_i e; rw [e, hx]
 · rfl
structure TB (C : List (List Int)) (n v : Nat) (o : List Int) : Prop where
 len : o.length = 2 ^ n
 hi : ∀ u, v ≤ u → u < 2 ^ n → o.getD u 0 = wayI C n u
 lo : ∀ u, u < v → o.getD u 0 = 0
theorem TB.fin {C : List (List Int)} {n : Nat} {o : List Int} (h : TB C n 0 o) : o = waysL C n := by
 refine ext_get (by rw [h.len, waysL_len]) fun i hi => ?_
 rw [h.len] at hi
 rw [h.hi i (Nat.zero_le _) hi, waysL_get hi]
set_option maxHeartbeats 8000000 in
theorem counts_at {C : List (List Int)} {n : Nat} (h : CO C n) : FnAt Try.prog false 19 [I64 n, .fn 45 [.sadr (.arr (.sl (.int .i64)) (C : List (List Int))), .sadr (I64 0)]] (.own 0) [(0, .row 3 (.int .i64) true (waysL C n))] := by
 have hn1 := h.n1
 have hn6 := h.n6
 obtain ⟨hp2, hp64⟩ := two_pow6 hn1 hn6
 obtain ⟨N, hN⟩ : ∃ N, N = 2 ^ n := ⟨_, rfl⟩
 have hsh : (1 : Int) * (2 : Int) ^ ((n : Int).toNat) = (N : Int) := by rw [shl_val, hN]
 have q1 : 0 ≤ (n : Int) ∧ (n : Int).toNat ≤ IntKind.i64.bits ∧ InK .i64 ((1 : Int) * (2 : Int) ^ ((n : Int).toNat)) := ⟨by omega, by show (n : Int).toNat ≤ 64; omega, by rw [hsh]; exact ⟨by omega, by omega⟩⟩
 have q2 : InK .i64 ((1 : Int) * (2 : Int) ^ ((n : Int).toNat) - 1) := by rw [hsh]; exact ⟨by omega, by omega⟩
 have q3 : InK .i64 ((1 : Int) * (2 : Int) ^ ((n : Int).toNat) - 2) := by rw [hsh]; exact ⟨by omega, by omega⟩
 have q4 : ((1 : Int) * (2 : Int) ^ ((n : Int).toNat) - 1).toNat.succ ≤ (List.replicate ((1 : Int) * (2 : Int) ^ ((n : Int).toNat)).toNat (0 : Int)).length := by
  rw [hsh, List.length_replicate]; omega
 refine FnAt.of_body tys_ok Try.func19 (by rfl) rfl Try.ntmps19 (by rw [Try.results19]) (by simp) ?_
 repeat' (first
 | refine W.seq ?_
 | refine W.block ?_
 | (refine W.region tys_ok [] ?_; conv => whnf)
 | (refine W.drawAll tys_ok [] mixed rfl ?_; conv => whnf)
 | (refine W.ret ?_; conv => whnf)
 | (refine W.skip ?_; conv => whnf)
 | (refine W.exit ?_; conv => whnf)
 | (refine W.cond rfl (fun hb => ?_) (fun hb => ?_) <;> (try simp only [zr, zd, zm, minL, maxL, pickB, zA] at hb) <;> (try (first | (cases hb; done) | exact absurd hb (by decide) | (exfalso; omega) | (omega))))
 | ((with_reducible refine And.intro ?_ ?_); exact zc; conv => whnf)
 | ((with_reducible refine And.intro (Side.out ?_) ?_); rotate_left; (conv => whnf))
 | ((first | refine retF1 ?_ | refine retF2 ?_) <;> (conv => whnf) <;> repeat' (first
 | exact trivial
 | (with_reducible rfl)
 | ((with_reducible refine And.intro ?_ ?_) <;> conv => whnf)
 | omega
 | rfl
 | (refine congrArg (SV.arr _) ?_)
 | (refine congrArg (Value.int _) ?_)
 | (refine congrArg Value.bool ?_)))); all_goals (try unfold Side)
 all_goals try (repeat' (first | exact zb | with_reducible refine And.intro ?_ ?_))
 all_goals first | exact q1 | exact q2 | exact q3 | exact q4 | skip
 refine W.loop (fun p : Nat × List Int => ⟨[(0, (.lit (.int .i64 (n : Int)))), (1, .fn 45 [.st false (.sadr (.arr (.sl (.int .i64)) (C : List (List Int)))), .st false (.sadr (I64 0))]), (5, .own 13000), (6, (.lit (.int .i64 ((p.1 : Int) - 1 : Int))))], [(13000, .row 3 (.int .i64) true (p.2 : List Int))]⟩) (fun p => p.1 < N ∧ TB C n p.1 p.2) (fun p => p.1) ((N - 1, (List.replicate N 0).set (N - 1) 1)) ?_ ?_
 · refine ⟨⟨by dsimp only; omega, ?_⟩, ?_⟩
   · refine ⟨by rw [List.length_set, List.length_replicate, hN], fun u hu hlt => ?_, fun u hu => ?_⟩
     · have e : u = N - 1 := by dsimp only at hu; omega
       dsimp only
       rw [getD_setI (by rw [List.length_replicate]; omega), if_pos e, e, hN]
       show (1 : Int) = ((way (alC C) n (2 ^ n - 1) : Nat) : Int)
       rw [way_full]; rfl
     · dsimp only at hu ⊢
       rw [getD_setI (by rw [List.length_replicate]; omega), if_neg (by omega), List.getD_eq_getElem?_getD, List.getElem?_replicate]
       split <;> rfl
   · refine subF.ok ?_ <;> (conv => whnf) <;> repeat' (first
 | exact trivial
 | (with_reducible rfl)
 | ((with_reducible refine And.intro ?_ ?_) <;> conv => whnf)
 | omega
 | rfl
 | (refine congrArg (SV.arr _) ?_)
 | (refine congrArg (Value.int _) ?_)
 | (refine congrArg Value.bool ?_))
     all_goals first | (show (List.replicate ((1 : Int) * (2 : Int) ^ ((n : Int).toNat)).toNat (0 : Int)).set ((1 : Int) * (2 : Int) ^ ((n : Int).toNat) - 1).toNat 1 = (List.replicate N 0).set (N - 1) 1; rw [hsh, Int.toNat_natCast, show ((N : Int) - 1).toNat = N - 1 by omega]) | (show (1 : Int) * (2 : Int) ^ ((n : Int).toNat) - 2 = _; rw [hsh]; dsimp only; omega) | skip
 · rintro ⟨v, o⟩ ⟨hv, hT⟩
   dsimp only at hv hT ⊢
   have hol : @List.length (Ty.int .i64).T o = N := hT.len.trans hN.symm
   by_cases hv0 : v = 0
   · subst hv0
     repeat' (first
 | refine W.seq ?_
 | refine W.block ?_
 | (refine W.region tys_ok [] ?_; conv => whnf)
 | (refine W.drawAll tys_ok [] mixed rfl ?_; conv => whnf)
 | (refine W.ret ?_; conv => whnf)
 | (refine W.skip ?_; conv => whnf)
 | (refine W.exit ?_; conv => whnf)
 | (refine W.cond rfl (fun hb => ?_) (fun hb => ?_) <;> (try simp only [zr, zd, zm, minL, maxL, pickB, zA] at hb) <;> (try (first | (cases hb; done) | exact absurd hb (by decide) | (exfalso; omega) | (omega))))
 | ((with_reducible refine And.intro ?_ ?_); exact zc; conv => whnf)
 | ((with_reducible refine And.intro (Side.out ?_) ?_); rotate_left; (conv => whnf))
 | ((first | refine retF1 ?_ | refine retF2 ?_) <;> (conv => whnf) <;> repeat' (first
 | exact trivial
 | (with_reducible rfl)
 | ((with_reducible refine And.intro ?_ ?_) <;> conv => whnf)
 | omega
 | rfl
 | (refine congrArg (SV.arr _) ?_)
 | (refine congrArg (Value.int _) ?_)
 | (refine congrArg Value.bool ?_)))); all_goals (try unfold Side)
     all_goals try (repeat' (first | exact zb | with_reducible refine And.intro ?_ ?_))
     all_goals first | exact hT.fin | skip
   · obtain ⟨u, rfl⟩ : ∃ u, v = u + 1 := ⟨v - 1, by omega⟩
     have huN : u < 2 ^ n := by omega
     have hpl := pop_lt (n := n) (u := u) (by omega)
     repeat' (first
 | refine W.seq ?_
 | refine W.block ?_
 | (refine W.region tys_ok [] ?_; conv => whnf)
 | (refine W.drawAll tys_ok [] mixed rfl ?_; conv => whnf)
 | (refine W.ret ?_; conv => whnf)
 | (refine W.skip ?_; conv => whnf)
 | (refine W.exit ?_; conv => whnf)
 | (refine W.cond rfl (fun hb => ?_) (fun hb => ?_) <;> (try simp only [zr, zd, zm, minL, maxL, pickB, zA] at hb) <;> (try (first | (cases hb; done) | exact absurd hb (by decide) | (exfalso; omega) | (omega))))
 | ((with_reducible refine And.intro ?_ ?_); exact zc; conv => whnf)
 | ((with_reducible refine And.intro (Side.out ?_) ?_); rotate_left; (conv => whnf))
 | ((first | refine retF1 ?_ | refine retF2 ?_) <;> (conv => whnf) <;> repeat' (first
 | exact trivial
 | (with_reducible rfl)
 | ((with_reducible refine And.intro ?_ ?_) <;> conv => whnf)
 | omega
 | rfl
 | (refine congrArg (SV.arr _) ?_)
 | (refine congrArg (Value.int _) ?_)
 | (refine congrArg Value.bool ?_)))); all_goals (try unfold Side)
     all_goals try (repeat' (first | exact zb | with_reducible refine And.intro ?_ ?_))
     refine W.loop (fun k : Nat => ⟨[(0, (.lit (.int .i64 (n : Int)))), (1, .fn 45 [.st false (.sadr (.arr (.sl (.int .i64)) (C : List (List Int)))), .st false (.sadr (I64 0))]), (5, .own 13000), (6, (.lit (.int .i64 (u : Int)))), (7, (.lit (.int .i64 ((pop u k : Nat) : Int)))), (25, (.lit (.int .i64 (n : Int)))), (26, (.lit (.int .i64 (k : Int))))], [(13000, .row 3 (.int .i64) true (o : List Int))]⟩) (fun k => k ≤ n) (fun k => n - k) (0) ?_ ?_
     · refine ⟨Nat.zero_le _, ?_⟩
       refine subF.ok ?_ <;> (conv => whnf) <;> repeat' (first
 | exact trivial
 | (with_reducible rfl)
 | ((with_reducible refine And.intro ?_ ?_) <;> conv => whnf)
 | omega
 | rfl
 | (refine congrArg (SV.arr _) ?_)
 | (refine congrArg (Value.int _) ?_)
 | (refine congrArg Value.bool ?_))
       all_goals first | omega | skip
     · rintro k hk
       have hpk := pop_le u k
       by_cases hkn : k < n
       · have hbit := bit_int u k
         have hstep : ((pop u k : Nat) : Int) + (((((u : Int) / (2 : Int) ^ ((k : Int).toNat)).toNat &&& (1 : Int).toNat) : Nat) : Int) = ((pop u (k + 1) : Nat) : Int) := by
          rw [hbit, pop]; split <;> omega
         have hdv : u / 2 ^ k ≤ u := Nat.div_le_self _ _
         have hq : 0 ≤ (u : Int) / (2 : Int) ^ ((k : Int).toNat) ∧ 0 ≤ (1 : Int) ∧ InK .i64 ((u : Int) / (2 : Int) ^ ((k : Int).toNat)) ∧ InK .i64 1 := by
          rw [shr_val]; revert hdv; generalize u / 2 ^ _ = D; intro hdv; exact ⟨by omega, by decide, ⟨by omega, by omega⟩, ⟨by decide, by decide⟩⟩
         repeat' (first
 | refine W.seq ?_
 | refine W.block ?_
 | (refine W.region tys_ok [] ?_; conv => whnf)
 | (refine W.drawAll tys_ok [] mixed rfl ?_; conv => whnf)
 | (refine W.ret ?_; conv => whnf)
 | (refine W.skip ?_; conv => whnf)
 | (refine W.exit ?_; conv => whnf)
 | (refine W.cond rfl (fun hb => ?_) (fun hb => ?_) <;> (try simp only [zr, zd, zm, minL, maxL, pickB, zA] at hb) <;> (try (first | (cases hb; done) | exact absurd hb (by decide) | (exfalso; omega) | (omega))))
 | ((with_reducible refine And.intro ?_ ?_); exact zc; conv => whnf)
 | ((with_reducible refine And.intro (Side.out ?_) ?_); rotate_left; (conv => whnf))
 | ((first | refine retF1 ?_ | refine retF2 ?_) <;> (conv => whnf) <;> repeat' (first
 | exact trivial
 | (with_reducible rfl)
 | ((with_reducible refine And.intro ?_ ?_) <;> conv => whnf)
 | omega
 | rfl
 | (refine congrArg (SV.arr _) ?_)
 | (refine congrArg (Value.int _) ?_)
 | (refine congrArg Value.bool ?_)))); all_goals (try unfold Side)
         all_goals first | exact hq | exact Path.imp_of hq | skip
         all_goals try (repeat' (first | exact zb | with_reducible refine And.intro ?_ ?_))
         refine ⟨k + 1, ⟨by omega, by omega⟩, ?_⟩
         refine subF.ok ?_ <;> (conv => whnf) <;> repeat' (first
 | exact trivial
 | (with_reducible rfl)
 | ((with_reducible refine And.intro ?_ ?_) <;> conv => whnf)
 | omega
 | rfl
 | (refine congrArg (SV.arr _) ?_)
 | (refine congrArg (Value.int _) ?_)
 | (refine congrArg Value.bool ?_))
         all_goals exact hstep
       · have hkn' : k = n := by omega
         have hpn : ((pop u k : Nat) : Int) = ((pop u n : Nat) : Int) := by rw [hkn']
         repeat' (first
 | refine W.seq ?_
 | refine W.block ?_
 | (refine W.region tys_ok [] ?_; conv => whnf)
 | (refine W.drawAll tys_ok [] mixed rfl ?_; conv => whnf)
 | (refine W.ret ?_; conv => whnf)
 | (refine W.skip ?_; conv => whnf)
 | (refine W.exit ?_; conv => whnf)
 | (refine W.cond rfl (fun hb => ?_) (fun hb => ?_) <;> (try simp only [zr, zd, zm, minL, maxL, pickB, zA] at hb) <;> (try (first | (cases hb; done) | exact absurd hb (by decide) | (exfalso; omega) | (omega))))
 | ((with_reducible refine And.intro ?_ ?_); exact zc; conv => whnf)
 | ((with_reducible refine And.intro (Side.out ?_) ?_); rotate_left; (conv => whnf))
 | ((first | refine retF1 ?_ | refine retF2 ?_) <;> (conv => whnf) <;> repeat' (first
 | exact trivial
 | (with_reducible rfl)
 | ((with_reducible refine And.intro ?_ ?_) <;> conv => whnf)
 | omega
 | rfl
 | (refine congrArg (SV.arr _) ?_)
 | (refine congrArg (Value.int _) ?_)
 | (refine congrArg Value.bool ?_)))); all_goals (try unfold Side)
         all_goals try (repeat' (first | exact zb | with_reducible refine And.intro ?_ ?_))
         refine W.loop (fun j : Nat => ⟨[(0, (.lit (.int .i64 (n : Int)))), (1, .fn 45 [.st false (.sadr (.arr (.sl (.int .i64)) (C : List (List Int)))), .st false (.sadr (I64 0))]), (5, .own 13000), (6, (.lit (.int .i64 (u : Int)))), (7, (.lit (.int .i64 ((pop u n : Nat) : Int)))), (36, (.lit (.int .i64 (n : Int)))), (37, (.lit (.int .i64 (j : Int))))], [(13000, .row 3 (.int .i64) true (o.set u ((sumN (termW (alC C) n u) j : Nat) : Int) : List Int))]⟩) (fun j => j ≤ n) (fun j => n - j) (0) ?_ ?_
         · refine ⟨Nat.zero_le _, ?_⟩
           refine subF.ok ?_ <;> (conv => whnf) <;> repeat' (first
 | exact trivial
 | (with_reducible rfl)
 | ((with_reducible refine And.intro ?_ ?_) <;> conv => whnf)
 | omega
 | rfl
 | (refine congrArg (SV.arr _) ?_)
 | (refine congrArg (Value.int _) ?_)
 | (refine congrArg Value.bool ?_))
           all_goals first | exact hpn | (show o = o.set u 0; exact (setI_self (by rw [hT.len]; exact huN) (hT.lo u (Nat.lt_succ_self u))).symm) | skip
         · rintro j hj
           obtain ⟨S, hS⟩ : ∃ S, S = sumN (termW (alC C) n u) j := ⟨_, rfl⟩
           have hSb := part_le (al := alC C) (u := u) hn1 hn6 j hj
           rw [← hS] at hSb ⊢
           by_cases hjn : j < n
           · have hbit := bit_int u j
             have hdv : u / 2 ^ j ≤ u := Nat.div_le_self _ _
             have hq : 0 ≤ (u : Int) / (2 : Int) ^ ((j : Int).toNat) ∧ 0 ≤ (1 : Int) ∧ InK .i64 ((u : Int) / (2 : Int) ^ ((j : Int).toNat)) ∧ InK .i64 1 := by
              rw [shr_val]; revert hdv; generalize u / 2 ^ _ = D; intro hdv; exact ⟨by omega, by decide, ⟨by omega, by omega⟩, ⟨by decide, by decide⟩⟩
             have c1 := upIn_at h hpl hjn
             obtain ⟨b, hbd⟩ : ∃ b, b = alC C (pop u n) j := ⟨_, rfl⟩
             rw [← hbd] at c1
             have hst : sumN (termW (alC C) n u) (j + 1) = S + termW (alC C) n u j := by rw [hS]; rfl
             cases hbt : u.testBit j with
             | true =>
              have ht : termW (alC C) n u j = 0 := by unfold termW; rw [hbt]; rfl
              rw [hbt] at hbit
              repeat' (first
 | refine W.seq ?_
 | refine W.block ?_
 | (refine W.region tys_ok [] ?_; conv => whnf)
 | (refine W.drawAll tys_ok [] mixed rfl ?_; conv => whnf)
 | (refine W.ret ?_; conv => whnf)
 | (refine W.skip ?_; conv => whnf)
 | (refine W.exit ?_; conv => whnf)
 | (refine call_at (al := false) (c1) rfl rfl rfl rfl ?_; conv => whnf)
 | (refine W.cond rfl (fun hb => ?_) (fun hb => ?_) <;> (try simp only [zr, zd, zm, minL, maxL, pickB, zA] at hb) <;> (try (first | (cases hb; done) | exact absurd hb (by decide) | (exfalso; omega) | (omega) | ((simp_all; done)))))
 | ((with_reducible refine And.intro ?_ ?_); exact zc; conv => whnf)
 | ((with_reducible refine And.intro (Side.out ?_) ?_); rotate_left; (conv => whnf))
 | ((first | refine retF1 ?_ | refine retF2 ?_) <;> (conv => whnf) <;> repeat' (first
 | exact trivial
 | (with_reducible rfl)
 | ((with_reducible refine And.intro ?_ ?_) <;> conv => whnf)
 | omega
 | rfl
 | (refine congrArg (SV.arr _) ?_)
 | (refine congrArg (Value.int _) ?_)
 | (refine congrArg Value.bool ?_)))); all_goals (try unfold Side)
              all_goals first | exact hq | exact Path.imp_of hq | skip
              all_goals try (repeat' (first | exact zb | with_reducible refine And.intro ?_ ?_))
              refine ⟨j + 1, ⟨by omega, by omega⟩, ?_⟩
              rw [hst, ht, Nat.add_zero]
              refine subF.ok ?_ <;> (conv => whnf) <;> repeat' (first
 | exact trivial
 | (with_reducible rfl)
 | ((with_reducible refine And.intro ?_ ?_) <;> conv => whnf)
 | omega
 | rfl
 | (refine congrArg (SV.arr _) ?_)
 | (refine congrArg (Value.int _) ?_)
 | (refine congrArg Value.bool ?_))
             | false =>
              rw [hbt] at hbit
              cases b with
              | false =>
               have ht : termW (alC C) n u j = 0 := by unfold termW; rw [← hbd, Bool.and_false]; rfl
               repeat' (first
 | refine W.seq ?_
 | refine W.block ?_
 | (refine W.region tys_ok [] ?_; conv => whnf)
 | (refine W.drawAll tys_ok [] mixed rfl ?_; conv => whnf)
 | (refine W.ret ?_; conv => whnf)
 | (refine W.skip ?_; conv => whnf)
 | (refine W.exit ?_; conv => whnf)
 | (refine call_at (al := false) (c1) rfl rfl rfl rfl ?_; conv => whnf)
 | (refine W.cond rfl (fun hb => ?_) (fun hb => ?_) <;> (try simp only [zr, zd, zm, minL, maxL, pickB, zA] at hb) <;> (try (first | (cases hb; done) | exact absurd hb (by decide) | (exfalso; omega) | (omega) | ((simp_all; done)))))
 | ((with_reducible refine And.intro ?_ ?_); exact zc; conv => whnf)
 | ((with_reducible refine And.intro (Side.out ?_) ?_); rotate_left; (conv => whnf))
 | ((first | refine retF1 ?_ | refine retF2 ?_) <;> (conv => whnf) <;> repeat' (first
 | exact trivial
 | (with_reducible rfl)
 | ((with_reducible refine And.intro ?_ ?_) <;> conv => whnf)
 | omega
 | rfl
 | (refine congrArg (SV.arr _) ?_)
 | (refine congrArg (Value.int _) ?_)
 | (refine congrArg Value.bool ?_)))); all_goals (try unfold Side)
               all_goals first | exact hq | exact Path.imp_of hq | skip
               all_goals try (repeat' (first | exact zb | with_reducible refine And.intro ?_ ?_))
               refine ⟨j + 1, ⟨by omega, by omega⟩, ?_⟩
               rw [hst, ht, Nat.add_zero]
               refine subF.ok ?_ <;> (conv => whnf) <;> repeat' (first
 | exact trivial
 | (with_reducible rfl)
 | ((with_reducible refine And.intro ?_ ?_) <;> conv => whnf)
 | omega
 | rfl
 | (refine congrArg (SV.arr _) ?_)
 | (refine congrArg (Value.int _) ?_)
 | (refine congrArg Value.bool ?_))
              | true =>
               have ht : termW (alC C) n u j = way (alC C) n (u ||| 2 ^ j) := by unfold termW; rw [hbt, ← hbd]; rfl
               obtain ⟨w, hw⟩ : ∃ w, w = u ||| 2 ^ j := ⟨_, rfl⟩
               have hwN : w < 2 ^ n := by rw [hw]; exact or_lt huN hjn
               have hwu : u < w := by rw [hw]; exact or_gt hbt
               rw [← hw] at ht
               have e2 := shl_val j
               have e2b : 2 ^ j < 2 ^ n := Nat.pow_lt_pow_right (by decide) hjn
               have e3 : bitsN .or (u : Int).toNat (((1 : Int) * (2 : Int) ^ ((j : Int).toNat)).toNat) = w := by rw [hw]; exact or_val u j
               obtain ⟨J, hJ⟩ : ∃ J, J = 2 ^ j := ⟨_, rfl⟩
               rw [← hJ] at e2 e2b
               have hol3 : (o.set u ((S : Nat) : Int) : List Int).length = N := by rw [List.length_set]; exact hT.len.trans hN.symm
               have hol2 : @List.length (Ty.int .i64).T (o.set u ((S : Nat) : Int)) = N := hol3
               have s1 : 0 ≤ (j : Int) ∧ (j : Int).toNat ≤ IntKind.i64.bits ∧ InK .i64 ((1 : Int) * (2 : Int) ^ ((j : Int).toNat)) := ⟨by omega, by show (j : Int).toNat ≤ 64; omega, by rw [e2]; exact ⟨by omega, by omega⟩⟩
               have s2 : 0 ≤ (u : Int) ∧ 0 ≤ (1 : Int) * (2 : Int) ^ ((j : Int).toNat) ∧ InK .i64 (u : Int) ∧ InK .i64 ((1 : Int) * (2 : Int) ^ ((j : Int).toNat)) ∧ InK .i64 ((bitsN .or (u : Int).toNat (((1 : Int) * (2 : Int) ^ ((j : Int).toNat)).toNat) : Nat) : Int) := by
                rw [e3, e2]; exact ⟨by omega, by omega, ⟨by omega, by omega⟩, ⟨by omega, by omega⟩, ⟨by omega, by omega⟩⟩
               have s3 : 0 ≤ ((bitsN .or (u : Int).toNat (((1 : Int) * (2 : Int) ^ ((j : Int).toNat)).toNat) : Nat) : Int) ∧ ((bitsN .or (u : Int).toNat (((1 : Int) * (2 : Int) ^ ((j : Int).toNat)).toNat) : Nat) : Int).toNat < @List.length (Ty.int .i64).T (o.set u ((S : Nat) : Int)) := by
                rw [e3, hol2]; exact ⟨by omega, by omega⟩
               have hw1 := way_le (al := alC C) (u := w) hn1 hn6
               have g1 : (o.set u ((S : Nat) : Int)).getD (u : Int).toNat 0 = (S : Int) := by rw [Int.toNat_natCast, getD_setI (by rw [hT.len]; exact huN), if_pos rfl]
               have g2 : (o.set u ((S : Nat) : Int)).getD ((bitsN .or (u : Int).toNat (((1 : Int) * (2 : Int) ^ ((j : Int).toNat)).toNat) : Nat) : Int).toNat 0 = wayI C n w := by
                rw [e3, Int.toNat_natCast, getD_setI (by rw [hT.len]; exact huN), if_neg (by omega)]; exact hT.hi w (by omega) hwN
               have s4 : InK .i64 ((o.set u ((S : Nat) : Int)).getD (u : Int).toNat 0 + (o.set u ((S : Nat) : Int)).getD ((bitsN .or (u : Int).toNat (((1 : Int) * (2 : Int) ^ ((j : Int).toNat)).toNat) : Nat) : Int).toNat 0) := by
                rw [g1, g2]; unfold wayI; exact ⟨by omega, by omega⟩
               have s5 : (u : Int).toNat.succ ≤ @List.length (Ty.int .i64).T (o.set u ((S : Nat) : Int)) := by rw [hol2]; omega
               have s6 : (o.set u ((S : Nat) : Int)).set (u : Int).toNat ((o.set u ((S : Nat) : Int)).getD (u : Int).toNat 0 + (o.set u ((S : Nat) : Int)).getD ((bitsN .or (u : Int).toNat (((1 : Int) * (2 : Int) ^ ((j : Int).toNat)).toNat) : Nat) : Int).toNat 0) = o.set u ((S + way (alC C) n w : Nat) : Int) := by
                rw [g1, g2, Int.toNat_natCast, List.set_set]; rfl
               repeat' (first
 | refine W.seq ?_
 | refine W.block ?_
 | (refine W.drawPh (id := 16) tys_ok [] mixed [0, 0, 3, 4, 0, 0, 0, 64, 160, 272, 512, 1032, 4095, 8191] [([0, 1, 2, 4, 5, 6, 7, 8, 9], 2, 2047), ([11, 12], 1, 16383)] (by decide +kernel) ?_; conv => whnf)
 | (refine W.region tys_ok [] ?_; conv => whnf)
 | (refine W.drawAll tys_ok [] mixed rfl ?_; conv => whnf)
 | (refine W.ret ?_; conv => whnf)
 | (refine W.skip ?_; conv => whnf)
 | (refine W.exit ?_; conv => whnf)
 | (refine call_at (al := false) (c1) rfl rfl rfl rfl ?_; conv => whnf)
 | (refine Both.mk ?_ ?_ <;> (conv => whnf))
 | (refine W.cond rfl (fun hb => ?_) (fun hb => ?_) <;> (try simp only [zr, zd, zm, minL, maxL, pickB, zA] at hb) <;> (try (first | (cases hb; done) | exact absurd hb (by decide) | (exfalso; omega) | (omega) | ((simp_all; done)))))
 | ((with_reducible refine And.intro ?_ ?_); exact zc; conv => whnf)
 | ((with_reducible refine And.intro (Side.out ?_) ?_); rotate_left; (conv => whnf))
 | ((first | refine retF1 ?_ | refine retF2 ?_ | refine subF.leaf ?_ | refine subF.side ?_) <;> (conv => whnf) <;> repeat' (first
 | exact trivial
 | (with_reducible rfl)
 | ((with_reducible refine And.intro ?_ ?_) <;> conv => whnf)
 | omega
 | rfl
 | (refine congrArg (SV.arr _) ?_)
 | (refine congrArg (Value.int _) ?_)
 | (refine congrArg Value.bool ?_)))); all_goals (try unfold Side)
               all_goals first | exact hq | exact Path.imp_of hq | exact Path.imp_of s1 | exact Path.imp_of s2 | exact Path.imp_of s3 | exact Path.imp_of s3.2 | exact Path.imp_of s4 | exact s5 | skip
               all_goals try (repeat' (first | exact zb | with_reducible refine And.intro ?_ ?_))
               all_goals
                refine ⟨j + 1, ⟨by omega, by omega⟩, ?_⟩
                rw [hst, ht]
                refine subF.ok ?_ <;> (conv => whnf) <;> repeat' (first
 | exact trivial
 | (with_reducible rfl)
 | ((with_reducible refine And.intro ?_ ?_) <;> conv => whnf)
 | omega
 | rfl
 | (refine congrArg (SV.arr _) ?_)
 | (refine congrArg (Value.int _) ?_)
 | (refine congrArg Value.bool ?_))
                all_goals exact s6
           · have hjn' : j = n := by omega
             have hfin : S = way (alC C) n u := by rw [hS, hjn', way_sum hpl]
             repeat' (first
 | refine W.seq ?_
 | refine W.block ?_
 | (refine W.region tys_ok [] ?_; conv => whnf)
 | (refine W.drawAll tys_ok [] mixed rfl ?_; conv => whnf)
 | (refine W.ret ?_; conv => whnf)
 | (refine W.skip ?_; conv => whnf)
 | (refine W.exit ?_; conv => whnf)
 | (refine W.cond rfl (fun hb => ?_) (fun hb => ?_) <;> (try simp only [zr, zd, zm, minL, maxL, pickB, zA] at hb) <;> (try (first | (cases hb; done) | exact absurd hb (by decide) | (exfalso; omega) | (omega))))
 | ((with_reducible refine And.intro ?_ ?_); exact zc; conv => whnf)
 | ((with_reducible refine And.intro (Side.out ?_) ?_); rotate_left; (conv => whnf))
 | ((first | refine retF1 ?_ | refine retF2 ?_) <;> (conv => whnf) <;> repeat' (first
 | exact trivial
 | (with_reducible rfl)
 | ((with_reducible refine And.intro ?_ ?_) <;> conv => whnf)
 | omega
 | rfl
 | (refine congrArg (SV.arr _) ?_)
 | (refine congrArg (Value.int _) ?_)
 | (refine congrArg Value.bool ?_)))); all_goals (try unfold Side)
             all_goals try (repeat' (first | exact zb | with_reducible refine And.intro ?_ ?_))
             refine ⟨(u, o.set u ((way (alC C) n u : Nat) : Int)), ⟨⟨by dsimp only; omega, by rw [List.length_set]; exact hT.len, fun x hx hxN => ?_, fun x hx => ?_⟩, by dsimp only; omega⟩, ?_⟩
             · dsimp only at hx ⊢
               rw [getD_setI (by rw [hT.len]; exact huN)]
               split
               · rename_i e; rw [e]; rfl
               · exact hT.hi x (by omega) hxN
             · dsimp only at hx ⊢
               rw [getD_setI (by rw [hT.len]; exact huN), if_neg (by omega)]
               exact hT.lo x (by omega)
             · rw [hfin]
               refine subF.ok ?_ <;> (conv => whnf) <;> repeat' (first
 | exact trivial
 | (with_reducible rfl)
 | ((with_reducible refine And.intro ?_ ?_) <;> conv => whnf)
 | omega
 | rfl
 | (refine congrArg (SV.arr _) ?_)
 | (refine congrArg (Value.int _) ?_)
 | (refine congrArg Value.bool ?_))
               all_goals first | omega | skip
open Go Go.Vc Go.Sh Go.Tp
theorem upTo_at {C : List (List Int)} : FnM Try.prog 20 [.st true (.arr (.sl (.int .i64)) (C : List (List Int))), (.lit (.int .i64 (0 : Int)))] [] (.fn 45 [.padr 0 0, .padr 1 0]) [(0, .box1 (.st true (.arr (.sl (.int .i64)) (C : List (List Int))))), (1, .box1 (.lit (.int .i64 (0 : Int))))] := by
 refine FnM.of_body tys_ok Try.func20 (by rfl) rfl Try.ntmps20 (by rw [Try.results20]) (by simp) ?_
 repeat' (first
 | refine W.seq ?_
 | refine W.block ?_
 | (refine W.region tys_ok [] ?_; conv => whnf)
 | (refine W.drawAll tys_ok [] mixed rfl ?_; conv => whnf)
 | (refine W.ret ?_; conv => whnf)
 | (refine W.skip ?_; conv => whnf)
 | (refine W.exit ?_; conv => whnf)
 | (refine W.cond rfl (fun hb => ?_) (fun hb => ?_) <;> (try simp only [zr, zd, zm, minL, maxL, pickB, zA] at hb) <;> (try (first | (cases hb; done) | exact absurd hb (by decide) | (exfalso; omega))))
 | ((with_reducible refine And.intro ?_ ?_); exact zc; conv => whnf)
 | ((with_reducible refine And.intro (Side.out ?_) ?_); rotate_left; (conv => whnf))
 | ((first | refine retM1 ?_ | refine retM2 ?_) <;> (conv => whnf) <;> repeat' (first
 | exact trivial
 | (with_reducible rfl)
 | ((with_reducible refine And.intro ?_ ?_) <;> conv => whnf)
 | omega
 | rfl
 | (refine congrArg (SV.arr _) ?_)
 | (refine congrArg (Value.int _) ?_)
 | (refine congrArg Value.bool ?_)))); all_goals (try unfold Side)
 all_goals try (repeat' (first | exact zb | with_reducible refine And.intro ?_ ?_))
set_option maxHeartbeats 8000000 in
theorem At_no {C : List (List Int)} (h : CO C C.length) (hw : way (alC C) C.length 0 = 0) : FnAt Try.prog true 6 [.arr (.sl (.int .i64)) (C : List (List Int)), I64 0, I64 0] (.tup [.lit (.slice none 0 0), (.lit (.int .i64 (5 : Int)))]) [] := by
 have hl : @List.length (Ty.sl (.int .i64)).T C = C.length := rfl
 obtain ⟨hp2, hp64⟩ := two_pow6 h.n1 h.n6
 have hwl : @List.length (Ty.int .i64).T (waysL C C.length) = 2 ^ C.length := waysL_len
 have hw0 : (waysL C C.length).getD 0 0 = 0 := by rw [waysL_get (by omega)]; unfold wayI; rw [hw]; rfl
 have c1 := pvalid_at h
 have c2 := upTo_at (C := C)
 have c3 := counts_at h
 refine FnAt.of_body tys_ok Try.func6 (by rfl) rfl Try.ntmps6 (by rw [Try.results6]) (by simp) ?_
 repeat' (first
 | refine W.seq ?_
 | refine W.block ?_
 | (refine W.regionM (id := 3) tys_ok [] [4] ?_; conv => whnf)
 | (refine W.region tys_ok [] ?_; conv => whnf)
 | (refine W.drawAll tys_ok [] mixed rfl ?_; conv => whnf)
 | (refine W.ret ?_; conv => whnf)
 | (refine W.skip ?_; conv => whnf)
 | (refine W.exit ?_; conv => whnf)
 | (refine callM_at (c2) ?_; conv => whnf)
 | (refine call_at (al := false) (c1) rfl rfl rfl rfl ?_; conv => whnf)
 | (refine call_at (al := false) (c3) rfl rfl rfl rfl ?_; conv => whnf)
 | (refine W.cond rfl (fun hb => ?_) (fun hb => ?_) <;> (try simp only [zr, zd, zm, minL, maxL, pickB, zA] at hb) <;> (try (first | (cases hb; done) | exact absurd hb (by decide) | (exfalso; omega) | (omega) | ((simp_all; done)))))
 | (refine Or.inl (And.intro trivial ?_); (conv => whnf))
 | ((with_reducible refine And.intro ?_ ?_); exact zc; conv => whnf)
 | ((with_reducible refine And.intro (Side.out ?_) ?_); rotate_left; (conv => whnf))
 | ((first | refine retF1 ?_ | refine retF2 ?_) <;> (conv => whnf) <;> repeat' (first
 | exact trivial
 | (with_reducible rfl)
 | ((with_reducible refine And.intro ?_ ?_) <;> conv => whnf)
 | omega
 | rfl
 | (refine congrArg (SV.arr _) ?_)
 | (refine congrArg (Value.int _) ?_)
 | (refine congrArg Value.bool ?_)))); all_goals (try unfold Side)
 all_goals try refine subF.ok ?_ <;> (conv => whnf) <;> repeat' (first
 | exact trivial
 | (with_reducible rfl)
 | ((with_reducible refine And.intro ?_ ?_) <;> conv => whnf)
 | omega
 | rfl
 | (refine congrArg (SV.arr _) ?_)
 | (refine congrArg (Value.int _) ?_)
 | (refine congrArg Value.bool ?_))
 all_goals try (repeat' (first | exact zb | with_reducible refine And.intro ?_ ?_))
theorem app_le1 {N : Nat} {a : Nat} {x : Int} (h : a + 1 ≤ N) : (a + ([x] : List Int).length).le N := h
theorem zN_app {a : List Nat} {j : Nat} : zN a ++ [(j : Int)] = zN (a ++ [j]) := by unfold zN; rw [List.map_append]; rfl
set_option maxHeartbeats 16000000 in
theorem At_ok {C : List (List Int)} (h : CO C C.length) (hw : 0 < way (alC C) C.length 0) : FnAt Try.prog true 6 [.arr (.sl (.int .i64)) (C : List (List Int)), I64 0, I64 0] (.tup [.own 0, (.lit (.int .i64 (0 : Int)))]) [(0, .row 3 (.int .i64) true (zN (gl (alC C) C.length C.length 0)))] := by
 have hl : @List.length (Ty.sl (.int .i64)).T C = C.length := rfl
 obtain ⟨hp2, hp64⟩ := two_pow6 h.n1 h.n6
 have hn6 := h.n6
 have hn1 := h.n1
 have hwl : @List.length (Ty.int .i64).T (waysL C C.length) = 2 ^ C.length := waysL_len
 have hw0 : 0 < (waysL C C.length).getD 0 0 := by rw [waysL_get (by omega)]; unfold wayI; omega
 have hwW : 0 < Wy (alC C) C.length C.length 0 := by unfold way at hw; rw [pop_zero] at hw; exact hw
 have c1 := pvalid_at h
 have c2 := upTo_at (C := C)
 have c3 := counts_at h
 obtain ⟨G, hG⟩ : ∃ G, G = gl (alC C) C.length C.length 0 := ⟨_, rfl⟩
 have hGl : G.length = C.length := by rw [hG]; exact comp_len (gl_ok hwW).1
 have hzl : ∀ i, i ≤ C.length → (zN (G.take i)).length = i := fun i hi => by rw [zN_len, List.length_take]; omega
 rw [← hG]
 refine FnAt.of_body tys_ok Try.func6 (by rfl) rfl Try.ntmps6 (by rw [Try.results6]) (by simp) ?_
 repeat' (first
 | refine W.seq ?_
 | refine W.block ?_
 | (refine W.regionM (id := 3) tys_ok [] [4] ?_; conv => whnf)
 | (refine W.region tys_ok [] ?_; conv => whnf)
 | (refine W.drawAll tys_ok [] mixed rfl ?_; conv => whnf)
 | (refine W.ret ?_; conv => whnf)
 | (refine W.skip ?_; conv => whnf)
 | (refine W.exit ?_; conv => whnf)
 | (refine callM_at (c2) ?_; conv => whnf)
 | (refine call_at (al := false) (c1) rfl rfl rfl rfl ?_; conv => whnf)
 | (refine call_at (al := false) (c3) rfl rfl rfl rfl ?_; conv => whnf)
 | (refine W.cond rfl (fun hb => ?_) (fun hb => ?_) <;> (try simp only [zr, zd, zm, minL, maxL, pickB, zA] at hb) <;> (try (first | (cases hb; done) | exact absurd hb (by decide) | (exfalso; omega) | (omega) | ((simp_all; done)))))
 | (refine Or.inl (And.intro trivial ?_); (conv => whnf))
 | ((with_reducible refine And.intro ?_ ?_); exact zc; conv => whnf)
 | ((with_reducible refine And.intro (Side.out ?_) ?_); rotate_left; (conv => whnf))
 | ((first | refine retF1 ?_ | refine retF2 ?_) <;> (conv => whnf) <;> repeat' (first
 | exact trivial
 | (with_reducible rfl)
 | ((with_reducible refine And.intro ?_ ?_) <;> conv => whnf)
 | omega
 | rfl
 | (refine congrArg (SV.arr _) ?_)
 | (refine congrArg (Value.int _) ?_)
 | (refine congrArg Value.bool ?_)))); all_goals (try unfold Side)
 all_goals try refine subF.ok ?_ <;> (conv => whnf) <;> repeat' (first
 | exact trivial
 | (with_reducible rfl)
 | ((with_reducible refine And.intro ?_ ?_) <;> conv => whnf)
 | omega
 | rfl
 | (refine congrArg (SV.arr _) ?_)
 | (refine congrArg (Value.int _) ?_)
 | (refine congrArg Value.bool ?_))
 all_goals try (repeat' (first | exact zb | with_reducible refine And.intro ?_ ?_))
 refine W.loop (fun p : Nat × Nat => ⟨[(0, .st true (.arr (.sl (.int .i64)) (C : List (List Int)))), (1, (.lit (.int .i64 (0 : Int)))), (2, (.lit (.int .i64 (0 : Int)))), (8, .own 23000), (9, .own 75000), (10, (.lit (.int .i64 (p.2 : Int)))), (33, (.lit (.int .i64 (C.length : Int)))), (34, (.lit (.int .i64 (p.1 : Int))))], [(23000, .row 3 (.int .i64) true (waysL C (C).length : List Int)), (75000, .row 3 (.int .i64) true (zN (G.take p.1) : List Int))]⟩) (fun p => p.1 ≤ C.length ∧ pop p.2 C.length = p.1 ∧ p.2 < 2 ^ C.length ∧ 0 < Wy (alC C) C.length (C.length - p.1) p.2 ∧ gl (alC C) C.length (C.length - p.1) p.2 = G.drop p.1) (fun p => C.length - p.1) ((0, 0)) ?_ ?_
 · refine ⟨⟨Nat.zero_le _, pop_zero _, by dsimp only; omega, hwW, by rw [hG]; rfl⟩, ?_⟩
   refine subF.ok ?_ <;> (conv => whnf) <;> repeat' (first
 | exact trivial
 | (with_reducible rfl)
 | ((with_reducible refine And.intro ?_ ?_) <;> conv => whnf)
 | omega
 | rfl
 | (refine congrArg (SV.arr _) ?_)
 | (refine congrArg (Value.int _) ?_)
 | (refine congrArg Value.bool ?_))
 · rintro ⟨i, u⟩ ⟨hi, hpu, hu, hW, hgl⟩
   dsimp only at hi hpu hu hW hgl ⊢
   by_cases hin : i < C.length
   · obtain ⟨f, hf⟩ : ∃ f, C.length - i = f + 1 := ⟨C.length - i - 1, by omega⟩
     have hfi : C.length - (f + 1) = i := by omega
     rw [hf] at hW hgl
     obtain ⟨j0, hj0⟩ := take_some hW
     obtain ⟨_, hj0n, htk, hbef⟩ := fstJ_some hj0
     rw [gl, hj0] at hgl
     dsimp only at hgl
     obtain ⟨t1, t2, t3⟩ := take_yes.1 htk
     rw [hfi] at t2
     have hGt : G.take i ++ [j0] = G.take (i + 1) := by
      have e : G[i]'(by omega) = j0 := by
       have := congrArg (fun l : List Nat => l.getD 0 0) hgl
       simp only [List.getD_cons_zero] at this
       rw [this, List.getD_eq_getElem?_getD, List.getElem?_drop, Nat.add_zero, List.getElem?_eq_getElem (by omega)]; rfl
      rw [List.take_succ_eq_append_getElem (by omega), e]
     have hGd : gl (alC C) C.length f (u ||| 2 ^ j0) = G.drop (i + 1) := by
      have := congrArg List.tail hgl
      rw [List.tail_cons, List.tail_drop] at this
      exact this
     repeat' (first
 | refine W.seq ?_
 | refine W.block ?_
 | (refine W.region tys_ok [] ?_; conv => whnf)
 | (refine W.drawAll tys_ok [] mixed rfl ?_; conv => whnf)
 | (refine W.ret ?_; conv => whnf)
 | (refine W.skip ?_; conv => whnf)
 | (refine W.exit ?_; conv => whnf)
 | (refine W.cond rfl (fun hb => ?_) (fun hb => ?_) <;> (try simp only [zr, zd, zm, minL, maxL, pickB, zA] at hb) <;> (try (first | (cases hb; done) | exact absurd hb (by decide) | (exfalso; omega) | (omega))))
 | ((with_reducible refine And.intro ?_ ?_); exact zc; conv => whnf)
 | ((with_reducible refine And.intro (Side.out ?_) ?_); rotate_left; (conv => whnf))
 | ((first | refine retF1 ?_ | refine retF2 ?_) <;> (conv => whnf) <;> repeat' (first
 | exact trivial
 | (with_reducible rfl)
 | ((with_reducible refine And.intro ?_ ?_) <;> conv => whnf)
 | omega
 | rfl
 | (refine congrArg (SV.arr _) ?_)
 | (refine congrArg (Value.int _) ?_)
 | (refine congrArg Value.bool ?_)))); all_goals (try unfold Side)
     all_goals try (repeat' (first | exact zb | with_reducible refine And.intro ?_ ?_))
     refine W.loop (fun j : Nat => ⟨[(0, .st true (.arr (.sl (.int .i64)) (C : List (List Int)))), (1, (.lit (.int .i64 (0 : Int)))), (2, (.lit (.int .i64 (0 : Int)))), (8, .own 23000), (9, .own 75000), (10, (.lit (.int .i64 (u : Int)))), (11, (.lit (.int .i64 (i : Int)))), (33, (.lit (.int .i64 (C.length : Int)))), (34, (.lit (.int .i64 (i : Int)))), (38, (.lit (.int .i64 (C.length : Int)))), (39, (.lit (.int .i64 (j : Int))))], [(23000, .row 3 (.int .i64) true (waysL C (C).length : List Int)), (75000, .row 3 (.int .i64) true (zN (G.take i) : List Int))]⟩) (fun j => j ≤ j0) (fun j => j0 - j) (0) ?_ ?_
     · refine ⟨Nat.zero_le _, ?_⟩
       refine subF.ok ?_ <;> (conv => whnf) <;> repeat' (first
 | exact trivial
 | (with_reducible rfl)
 | ((with_reducible refine And.intro ?_ ?_) <;> conv => whnf)
 | omega
 | rfl
 | (refine congrArg (SV.arr _) ?_)
 | (refine congrArg (Value.int _) ?_)
 | (refine congrArg Value.bool ?_))
     · rintro j hj
       have hjn : j < C.length := by omega
       have hbit := bit_int u j
       have hdv : u / 2 ^ j ≤ u := Nat.div_le_self _ _
       have hq : 0 ≤ (u : Int) / (2 : Int) ^ ((j : Int).toNat) ∧ 0 ≤ (1 : Int) ∧ InK .i64 ((u : Int) / (2 : Int) ^ ((j : Int).toNat)) ∧ InK .i64 1 := by
        rw [shr_val]; revert hdv; generalize u / 2 ^ _ = D; intro hdv; exact ⟨by omega, by decide, ⟨by omega, by omega⟩, ⟨by decide, by decide⟩⟩
       have hrl : @List.length (Ty.int .i64).T (C.getD i []) = C.length := h.row i hin
       have hxv := h.val i j hin hjn
       obtain ⟨x, hx⟩ : ∃ x, x = (C.getD i []).getD j 0 := ⟨_, rfl⟩
       have hal : alC C i j = decide (x ≤ 0) := by rw [hx]; rfl
       have i1 : 0 ≤ (i : Int) ∧ (i : Int).toNat < @List.length (Ty.sl (.int .i64)).T C := ⟨by omega, by omega⟩
       have i2 : 0 ≤ (j : Int) ∧ (j : Int).toNat < @List.length (Ty.int .i64).T (C.getD i []) := ⟨by omega, by rw [hrl]; omega⟩
       have i3 : 0 ≤ (j : Int) ∧ (j : Int).toNat ≤ IntKind.i64.bits := ⟨by omega, by show (j : Int).toNat ≤ 64; omega⟩
       cases hbt : u.testBit j with
       | true =>
        have hne : j ≠ j0 := fun e => by rw [e, t1] at hbt; cases hbt
        rw [hbt] at hbit
        repeat' (first
 | refine W.seq ?_
 | refine W.block ?_
 | (refine W.region tys_ok [] ?_; conv => whnf)
 | (refine W.drawAll tys_ok [] mixed rfl ?_; conv => whnf)
 | (refine W.ret ?_; conv => whnf)
 | (refine W.skip ?_; conv => whnf)
 | (refine W.exit ?_; conv => whnf)
 | (refine W.cond rfl (fun hb => ?_) (fun hb => ?_) <;> (try simp only [zr, zd, zm, minL, maxL, pickB, zA] at hb) <;> (try (first | (cases hb; done) | exact absurd hb (by decide) | (exfalso; omega) | (omega) | ((simp_all; done)))))
 | ((with_reducible refine And.intro ?_ ?_); exact zc; conv => whnf)
 | ((with_reducible refine And.intro (Side.out ?_) ?_); rotate_left; (conv => whnf))
 | ((first | refine retF1 ?_ | refine retF2 ?_) <;> (conv => whnf) <;> repeat' (first
 | exact trivial
 | (with_reducible rfl)
 | ((with_reducible refine And.intro ?_ ?_) <;> conv => whnf)
 | omega
 | rfl
 | (refine congrArg (SV.arr _) ?_)
 | (refine congrArg (Value.int _) ?_)
 | (refine congrArg Value.bool ?_)))); all_goals (try unfold Side)
        all_goals first | exact hq | exact Path.imp_of hq | exact Path.imp_of i1 | exact Path.imp_of i2 | exact Path.imp_of i3 | exact i3 | skip
        all_goals try (repeat' (first | exact zb | with_reducible refine And.intro ?_ ?_))
        refine ⟨j + 1, ⟨by omega, by omega⟩, ?_⟩
        refine subF.ok ?_ <;> (conv => whnf) <;> repeat' (first
 | exact trivial
 | (with_reducible rfl)
 | ((with_reducible refine And.intro ?_ ?_) <;> conv => whnf)
 | omega
 | rfl
 | (refine congrArg (SV.arr _) ?_)
 | (refine congrArg (Value.int _) ?_)
 | (refine congrArg Value.bool ?_))
       | false =>
        rw [hbt] at hbit
        obtain ⟨w, hw2⟩ : ∃ w, w = u ||| 2 ^ j := ⟨_, rfl⟩
        have hwN : w < 2 ^ C.length := by rw [hw2]; exact or_lt hu hjn
        have e2 := shl_val j
        have e2b : 2 ^ j < 2 ^ C.length := Nat.pow_lt_pow_right (by decide) hjn
        have e3 : bitsN .or (u : Int).toNat (((1 : Int) * (2 : Int) ^ ((j : Int).toNat)).toNat) = w := by rw [hw2]; exact or_val u j
        obtain ⟨J, hJ⟩ : ∃ J, J = 2 ^ j := ⟨_, rfl⟩
        rw [← hJ] at e2 e2b
        have s1 : 0 ≤ (j : Int) ∧ (j : Int).toNat ≤ IntKind.i64.bits ∧ InK .i64 ((1 : Int) * (2 : Int) ^ ((j : Int).toNat)) := ⟨by omega, by show (j : Int).toNat ≤ 64; omega, by rw [e2]; exact ⟨by omega, by omega⟩⟩
        have s2 : 0 ≤ (u : Int) ∧ 0 ≤ (1 : Int) * (2 : Int) ^ ((j : Int).toNat) ∧ InK .i64 (u : Int) ∧ InK .i64 ((1 : Int) * (2 : Int) ^ ((j : Int).toNat)) ∧ InK .i64 ((bitsN .or (u : Int).toNat (((1 : Int) * (2 : Int) ^ ((j : Int).toNat)).toNat) : Nat) : Int) := by
         rw [e3, e2]; exact ⟨by omega, by omega, ⟨by omega, by omega⟩, ⟨by omega, by omega⟩, ⟨by omega, by omega⟩⟩
        have s3 : 0 ≤ ((bitsN .or (u : Int).toNat (((1 : Int) * (2 : Int) ^ ((j : Int).toNat)).toNat) : Nat) : Int) ∧ ((bitsN .or (u : Int).toNat (((1 : Int) * (2 : Int) ^ ((j : Int).toNat)).toNat) : Nat) : Int).toNat < @List.length (Ty.int .i64).T (waysL C C.length) := by
         rw [e3, hwl]; exact ⟨by omega, by omega⟩
        have g2 : (waysL C C.length).getD ((bitsN .or (u : Int).toNat (((1 : Int) * (2 : Int) ^ ((j : Int).toNat)).toNat) : Nat) : Int).toNat 0 = wayI C C.length w := by
         rw [e3, Int.toNat_natCast]; exact waysL_get hwN
        have hpw : pop w C.length = i + 1 := by rw [hw2, pop_or hbt, if_pos hjn, hpu]
        have hwy : wayI C C.length w = ((Wy (alC C) C.length f w : Nat) : Int) := by unfold wayI way; rw [hpw, show C.length - (i + 1) = f by omega]
        have hb0 : ((((u : Int) / 2 ^ j).toNat &&& 1 : Nat) : Int) = 0 := by simpa using hbit
        by_cases hxp : x ≤ 0
        · have hxl : (C.getD i []).getD j 0 ≤ 0 := by rw [← hx]; exact hxp
          have hal' : alC C (C.length - (f + 1)) j = true := by rw [hfi, hal]; exact decide_eq_true hxp
          by_cases hjj : j = j0
          · subst hjj
            rw [← hw2] at t3 hGd
            have g3 : (waysL C C.length).getD ((bitsN .or (u : Int).toNat (((1 : Int) * (2 : Int) ^ ((j : Int).toNat)).toNat) : Nat) : Int).toNat 0 = ((Wy (alC C) C.length f w : Nat) : Int) := g2.trans hwy
            have hapl := zN_app (a := G.take i) (j := j)
            rw [hGt] at hapl
            have hzi := hzl i (by omega)
            repeat' (first
 | refine W.seq ?_
 | refine W.block ?_
 | (refine W.region tys_ok [] ?_; conv => whnf)
 | (refine W.drawAll tys_ok [] mixed rfl ?_; conv => whnf)
 | (refine W.ret ?_; conv => whnf)
 | (refine W.skip ?_; conv => whnf)
 | (refine W.exit ?_; conv => whnf)
 | (refine W.cond rfl (fun hb => ?_) (fun hb => ?_) <;> (try simp only [zr, zd, zm, minL, maxL, pickB, zA] at hb) <;> (try (first | (cases hb; done) | exact absurd hb (by decide) | (exfalso; omega) | (omega) | ((simp_all; done)))))
 | ((with_reducible refine And.intro ?_ ?_); exact zc; conv => whnf)
 | ((with_reducible refine And.intro (Side.out ?_) ?_); rotate_left; (conv => whnf))
 | ((first | refine retF1 ?_ | refine retF2 ?_) <;> (conv => whnf) <;> repeat' (first
 | exact trivial
 | (with_reducible rfl)
 | ((with_reducible refine And.intro ?_ ?_) <;> conv => whnf)
 | omega
 | rfl
 | (refine congrArg (SV.arr _) ?_)
 | (refine congrArg (Value.int _) ?_)
 | (refine congrArg Value.bool ?_)))); all_goals (try unfold Side)
            all_goals first | exact hq | exact Path.imp_of hq | exact Path.imp_of i1 | exact Path.imp_of i2 | exact Path.imp_of i3 | exact Path.imp_of s1 | exact Path.imp_of s2 | exact Path.imp_of s3 | exact s1 | exact s2 | exact s3 | skip
            all_goals try (repeat' (first | exact zb | with_reducible refine And.intro ?_ ?_))
            all_goals first | exact app_le1 (by show (zN (G.take i)).length + 1 ≤ 4294967296; omega) | skip
            refine ⟨(i + 1, w), ⟨⟨by dsimp only; omega, hpw, hwN, by dsimp only; rw [show C.length - (i + 1) = f by omega]; exact t3, by dsimp only; rw [show C.length - (i + 1) = f by omega]; exact hGd⟩, by dsimp only; omega⟩, ?_⟩
            refine subF.ok ?_ <;> (conv => whnf) <;> repeat' (first
 | exact trivial
 | (with_reducible rfl)
 | ((with_reducible refine And.intro ?_ ?_) <;> conv => whnf)
 | omega
 | rfl
 | (refine congrArg (SV.arr _) ?_)
 | (refine congrArg (Value.int _) ?_)
 | (refine congrArg Value.bool ?_))
            all_goals first | exact hapl | exact congrArg Nat.cast e3 | skip
          · have hno : ¬ 0 < Wy (alC C) C.length f w := fun hp => by
             have := hbef j (Nat.zero_le _) (by omega)
             rw [take_yes.2 ⟨hbt, hal', by rw [← hw2]; exact hp⟩] at this
             cases this
            have g3 : (waysL C C.length).getD ((bitsN .or (u : Int).toNat (((1 : Int) * (2 : Int) ^ ((j : Int).toNat)).toNat) : Nat) : Int).toNat 0 = 0 := by rw [g2, hwy]; omega
            have g5 : (0 : Int) - (waysL C C.length).getD ((bitsN .or (u : Int).toNat (((1 : Int) * (2 : Int) ^ ((j : Int).toNat)).toNat) : Nat) : Int).toNat 0 = 0 := by rw [g3]; rfl
            have g4 : (waysL C C.length).getD (bitsN .or u (1 * 2 ^ j : Int).toNat) 0 = 0 := by simpa using g3
            repeat' (first
 | refine W.seq ?_
 | refine W.block ?_
 | (refine W.region tys_ok [] ?_; conv => whnf)
 | (refine W.drawAll tys_ok [] mixed rfl ?_; conv => whnf)
 | (refine W.ret ?_; conv => whnf)
 | (refine W.skip ?_; conv => whnf)
 | (refine W.exit ?_; conv => whnf)
 | (refine W.cond rfl (fun hb => ?_) (fun hb => ?_) <;> (try simp only [zr, zd, zm, minL, maxL, pickB, zA] at hb) <;> (try (first | (cases hb; done) | exact absurd hb (by decide) | (exfalso; omega) | (omega) | ((simp_all; done)))))
 | ((with_reducible refine And.intro ?_ ?_); exact zc; conv => whnf)
 | ((with_reducible refine And.intro (Side.out ?_) ?_); rotate_left; (conv => whnf))
 | ((first | refine retF1 ?_ | refine retF2 ?_) <;> (conv => whnf) <;> repeat' (first
 | exact trivial
 | (with_reducible rfl)
 | ((with_reducible refine And.intro ?_ ?_) <;> conv => whnf)
 | omega
 | rfl
 | (refine congrArg (SV.arr _) ?_)
 | (refine congrArg (Value.int _) ?_)
 | (refine congrArg Value.bool ?_)))); all_goals (try unfold Side)
            all_goals first | exact hq | exact Path.imp_of hq | exact Path.imp_of i1 | exact Path.imp_of i2 | exact Path.imp_of i3 | exact Path.imp_of s1 | exact Path.imp_of s2 | exact Path.imp_of s3 | exact s1 | exact s2 | exact s3 | skip
            all_goals try (repeat' (first | exact zb | with_reducible refine And.intro ?_ ?_))
            refine ⟨j + 1, ⟨by omega, by omega⟩, ?_⟩
            refine subF.ok ?_ <;> (conv => whnf) <;> repeat' (first
 | exact trivial
 | (with_reducible rfl)
 | ((with_reducible refine And.intro ?_ ?_) <;> conv => whnf)
 | omega
 | rfl
 | (refine congrArg (SV.arr _) ?_)
 | (refine congrArg (Value.int _) ?_)
 | (refine congrArg Value.bool ?_))
            all_goals first | exact g5 | skip
        · have hne : j ≠ j0 := fun e => by
           rw [e] at hal
           rw [t2] at hal
           exact hxp (of_decide_eq_true hal.symm)
          repeat' (first
 | refine W.seq ?_
 | refine W.block ?_
 | (refine W.region tys_ok [] ?_; conv => whnf)
 | (refine W.drawAll tys_ok [] mixed rfl ?_; conv => whnf)
 | (refine W.ret ?_; conv => whnf)
 | (refine W.skip ?_; conv => whnf)
 | (refine W.exit ?_; conv => whnf)
 | (refine W.cond rfl (fun hb => ?_) (fun hb => ?_) <;> (try simp only [zr, zd, zm, minL, maxL, pickB, zA] at hb) <;> (try (first | (cases hb; done) | exact absurd hb (by decide) | (exfalso; omega) | (omega) | ((simp_all; done)))))
 | ((with_reducible refine And.intro ?_ ?_); exact zc; conv => whnf)
 | ((with_reducible refine And.intro (Side.out ?_) ?_); rotate_left; (conv => whnf))
 | ((first | refine retF1 ?_ | refine retF2 ?_) <;> (conv => whnf) <;> repeat' (first
 | exact trivial
 | (with_reducible rfl)
 | ((with_reducible refine And.intro ?_ ?_) <;> conv => whnf)
 | omega
 | rfl
 | (refine congrArg (SV.arr _) ?_)
 | (refine congrArg (Value.int _) ?_)
 | (refine congrArg Value.bool ?_)))); all_goals (try unfold Side)
          all_goals first | exact hq | exact Path.imp_of hq | exact Path.imp_of i1 | exact Path.imp_of i2 | exact Path.imp_of i3 | exact i3 | skip
          all_goals try (repeat' (first | exact zb | with_reducible refine And.intro ?_ ?_))
          refine ⟨j + 1, ⟨by omega, by omega⟩, ?_⟩
          refine subF.ok ?_ <;> (conv => whnf) <;> repeat' (first
 | exact trivial
 | (with_reducible rfl)
 | ((with_reducible refine And.intro ?_ ?_) <;> conv => whnf)
 | omega
 | rfl
 | (refine congrArg (SV.arr _) ?_)
 | (refine congrArg (Value.int _) ?_)
 | (refine congrArg Value.bool ?_))
   · repeat' (first
 | refine W.seq ?_
 | refine W.block ?_
 | (refine W.region tys_ok [] ?_; conv => whnf)
 | (refine W.drawAll tys_ok [] mixed rfl ?_; conv => whnf)
 | (refine W.ret ?_; conv => whnf)
 | (refine W.skip ?_; conv => whnf)
 | (refine W.exit ?_; conv => whnf)
 | (refine W.cond rfl (fun hb => ?_) (fun hb => ?_) <;> (try simp only [zr, zd, zm, minL, maxL, pickB, zA] at hb) <;> (try (first | (cases hb; done) | exact absurd hb (by decide) | (exfalso; omega) | (omega))))
 | ((with_reducible refine And.intro ?_ ?_); exact zc; conv => whnf)
 | ((with_reducible refine And.intro (Side.out ?_) ?_); rotate_left; (conv => whnf))
 | ((first | refine retF1 ?_ | refine retF2 ?_) <;> (conv => whnf) <;> repeat' (first
 | exact trivial
 | (with_reducible rfl)
 | ((with_reducible refine And.intro ?_ ?_) <;> conv => whnf)
 | omega
 | rfl
 | (refine congrArg (SV.arr _) ?_)
 | (refine congrArg (Value.int _) ?_)
 | (refine congrArg Value.bool ?_)))); all_goals (try unfold Side)
     all_goals try (repeat' (first | exact zb | with_reducible refine And.intro ?_ ?_))
     all_goals (rw [show i = C.length by omega, ← hGl, List.take_length])
open Int renaming reduceToNat → zr, reduceTDiv → zd, reduceTMod → zm
open Go Go.Vc Go.Sh Go.Tp
theorem cloneI_at {l : List Int} (hl : l.length ≤ 1000) : FnAt Try.prog false 47 [.narr (.int .i64) l] (.own 0) [(0, .row 3 (.int .i64) true l)] := by
 have hwl : @List.length (Ty.int .i64).T l ≤ 1000 := hl
 cases l with
 | nil =>
  refine FnAt.of_body tys_ok Try.func47 (by rfl) rfl Try.ntmps47 (by rw [Try.results47]) (by simp) ?_
  repeat' (first
 | refine W.seq ?_
 | refine W.block ?_
 | (refine W.region tys_ok [] ?_; conv => whnf)
 | (refine W.drawAll tys_ok [] mixed rfl ?_; conv => whnf)
 | (refine W.ret ?_; conv => whnf)
 | (refine W.skip ?_; conv => whnf)
 | (refine W.exit ?_; conv => whnf)
 | (refine W.cond rfl (fun hb => ?_) (fun hb => ?_) <;> (try simp only [zr, zd, zm, minL, maxL, pickB, zA] at hb) <;> (try (first | (cases hb; done) | exact absurd hb (by decide) | (exfalso; omega))))
 | ((with_reducible refine And.intro ?_ ?_); exact zc; conv => whnf)
 | ((with_reducible refine And.intro (Side.out ?_) ?_); rotate_left; (conv => whnf))
 | ((first | refine retF1 ?_ | refine retF2 ?_) <;> (conv => whnf) <;> repeat' (first
 | exact trivial
 | (with_reducible rfl)
 | ((with_reducible refine And.intro ?_ ?_) <;> conv => whnf)
 | omega
 | rfl
 | (refine congrArg (SV.arr _) ?_)
 | (refine congrArg (Value.int _) ?_)
 | (refine congrArg Value.bool ?_)))); all_goals (try unfold Side)
  all_goals try (repeat' (first | exact zb | with_reducible refine And.intro ?_ ?_))
 | cons a r =>
  refine FnAt.of_body tys_ok Try.func47 (by rfl) rfl Try.ntmps47 (by rw [Try.results47]) (by simp) ?_
  repeat' (first
 | refine W.seq ?_
 | refine W.block ?_
 | (refine W.region tys_ok [] ?_; conv => whnf)
 | (refine W.drawAll tys_ok [] mixed rfl ?_; conv => whnf)
 | (refine W.ret ?_; conv => whnf)
 | (refine W.skip ?_; conv => whnf)
 | (refine W.exit ?_; conv => whnf)
 | (refine W.cond rfl (fun hb => ?_) (fun hb => ?_) <;> (try simp only [zr, zd, zm, minL, maxL, pickB, zA] at hb) <;> (try (first | (cases hb; done) | exact absurd hb (by decide) | (exfalso; omega))))
 | ((with_reducible refine And.intro ?_ ?_); exact zc; conv => whnf)
 | ((with_reducible refine And.intro (Side.out ?_) ?_); rotate_left; (conv => whnf))
 | ((first | refine retF1 ?_ | refine retF2 ?_) <;> (conv => whnf) <;> repeat' (first
 | exact trivial
 | (with_reducible rfl)
 | ((with_reducible refine And.intro ?_ ?_) <;> conv => whnf)
 | omega
 | rfl
 | (refine congrArg (SV.arr _) ?_)
 | (refine congrArg (Value.int _) ?_)
 | (refine congrArg Value.bool ?_)))); all_goals (try unfold Side)
  all_goals try (repeat' (first | exact zb | with_reducible refine And.intro ?_ ?_))
theorem colIn_at {C : List (List Int)} {n i j : Nat} (h : CO C n) (hi : i < n) (hj : j < n) : FnAt Try.prog false 24 [I64 i, .sadr (.arr (.sl (.int .i64)) (C : List (List Int))), .sadr (I64 j), .sadr (I64 0)] (.lit (.bool (alC C i j))) [] := by
 have hl : @List.length (Ty.sl (.int .i64)).T C = n := h.len
 have hr : @List.length (Ty.int .i64).T (C.getD i []) = n := h.row i hi
 refine FnAt.of_body tys_ok Try.func24 (by rfl) rfl Try.ntmps24 (by rw [Try.results24]) (by simp) ?_
 repeat' (first
 | refine W.seq ?_
 | refine W.block ?_
 | (refine W.drawPh (id := 1) tys_ok [] mixed [0, 0, 3, 4, 0, 24, 32, 0, 192, 511] [([0, 1, 2, 3, 4, 5, 6, 7, 8, 9], 0, 1023)] (by decide +kernel) ?_; conv => whnf)
 | (refine W.region tys_ok [] ?_; conv => whnf)
 | (refine W.drawAll tys_ok [] mixed rfl ?_; conv => whnf)
 | (refine W.ret ?_; conv => whnf)
 | (refine W.skip ?_; conv => whnf)
 | (refine W.exit ?_; conv => whnf)
 | (refine Both.mk ?_ ?_ <;> (conv => whnf))
 | (refine W.cond rfl (fun hb => ?_) (fun hb => ?_) <;> (try simp only [zr, zd, zm, minL, maxL, pickB, zA] at hb) <;> (try (first | (cases hb; done) | exact absurd hb (by decide) | (exfalso; omega) | (omega))))
 | ((with_reducible refine And.intro ?_ ?_); exact zc; conv => whnf)
 | ((with_reducible refine And.intro (Side.out ?_) ?_); rotate_left; (conv => whnf))
 | ((first | refine retF1 ?_ | refine retF2 ?_ | refine subF.leaf ?_ | refine subF.side ?_) <;> (conv => whnf) <;> repeat' (first
 | exact trivial
 | (with_reducible rfl)
 | ((with_reducible refine And.intro ?_ ?_) <;> conv => whnf)
 | omega
 | rfl
 | (refine congrArg (SV.arr _) ?_)
 | (refine congrArg (Value.int _) ?_)
 | (refine congrArg Value.bool ?_)))); all_goals (try unfold Side)
 all_goals try (repeat' (first | exact zb | with_reducible refine And.intro ?_ ?_))
def ixC (C : List (List Int)) (j : Nat) (S : List Nat) (k : Nat) : Int := match firstK (fun d => if alC C (S.getD (k + d) 0) j = true then some (k + d) else none) (S.length - k) with
 | some i => (i : Int)
 | none => -1
theorem ixC_end {C : List (List Int)} {j : Nat} {S : List Nat} {k : Nat} (h : S.length ≤ k) : ixC C j S k = -1 := by
 unfold ixC; rw [show S.length - k = 0 by omega]; rfl
theorem ixC_hit {C : List (List Int)} {j : Nat} {S : List Nat} {k : Nat} (h : k < S.length) (ha : alC C (S.getD k 0) j = true) : ixC C j S k = (k : Int) := by
 unfold ixC
 rw [firstK_hit (d := 0) (r := k) (by rw [Nat.add_zero, if_pos ha]) (fun e he => by omega) (by omega)]
theorem ixC_any {C : List (List Int)} {j : Nat} {S : List Nat} : decide (0 ≤ ixC C j S 0) = S.any (fun i => alC C i j) := by
 unfold ixC
 cases e : firstK (fun d => if alC C (S.getD (0 + d) 0) j = true then some (0 + d) else none) (S.length - 0) with
 | some i =>
  obtain ⟨d, hd, h1, _⟩ := firstK_some e
  rw [Nat.zero_add] at h1
  split at h1
  · rename_i ha
    injection h1 with h1
    subst h1
    have : S.any (fun i => alC C i j) = true := List.any_eq_true.2 ⟨S.getD d 0, by rw [List.getD_eq_getElem?_getD, List.getElem?_eq_getElem (by omega)]; exact List.getElem_mem _, ha⟩
    rw [this]; exact decide_eq_true (by show (0 : Int) ≤ (d : Int); omega)
  · cases h1
 | none =>
  have h1 := firstK_none e
  have : S.any (fun i => alC C i j) = false := by
   rw [List.any_eq_false]
   intro x hx
   obtain ⟨d, hd, he⟩ := List.getElem_of_mem hx
   have := h1 d (by omega)
   rw [Nat.zero_add, List.getD_eq_getElem?_getD, List.getElem?_eq_getElem hd] at this
   simp only [Option.getD_some, he] at this
   split at this
   · cases this
   · rename_i h; exact h
  rw [this]; rfl
theorem ixC_miss {C : List (List Int)} {j : Nat} {S : List Nat} {k : Nat} (h : k < S.length) (ha : alC C (S.getD k 0) j = false) : ixC C j S k = ixC C j S (k + 1) := by
 unfold ixC
 obtain ⟨m, hm⟩ : ∃ m, S.length - k = m + 1 := ⟨S.length - k - 1, by omega⟩
 rw [hm, show S.length - (k + 1) = m by omega]
 have key : firstK (fun d => if alC C (S.getD (k + d) 0) j = true then some (k + d) else none) (m + 1) = firstK (fun d => if alC C (S.getD (k + 1 + d) 0) j = true then some (k + 1 + d) else none) m := by
  cases e : firstK (fun d => if alC C (S.getD (k + 1 + d) 0) j = true then some (k + 1 + d) else none) m with
  | some i =>
   obtain ⟨d, hd, h1, h2⟩ := firstK_some e
   refine firstK_hit (d := d + 1) ?_ (fun e he => ?_) (by omega)
   · rw [show k + (d + 1) = k + 1 + d by omega]; exact h1
   · cases e with
     | zero => rw [Nat.add_zero, if_neg (by rw [ha]; decide)]
     | succ e =>
      have := h2 e (by omega)
      rw [show k + (e + 1) = k + 1 + e by omega]; exact this
  | none =>
   have h1 := firstK_none e
   refine firstK_of fun d hd => ?_
   cases d with
   | zero => rw [Nat.add_zero, if_neg (by rw [ha]; decide)]
   | succ d =>
    have := h1 d (by omega)
    rw [show k + (d + 1) = k + 1 + d by omega]; exact this
 rw [key]
theorem ixC_at {C : List (List Int)} {n j : Nat} {S : List Nat} (h : CO C n) (hj : j < n) (hS : ∀ i, i ∈ S → i < n) (hSl : S.length ≤ 100) : FnAt Try.prog false 48 [(.narr (.int .i64) (zN S : List Int)), .fn 24 [.sadr (.arr (.sl (.int .i64)) (C : List (List Int))), .sadr (I64 (j : Nat)), .sadr (I64 0)]] (.lit (.int .i64 (ixC C j S 0 : Int))) [] := by
 have hl : @List.length (Ty.int .i64).T (zN S) = S.length := zN_len
 refine FnAt.of_body tys_ok Try.func48 (by rfl) rfl Try.ntmps48 (by rw [Try.results48]) (by simp) ?_
 repeat' (first
 | refine W.seq ?_
 | refine W.block ?_
 | (refine W.region tys_ok [] ?_; conv => whnf)
 | (refine W.drawAll tys_ok [] mixed rfl ?_; conv => whnf)
 | (refine W.ret ?_; conv => whnf)
 | (refine W.skip ?_; conv => whnf)
 | (refine W.exit ?_; conv => whnf)
 | (refine W.cond rfl (fun hb => ?_) (fun hb => ?_) <;> (try simp only [zr, zd, zm, minL, maxL, pickB, zA] at hb) <;> (try (first | (cases hb; done) | exact absurd hb (by decide) | (exfalso; omega) | (omega))))
 | ((with_reducible refine And.intro ?_ ?_); exact zc; conv => whnf)
 | ((with_reducible refine And.intro (Side.out ?_) ?_); rotate_left; (conv => whnf))
 | ((first | refine retF1 ?_ | refine retF2 ?_) <;> (conv => whnf) <;> repeat' (first
 | exact trivial
 | (with_reducible rfl)
 | ((with_reducible refine And.intro ?_ ?_) <;> conv => whnf)
 | omega
 | rfl
 | (refine congrArg (SV.arr _) ?_)
 | (refine congrArg (Value.int _) ?_)
 | (refine congrArg Value.bool ?_)))); all_goals (try unfold Side)
 all_goals try (repeat' (first | exact zb | with_reducible refine And.intro ?_ ?_))
 refine W.loop (fun k : Nat => ⟨[(0, .st false (.narr (.int .i64) (zN S : List Int))), (1, .fn 24 [.st false (.sadr (.arr (.sl (.int .i64)) (C : List (List Int)))), .st false (.sadr (I64 (j : Nat))), .st false (.sadr (I64 0))]), (7, (.lit (.int .i64 (S.length : Int)))), (8, (.lit (.int .i64 (k : Int))))], []⟩) (fun k => k ≤ S.length ∧ ixC C j S 0 = ixC C j S k) (fun k => S.length - k) (0) ?_ ?_
 · refine ⟨⟨Nat.zero_le _, rfl⟩, ?_⟩
   refine subF.ok ?_ <;> (conv => whnf) <;> repeat' (first
 | exact trivial
 | (with_reducible rfl)
 | ((with_reducible refine And.intro ?_ ?_) <;> conv => whnf)
 | omega
 | rfl
 | (refine congrArg (SV.arr _) ?_)
 | (refine congrArg (Value.int _) ?_)
 | (refine congrArg Value.bool ?_))
   all_goals first | exact congrArg Nat.cast hl | skip
 · rintro k ⟨hk, hix⟩
   by_cases hkl : k < S.length
   · have hg : (zN S).getD k 0 = ((S.getD k 0 : Nat) : Int) := zN_get
     obtain ⟨x, hx⟩ : ∃ x, x = S.getD k 0 := ⟨_, rfl⟩
     rw [← hx] at hg
     have hxn : x < n := hS x (by rw [hx, List.getD_eq_getElem?_getD, List.getElem?_eq_getElem hkl]; exact List.getElem_mem _)
     have c1 := colIn_at h hxn hj
     obtain ⟨b, hbd⟩ : ∃ b, b = alC C x j := ⟨_, rfl⟩
     rw [← hbd] at c1
     have c2 : FnAt Try.prog false 24 [I64 ((zN S).getD k 0), .sadr (.arr (.sl (.int .i64)) (C : List (List Int))), .sadr (I64 j), .sadr (I64 0)] (.lit (.bool b)) [] := by rw [hg]; exact c1
     cases b with
     | true =>
      have hy := ixC_hit (C := C) (j := j) hkl (by rw [← hx]; exact hbd.symm)
      repeat' (first
 | refine W.seq ?_
 | refine W.block ?_
 | (refine W.region tys_ok [] ?_; conv => whnf)
 | (refine W.drawAll tys_ok [] mixed rfl ?_; conv => whnf)
 | (refine W.ret ?_; conv => whnf)
 | (refine W.skip ?_; conv => whnf)
 | (refine W.exit ?_; conv => whnf)
 | (refine call_at (al := false) (c2) rfl rfl rfl rfl ?_; conv => whnf)
 | (refine W.cond rfl (fun hb => ?_) (fun hb => ?_) <;> (try simp only [zr, zd, zm, minL, maxL, pickB, zA] at hb) <;> (try (first | (cases hb; done) | exact absurd hb (by decide) | (exfalso; omega) | (omega))))
 | ((with_reducible refine And.intro ?_ ?_); exact zc; conv => whnf)
 | ((with_reducible refine And.intro (Side.out ?_) ?_); rotate_left; (conv => whnf))
 | ((first | refine retF1 ?_ | refine retF2 ?_) <;> (conv => whnf) <;> repeat' (first
 | exact trivial
 | (with_reducible rfl)
 | ((with_reducible refine And.intro ?_ ?_) <;> conv => whnf)
 | omega
 | rfl
 | (refine congrArg (SV.arr _) ?_)
 | (refine congrArg (Value.int _) ?_)
 | (refine congrArg Value.bool ?_)))); all_goals (try unfold Side)
      all_goals try (repeat' (first | exact zb | with_reducible refine And.intro ?_ ?_))
      all_goals (rw [hix, hy])
     | false =>
      have hy := ixC_miss (C := C) (j := j) hkl (by rw [← hx]; exact hbd.symm)
      repeat' (first
 | refine W.seq ?_
 | refine W.block ?_
 | (refine W.region tys_ok [] ?_; conv => whnf)
 | (refine W.drawAll tys_ok [] mixed rfl ?_; conv => whnf)
 | (refine W.ret ?_; conv => whnf)
 | (refine W.skip ?_; conv => whnf)
 | (refine W.exit ?_; conv => whnf)
 | (refine call_at (al := false) (c2) rfl rfl rfl rfl ?_; conv => whnf)
 | (refine W.cond rfl (fun hb => ?_) (fun hb => ?_) <;> (try simp only [zr, zd, zm, minL, maxL, pickB, zA] at hb) <;> (try (first | (cases hb; done) | exact absurd hb (by decide) | (exfalso; omega) | (omega))))
 | ((with_reducible refine And.intro ?_ ?_); exact zc; conv => whnf)
 | ((with_reducible refine And.intro (Side.out ?_) ?_); rotate_left; (conv => whnf))
 | ((first | refine retF1 ?_ | refine retF2 ?_) <;> (conv => whnf) <;> repeat' (first
 | exact trivial
 | (with_reducible rfl)
 | ((with_reducible refine And.intro ?_ ?_) <;> conv => whnf)
 | omega
 | rfl
 | (refine congrArg (SV.arr _) ?_)
 | (refine congrArg (Value.int _) ?_)
 | (refine congrArg Value.bool ?_)))); all_goals (try unfold Side)
      all_goals try (repeat' (first | exact zb | with_reducible refine And.intro ?_ ?_))
      refine ⟨k + 1, ⟨⟨by omega, by rw [hix, hy]⟩, by omega⟩, ?_⟩
      refine subF.ok ?_ <;> (conv => whnf) <;> repeat' (first
 | exact trivial
 | (with_reducible rfl)
 | ((with_reducible refine And.intro ?_ ?_) <;> conv => whnf)
 | omega
 | rfl
 | (refine congrArg (SV.arr _) ?_)
 | (refine congrArg (Value.int _) ?_)
 | (refine congrArg Value.bool ?_))
   · have hy := ixC_end (C := C) (j := j) (S := S) (k := k) (by omega)
     repeat' (first
 | refine W.seq ?_
 | refine W.block ?_
 | (refine W.region tys_ok [] ?_; conv => whnf)
 | (refine W.drawAll tys_ok [] mixed rfl ?_; conv => whnf)
 | (refine W.ret ?_; conv => whnf)
 | (refine W.skip ?_; conv => whnf)
 | (refine W.exit ?_; conv => whnf)
 | (refine W.cond rfl (fun hb => ?_) (fun hb => ?_) <;> (try simp only [zr, zd, zm, minL, maxL, pickB, zA] at hb) <;> (try (first | (cases hb; done) | exact absurd hb (by decide) | (exfalso; omega) | (omega))))
 | ((with_reducible refine And.intro ?_ ?_); exact zc; conv => whnf)
 | ((with_reducible refine And.intro (Side.out ?_) ?_); rotate_left; (conv => whnf))
 | ((first | refine retF1 ?_ | refine retF2 ?_) <;> (conv => whnf) <;> repeat' (first
 | exact trivial
 | (with_reducible rfl)
 | ((with_reducible refine And.intro ?_ ?_) <;> conv => whnf)
 | omega
 | rfl
 | (refine congrArg (SV.arr _) ?_)
 | (refine congrArg (Value.int _) ?_)
 | (refine congrArg Value.bool ?_)))); all_goals (try unfold Side)
     all_goals try (repeat' (first | exact zb | with_reducible refine And.intro ?_ ?_))
     all_goals (rw [hix, hy])
theorem anyC_at {C : List (List Int)} {n j : Nat} {S : List Nat} (h : CO C n) (hj : j < n) (hS : ∀ i, i ∈ S → i < n) (hSl : S.length ≤ 100) : FnAt Try.prog false 23 [(.narr (.int .i64) (zN S : List Int)), .fn 24 [.sadr (.arr (.sl (.int .i64)) (C : List (List Int))), .sadr (I64 (j : Nat)), .sadr (I64 0)]] (.lit (.bool (S.any fun i => alC C i j))) [] := by
 have c1 := ixC_at h hj hS hSl
 have he := ixC_any (C := C) (j := j) (S := S)
 refine FnAt.of_body tys_ok Try.func23 (by rfl) rfl Try.ntmps23 (by rw [Try.results23]) (by simp) ?_
 repeat' (first
 | refine W.seq ?_
 | refine W.block ?_
 | (refine W.region tys_ok [] ?_; conv => whnf)
 | (refine W.drawAll tys_ok [] mixed rfl ?_; conv => whnf)
 | (refine W.ret ?_; conv => whnf)
 | (refine W.skip ?_; conv => whnf)
 | (refine W.exit ?_; conv => whnf)
 | (refine call_at (al := false) (c1) rfl rfl rfl rfl ?_; conv => whnf)
 | (refine W.cond rfl (fun hb => ?_) (fun hb => ?_) <;> (try simp only [zr, zd, zm, minL, maxL, pickB, zA] at hb) <;> (try (first | (cases hb; done) | exact absurd hb (by decide) | (exfalso; omega) | (omega))))
 | ((with_reducible refine And.intro ?_ ?_); exact zc; conv => whnf)
 | ((with_reducible refine And.intro (Side.out ?_) ?_); rotate_left; (conv => whnf))
 | ((first | refine retF1 ?_ | refine retF2 ?_) <;> (conv => whnf) <;> repeat' (first
 | exact trivial
 | (with_reducible rfl)
 | ((with_reducible refine And.intro ?_ ?_) <;> conv => whnf)
 | omega
 | rfl
 | (refine congrArg (SV.arr _) ?_)
 | (refine congrArg (Value.int _) ?_)
 | (refine congrArg Value.bool ?_)))); all_goals (try unfold Side)
 all_goals try (repeat' (first | exact zb | with_reducible refine And.intro ?_ ?_))
 all_goals exact he
set_option maxHeartbeats 4000000 in
theorem yieldN_at {C : List (List Int)} {n : Nat} {S : List Nat} (h : CO C n) (hS : ∀ i, i ∈ S → i < n) (hSl : S.length ≤ 100) (hd : dfc (alC C) n S = false) : FnM Try.prog 22 [.st true (.narr (.int .i64) (zN S : List Int)), .padr 1000000000 0, .padr 1000000001 0, .padr 1000000002 0] [(1000000000, .box1 (.st true (.arr (.sl (.int .i64)) (C : List (List Int))))), (1000000001, .box1 (.lit (.int .i64 (0 : Int)))), (1000000002, .box1 (.lit (.slice none 0 0)))] (.lit (.bool true)) [(1000000000, .box1 (.st true (.arr (.sl (.int .i64)) (C : List (List Int))))), (1000000001, .box1 (.lit (.int .i64 (0 : Int)))), (1000000002, .box1 (.lit (.slice none 0 0)))] := by
 have hl : @List.length (Ty.int .i64).T (zN S) = S.length := zN_len
 have hl2 : (zN S).length = S.length := zN_len
 have hlc : @List.length (Ty.sl (.int .i64)).T C = n := h.len
 have hn6 := h.n6
 have hdd : ¬ hdl (alC C) S n < S.length := of_decide_eq_false hd
 have hhl : ∀ k, k ≤ n → hdl (alC C) S k ≤ k := fun k _ => by
  have := sumN_le (f := fun j => if S.any (fun i => alC C i j) = true then 1 else 0) (B := 1) (fun j => by split <;> omega) k
  unfold hdl; omega
 refine FnM.of_body tys_ok Try.func22 (by rfl) rfl Try.ntmps22 (by rw [Try.results22]) (by simp) ?_
 repeat' (first
 | refine W.seq ?_
 | refine W.block ?_
 | (refine W.region tys_ok [] ?_; conv => whnf)
 | (refine W.drawAll tys_ok [] mixed rfl ?_; conv => whnf)
 | (refine W.ret ?_; conv => whnf)
 | (refine W.skip ?_; conv => whnf)
 | (refine W.exit ?_; conv => whnf)
 | (refine W.cond rfl (fun hb => ?_) (fun hb => ?_) <;> (try simp only [zr, zd, zm, minL, maxL, pickB, zA] at hb) <;> (try (first | (cases hb; done) | exact absurd hb (by decide) | (exfalso; omega) | (omega))))
 | ((with_reducible refine And.intro ?_ ?_); exact zc; conv => whnf)
 | ((with_reducible refine And.intro (Side.out ?_) ?_); rotate_left; (conv => whnf))
 | ((first | refine retM1 ?_ | refine retM2 ?_) <;> (conv => whnf) <;> repeat' (first
 | exact trivial
 | (with_reducible rfl)
 | ((with_reducible refine And.intro ?_ ?_) <;> conv => whnf)
 | omega
 | rfl
 | (refine congrArg (SV.arr _) ?_)
 | (refine congrArg (Value.int _) ?_)
 | (refine congrArg Value.bool ?_)))); all_goals (try unfold Side)
 all_goals try (repeat' (first | exact zb | with_reducible refine And.intro ?_ ?_))
 refine W.loop (fun k : Nat => ⟨[(0, .st true (.narr (.int .i64) (zN S : List Int))), (1, .padr 1000000000 0), (2, .padr 1000000001 0), (3, .padr 1000000002 0), (6, (.lit (.int .i64 ((hdl (alC C) S k : Nat) : Int)))), (9, (.lit (.int .i64 (n : Int)))), (10, (.lit (.int .i64 (k : Int))))], [(1000000000, .box1 (.st true (.arr (.sl (.int .i64)) (C : List (List Int))))), (1000000001, .box1 (.lit (.int .i64 (0 : Int)))), (1000000002, .box1 (.lit (.slice none 0 0)))]⟩) (fun k => k ≤ n) (fun k => n - k) (0) ?_ ?_
 · refine ⟨Nat.zero_le _, ?_⟩
   refine subF.ok ?_ <;> (conv => whnf) <;> repeat' (first
 | exact trivial
 | (with_reducible rfl)
 | ((with_reducible refine And.intro ?_ ?_) <;> conv => whnf)
 | omega
 | rfl
 | (refine congrArg (SV.arr _) ?_)
 | (refine congrArg (Value.int _) ?_)
 | (refine congrArg Value.bool ?_))
   all_goals first | exact congrArg Nat.cast hlc | skip
 · rintro k hk
   by_cases hkn : k < n
   · have c1 := anyC_at h hkn hS hSl
     obtain ⟨b, hbd⟩ : ∃ b, b = S.any fun i => alC C i k := ⟨_, rfl⟩
     rw [← hbd] at c1
     have hst : hdl (alC C) S (k + 1) = hdl (alC C) S k + if b = true then 1 else 0 := by rw [hbd]; rfl
     have hb1 := hhl k (by omega)
     cases b with
     | true =>
      repeat' (first
 | refine W.seq ?_
 | refine W.block ?_
 | (refine W.region tys_ok [] ?_; conv => whnf)
 | (refine W.drawAll tys_ok [] mixed rfl ?_; conv => whnf)
 | (refine W.ret ?_; conv => whnf)
 | (refine W.skip ?_; conv => whnf)
 | (refine W.exit ?_; conv => whnf)
 | (refine call_at (al := false) (c1) rfl rfl rfl rfl ?_; conv => whnf)
 | (refine W.cond rfl (fun hb => ?_) (fun hb => ?_) <;> (try simp only [zr, zd, zm, minL, maxL, pickB, zA] at hb) <;> (try (first | (cases hb; done) | exact absurd hb (by decide) | (exfalso; omega) | (omega))))
 | ((with_reducible refine And.intro ?_ ?_); exact zc; conv => whnf)
 | ((with_reducible refine And.intro (Side.out ?_) ?_); rotate_left; (conv => whnf))
 | ((first | refine retM1 ?_ | refine retM2 ?_) <;> (conv => whnf) <;> repeat' (first
 | exact trivial
 | (with_reducible rfl)
 | ((with_reducible refine And.intro ?_ ?_) <;> conv => whnf)
 | omega
 | rfl
 | (refine congrArg (SV.arr _) ?_)
 | (refine congrArg (Value.int _) ?_)
 | (refine congrArg Value.bool ?_)))); all_goals (try unfold Side)
      all_goals try (repeat' (first | exact zb | with_reducible refine And.intro ?_ ?_))
      refine ⟨k + 1, ⟨by omega, by omega⟩, ?_⟩
      rw [hst]
      refine subF.ok ?_ <;> (conv => whnf) <;> repeat' (first
 | exact trivial
 | (with_reducible rfl)
 | ((with_reducible refine And.intro ?_ ?_) <;> conv => whnf)
 | omega
 | rfl
 | (refine congrArg (SV.arr _) ?_)
 | (refine congrArg (Value.int _) ?_)
 | (refine congrArg Value.bool ?_))
     | false =>
      repeat' (first
 | refine W.seq ?_
 | refine W.block ?_
 | (refine W.region tys_ok [] ?_; conv => whnf)
 | (refine W.drawAll tys_ok [] mixed rfl ?_; conv => whnf)
 | (refine W.ret ?_; conv => whnf)
 | (refine W.skip ?_; conv => whnf)
 | (refine W.exit ?_; conv => whnf)
 | (refine call_at (al := false) (c1) rfl rfl rfl rfl ?_; conv => whnf)
 | (refine W.cond rfl (fun hb => ?_) (fun hb => ?_) <;> (try simp only [zr, zd, zm, minL, maxL, pickB, zA] at hb) <;> (try (first | (cases hb; done) | exact absurd hb (by decide) | (exfalso; omega) | (omega))))
 | ((with_reducible refine And.intro ?_ ?_); exact zc; conv => whnf)
 | ((with_reducible refine And.intro (Side.out ?_) ?_); rotate_left; (conv => whnf))
 | ((first | refine retM1 ?_ | refine retM2 ?_) <;> (conv => whnf) <;> repeat' (first
 | exact trivial
 | (with_reducible rfl)
 | ((with_reducible refine And.intro ?_ ?_) <;> conv => whnf)
 | omega
 | rfl
 | (refine congrArg (SV.arr _) ?_)
 | (refine congrArg (Value.int _) ?_)
 | (refine congrArg Value.bool ?_)))); all_goals (try unfold Side)
      all_goals try (repeat' (first | exact zb | with_reducible refine And.intro ?_ ?_))
      refine ⟨k + 1, ⟨by omega, by omega⟩, ?_⟩
      rw [hst]
      refine subF.ok ?_ <;> (conv => whnf) <;> repeat' (first
 | exact trivial
 | (with_reducible rfl)
 | ((with_reducible refine And.intro ?_ ?_) <;> conv => whnf)
 | omega
 | rfl
 | (refine congrArg (SV.arr _) ?_)
 | (refine congrArg (Value.int _) ?_)
 | (refine congrArg Value.bool ?_))
   · have hke : k = n := by omega
     rw [← hke] at hdd
     repeat' (first
 | refine W.seq ?_
 | refine W.block ?_
 | (refine W.region tys_ok [] ?_; conv => whnf)
 | (refine W.drawAll tys_ok [] mixed rfl ?_; conv => whnf)
 | (refine W.ret ?_; conv => whnf)
 | (refine W.skip ?_; conv => whnf)
 | (refine W.exit ?_; conv => whnf)
 | (refine W.cond rfl (fun hb => ?_) (fun hb => ?_) <;> (try simp only [zr, zd, zm, minL, maxL, pickB, zA] at hb) <;> (try (first | (cases hb; done) | exact absurd hb (by decide) | (exfalso; omega) | (omega))))
 | ((with_reducible refine And.intro ?_ ?_); exact zc; conv => whnf)
 | ((with_reducible refine And.intro (Side.out ?_) ?_); rotate_left; (conv => whnf))
 | ((first | refine retM1 ?_ | refine retM2 ?_) <;> (conv => whnf) <;> repeat' (first
 | exact trivial
 | (with_reducible rfl)
 | ((with_reducible refine And.intro ?_ ?_) <;> conv => whnf)
 | omega
 | rfl
 | (refine congrArg (SV.arr _) ?_)
 | (refine congrArg (Value.int _) ?_)
 | (refine congrArg Value.bool ?_)))); all_goals (try unfold Side)
     all_goals try (repeat' (first | exact zb | with_reducible refine And.intro ?_ ?_))
     all_goals skip
end Go.Proofs.Ytckmhlpngolbpaa
namespace Go.Vc
def zipP : List (List Nat × Nat × Nat) → List (Option Sy) → Phc
 | [], _ => []
 | x :: r, [] => (x.1, x.2.1, x.2.2, none) :: zipP r []
 | x :: r, c :: cs => (x.1, x.2.1, x.2.2, c) :: zipP r cs
theorem zipP_plain : ∀ (l : List (List Nat × Nat × Nat)) (cs : List (Option Sy)), plainPh (zipP l cs) = l
 | [], _ => rfl
 | x :: r, [] => by simp only [zipP, plainPh, zipP_plain r []]
 | x :: r, c :: cs => by simp only [zipP, plainPh, zipP_plain r cs]
noncomputable def phD (P : Program) (T : List (Nat × TE)) (F Ms : List Nat) (n : Nat) (ops : Array Oper) (E : List Nat) (l : List (List Nat × Nat × Nat)) : List (Option Sy) → Nat → Sy → (Sy → Prop) → Prop :=
 List.rec (motive := fun _ => List (Option Sy) → Nat → Sy → (Sy → Prop) → Prop) (fun _ _ Γ K => K Γ) (fun x _ ih cs done Γ K => match cs with
  | [] => floatVC T n ops x.1 Γ fun Γ1 => treeM P T F Ms n ops E x.2.1 (addM done x.1) Γ1 fun d' Γ' => ck (Nat.beq d' x.2.2) (ih [] x.2.2 Γ' K)
  | none :: cs => floatVC T n ops x.1 Γ fun Γ1 => treeM P T F Ms n ops E x.2.1 (addM done x.1) Γ1 fun d' Γ' => ck (Nat.beq d' x.2.2) (ih cs x.2.2 Γ' K)
  | some Γ2 :: cs => Both (floatVC T n ops x.1 Γ fun Γ1 => treeM P T F Ms n ops E x.2.1 (addM done x.1) Γ1 fun d' Γ' => ck (Nat.beq d' x.2.2) (Leaf (Sub Γ' Γ2 (mkRen Γ' Γ2)))) (ih cs x.2.2 Γ2 K)) l
theorem phD_eq {P : Program} {T : List (Nat × TE)} {F Ms : List Nat} {n : Nat} {ops : Array Oper} {E : List Nat} : ∀ (l : List (List Nat × Nat × Nat)) (cs : List (Option Sy)), phD P T F Ms n ops E l cs = phC P T F Ms n ops E (zipP l cs)
 | [], cs => rfl
 | x :: r, [] => by
  have ih := phD_eq (P := P) (T := T) (F := F) (Ms := Ms) (n := n) (ops := ops) (E := E) r []
  funext done Γ K
  show (floatVC T n ops x.1 Γ fun Γ1 => treeM P T F Ms n ops E x.2.1 (addM done x.1) Γ1 fun d' Γ' => ck (Nat.beq d' x.2.2) (phD P T F Ms n ops E r [] x.2.2 Γ' K)) = _
  rw [ih]; rfl
 | x :: r, none :: cs => by
  have ih := phD_eq (P := P) (T := T) (F := F) (Ms := Ms) (n := n) (ops := ops) (E := E) r cs
  funext done Γ K
  show (floatVC T n ops x.1 Γ fun Γ1 => treeM P T F Ms n ops E x.2.1 (addM done x.1) Γ1 fun d' Γ' => ck (Nat.beq d' x.2.2) (phD P T F Ms n ops E r cs x.2.2 Γ' K)) = _
  rw [ih]; rfl
 | x :: r, some Γ2 :: cs => by
  have ih := phD_eq (P := P) (T := T) (F := F) (Ms := Ms) (n := n) (ops := ops) (E := E) r cs
  funext done Γ K
  show (Both (floatVC T n ops x.1 Γ fun Γ1 => treeM P T F Ms n ops E x.2.1 (addM done x.1) Γ1 fun d' Γ' => ck (Nat.beq d' x.2.2) (Leaf (Sub Γ' Γ2 (mkRen Γ' Γ2)))) (phD P T F Ms n ops E r cs x.2.2 Γ2 K)) = _
  rw [ih]; rfl
theorem W.drawCD {P : Program} {n : Nat} {Q : Exit → Sy → Prop} {Γ : Sy} {T : List (Nat × TE)} (hT : TOk P T) (F Ms : List Nat) (hmx : P.follows .mixedOrders = true) (E : List Nat) (ph : List (List Nat × Nat × Nat)) (cs : List (Option Sy)) {id : Nat} {ops : Array Oper}
  (hd : (allBelow ops.size (fun j => match ops[j]? with
   | none => false
   | some o => edgesLt j o.after.toList) && (dirms ops == E) && phOk ops ph 0 && Region.noSelect ops) = true)
  (h : phD P T F Ms n ops E ph cs 0 Γ fun Γ' => Q .normal Γ') : W P n (.region id ops true) Γ Q := by
 rw [phD_eq] at h
 exact W.drawC hT F Ms hmx E (zipP ph cs) (by rw [zipP_plain]; exact hd) h
end Go.Vc
