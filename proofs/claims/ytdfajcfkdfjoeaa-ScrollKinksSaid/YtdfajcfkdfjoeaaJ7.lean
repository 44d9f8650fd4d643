/- Joined of: S19 Sk1 Sk2 Sm10 Sk3 S36. No condition. -/
import Derived.Test.YtdfajcfkdfjoeaaJ6
import Derived.Test.YtdfajcfkdfjoeaaJ5

/- ScrollEuler. No condition. -/
namespace Go.Proofs.Ytdfajcfkdfjoeaa
open Go Go.Vc Go.Scr
set_option linter.unusedVariables false
set_option linter.unusedSimpArgs false

theorem sigT_signs {n z : Nat} : signsB (sigT n z) n = true := by
  rw [signsB, sigT_len, show sgnB (sigT n z) = true from sigT_all]; simp
set_option maxHeartbeats 4000000 in
theorem ScrollEuler_at {x : List (Int × Int × Unit)} (hx : small x) {z : Int} (hz0 : 0 ≤ z) (hz1 : z ≤ 65535) : FnAt Try.prog false 6 [.arr U2 x, .lit (.int .u16 z)] (.lit (.bool true)) [] := by
  obtain ⟨z, rfl⟩ : ∃ y : Nat, z = y := ⟨z.toNat, by omega⟩
  obtain ⟨c, hc⟩ : ∃ c, c = min x.length (10 - 1) := ⟨_, rfl⟩
  have c1 := made_at hx (m := 10) (Nat.le_refl _) hc
  have hw : Word (madeK x c) (c + 1) := made_word
  obtain ⟨n, hn⟩ : ∃ n, n = c + 1 := ⟨_, rfl⟩
  rw [← hn] at hw
  have hn10 : n ≤ 10 := by omega
  obtain ⟨w, hwe⟩ : ∃ w, w = madeK x c := ⟨_, rfl⟩
  rw [← hwe] at hw c1
  have hl : @List.length (Ty.int .i64).T w = 2 * n := hw.len
  have hd : Int.tdiv (@List.length (Ty.int .i64).T w) 2 = n := by rw [hl, Int.tdiv_eq_ediv_of_nonneg (by omega)]; omega
  have c2 := signs_at (n := n) (z := z) hn10 (by omega)
  have c3 := signs_at (n := n) (z := 65535 - z) hn10 (by omega)
  rw [← hd] at c2 c3
  rw [show ((65535 - z : Nat) : Int) = 65535 - (z : Int) by omega] at c3
  have s1 := sigT_signs (n := n) (z := z)
  have s2 := sigT_signs (n := n) (z := 65535 - z)
  have a1 := sigT_all (n := n) (z := z)
  have a2 := sigT_all (n := n) (z := 65535 - z)
  have l1 := sigT_len (n := n) (z := z)
  have l2 := sigT_len (n := n) (z := 65535 - z)
  have sneg := fun v (hv : v < n) => sigT_neg (n := n) (z := z) (by omega) (by omega) hv
  obtain ⟨s, hs⟩ : ∃ s, s = sigT n z := ⟨_, rfl⟩
  obtain ⟨t, ht⟩ : ∃ t, t = sigT n (65535 - z) := ⟨_, rfl⟩
  rw [← hs] at c2 s1 a1 l1
  rw [← ht] at c3 s2 a2 l2
  rw [← hs, ← ht] at sneg
  have c4 := Faces_ok hw hn10 s1
  have c5 := Faces_ok hw hn10 s2
  have c6 := Genus_ok hw hn10 s1
  have c7 := Genus_ok hw hn10 s2
  obtain ⟨g0, g1⟩ := genus_ok hw a1 l1
  obtain ⟨g2, g3⟩ := genus_ok hw a2 l2
  have eqF := neg_eq hw a1 l1 a2 l2 sneg
  have H := facesT_FK (next_pn hw a1 l1)
  have flen := faces_le hw a1 l1
  obtain ⟨F, hF⟩ : ∃ F, F = facesT (nextT w s) (2 * n) := ⟨_, rfl⟩
  obtain ⟨F2, hF2⟩ : ∃ F2, F2 = facesT (nextT w t) (2 * n) := ⟨_, rfl⟩
  rw [← hF] at H eqF g1 c4 flen
  rw [← hF2] at eqF g3 c5
  obtain ⟨G, hG⟩ : ∃ G, G = genusT n w s := ⟨_, rfl⟩
  obtain ⟨G2, hG2⟩ : ∃ G2, G2 = genusT n w t := ⟨_, rfl⟩
  rw [← hG] at g0 g1 c6
  rw [← hG2] at g2 g3 c7
  have H1 := fun j q hj hq => H.at (j := j) (q := q) hj hq
  have H2 := fun j hj => H.inc_at (j := j) hj
  have H3 := fun j hj => H.ne_at (j := j) hj
  have H4 := H.len
  have H5 := fun j => flat_len (F := F) (j := j)
  have H6 := fun j hj => flat_take (F := F) (j := j) hj
  clear H hF hF2 hG hG2 hs ht hwe sneg
  have hFl : @List.length (List (Ty.int .i64).T) F ≤ n + 2 := flen
  have hFl2 : @List.length (Ty.sl (.int .i64)).T F2 = @List.length (Ty.sl (.int .i64)).T F := eqF
  have hGG : G2 = G := by omega
  subst hGG
  have hg4 : ∀ k, k = @List.length (Ty.sl (.int .i64)).T F → 2 * G2 = (Int.tdiv (@List.length (Ty.int .i64).T w) 2) + 2 - k := fun k hk => by subst hk; rw [hd]; exact g1
  have hgl : 0 ≤ G2 ∧ G2 ≤ 20 := by omega
  refine FnAt.of_body tys_ok Try.func6 (by rfl) rfl Try.ntmps6 (by rw [Try.results6]) (by simp) ?_
  
  repeat' (first
 | refine W.seq ?_
 | refine W.block ?_
 | (refine W.region tys_ok [5, 6, 7, 21, 26, 32, 8, 10, 33, 36, 37, 39, 42, 43] ?_; conv => whnf)
 | (refine W.drawAll tys_ok [5, 6, 7, 21, 26, 32, 8, 10, 33, 36, 37, 39, 42, 43] mixed rfl ?_; conv => whnf)
 | (refine W.ret ?_; conv => whnf)
 | (refine W.skip ?_; conv => whnf)
 | (refine W.exit ?_; conv => whnf)
 | (refine call_at (al := false) (c1) rfl rfl rfl rfl ?_; conv => whnf)
 | (refine call_at (al := false) (c2) rfl rfl rfl rfl ?_; conv => whnf)
 | (refine call_at (al := false) (c3) rfl rfl rfl rfl ?_; conv => whnf)
 | (refine call_at (al := false) (c4) rfl rfl rfl rfl ?_; conv => whnf)
 | (refine call_at (al := false) (c5) rfl rfl rfl rfl ?_; conv => whnf)
 | (refine call_at (al := false) (c6) rfl rfl rfl rfl ?_; conv => whnf)
 | (refine call_at (al := false) (c7) rfl rfl rfl rfl ?_; conv => whnf)
 | (refine call_at (al := false) (lives_at) rfl rfl rfl rfl ?_; conv => whnf)

    | (refine W.cond rfl (fun hb => ?_) (fun hb => ?_) <;> (try simp only [Int.reduceToNat, Int.reduceTDiv, Int.reduceTMod, minL, maxL, pickB, zHB] at hb) <;> (try (first | (cases hb; done) | exact absurd hb (by decide) | (exfalso; omega))))
    | ((with_reducible refine And.intro ?_ ?_); (focus ((repeat' (first | (with_reducible rfl) | (with_reducible refine And.intro ?_ ?_) | omega | rfl | exact Or.inl rfl | exact Or.inr rfl | exact of_decide_eq_true rfl | exact Path.imp_of (of_decide_eq_true rfl) | (focus ((try simp only [Int.reduceToNat, Int.reduceTDiv, Int.reduceTMod, minL, maxL, pickB, zHB, InK, Path.imp, List.length_replicate, List.length_set, List.length_append, List.length_cons, List.length_nil] at *); omega)) | (refine app_le rfl ?_; omega))); done)); (conv => whnf))
    | ((with_reducible refine And.intro (Side.out ?_) ?_); rotate_left; (conv => whnf))
    | (refine retF1 ?_ <;> (conv => whnf) <;> repeat' (first
 | exact trivial
 | (with_reducible rfl)
 | ((with_reducible refine And.intro ?_ ?_) <;> conv => whnf)
 | omega
 | rfl
 | (refine congrArg (SV.arr _) ?_)
 | (refine congrArg (Value.int _) ?_)
 | (refine congrArg Value.bool ?_)))
 | (refine retF2 ?_ <;> (conv => whnf) <;> repeat' (first
 | exact trivial
 | (with_reducible rfl)
 | ((with_reducible refine And.intro ?_ ?_) <;> conv => whnf)
 | omega
 | rfl
 | (refine congrArg (SV.arr _) ?_)
 | (refine congrArg (Value.int _) ?_)
 | (refine congrArg Value.bool ?_)))); all_goals (try unfold Side)
  all_goals try (repeat' (first | (with_reducible rfl) | (with_reducible refine And.intro ?_ ?_) | omega | rfl | exact Or.inl rfl | exact Or.inr rfl | exact of_decide_eq_true rfl | exact Path.imp_of (of_decide_eq_true rfl) | (focus ((try simp only [Int.reduceToNat, Int.reduceTDiv, Int.reduceTMod, minL, maxL, pickB, zHB, InK, Path.imp, List.length_replicate, List.length_set, List.length_append, List.length_cons, List.length_nil] at *); omega)) | (refine app_le rfl ?_; omega)))
  have Hin : ∀ j q : Nat, j < F.length → q < (F.getD j []).length → @List.length (Ty.int .i64).T (@List.getD (List (Ty.int .i64).T) F j []) = (F.getD j []).length := fun _ _ _ _ => rfl
  refine W.loop (fun j : Nat => ⟨[(5, .st true (.arr (.int .i64) (w : List Int))), (8, .st true (.arr (.sl (.int .i64)) (F : List (List Int)))), (16, .own 900016), (17, .lit (.int .i64 (j)))], [(900016, .mp .i64 .bool (mpT (F.take j).flatten) (F.take j).flatten.length)]⟩) (fun j => j ≤ F.length) (fun j => F.length - j) (0) ?_ ?_
  · refine ⟨Nat.zero_le _, ?_⟩
    refine subF.ok ?_ <;> (conv => whnf) <;> repeat' (first
 | exact trivial
 | (with_reducible rfl)
 | ((with_reducible refine And.intro ?_ ?_) <;> conv => whnf)
 | omega
 | rfl
 | (refine congrArg (SV.arr _) ?_)
 | (refine congrArg (Value.int _) ?_)
 | (refine congrArg Value.bool ?_))
    all_goals exact mp_nil rfl
  · intro j hj
    by_cases hjl : j < F.length
    · have K1 := fun q hq => H1 j q hjl hq
      have K3 := H3 j hjl
      have K6 := H6 j hjl
      have K5 := H5 (j + 1)
      have K5' := H5 j
      have hfl : (F.getD j []).length ≤ 40 := by rw [K6, List.length_append] at K5; omega
      repeat' (first
 | refine W.seq ?_
 | refine W.block ?_
 | (refine W.region tys_ok [] ?_; conv => whnf)
 | (refine W.drawAll tys_ok [] mixed rfl ?_; conv => whnf)
 | (refine W.ret ?_; conv => whnf)
 | (refine W.skip ?_; conv => whnf)
 | (refine W.exit ?_; conv => whnf)

    | (refine W.cond rfl (fun hb => ?_) (fun hb => ?_) <;> (try simp only [Int.reduceToNat, Int.reduceTDiv, Int.reduceTMod, minL, maxL, pickB, zHB] at hb) <;> (try (first | (cases hb; done) | exact absurd hb (by decide) | (exfalso; omega))))
    | ((with_reducible refine And.intro ?_ ?_); (focus ((repeat' (first | (with_reducible rfl) | (with_reducible refine And.intro ?_ ?_) | omega | rfl | exact Or.inl rfl | exact Or.inr rfl | exact of_decide_eq_true rfl | exact Path.imp_of (of_decide_eq_true rfl) | (focus ((try simp only [Int.reduceToNat, Int.reduceTDiv, Int.reduceTMod, minL, maxL, pickB, zHB, InK, Path.imp, List.length_replicate, List.length_set, List.length_append, List.length_cons, List.length_nil] at *); omega)) | (refine app_le rfl ?_; omega))); done)); (conv => whnf))
    | ((with_reducible refine And.intro (Side.out ?_) ?_); rotate_left; (conv => whnf))
    | (refine retF1 ?_ <;> (conv => whnf) <;> repeat' (first
 | exact trivial
 | (with_reducible rfl)
 | ((with_reducible refine And.intro ?_ ?_) <;> conv => whnf)
 | omega
 | rfl
 | (refine congrArg (SV.arr _) ?_)
 | (refine congrArg (Value.int _) ?_)
 | (refine congrArg Value.bool ?_)))
 | (refine retF2 ?_ <;> (conv => whnf) <;> repeat' (first
 | exact trivial
 | (with_reducible rfl)
 | ((with_reducible refine And.intro ?_ ?_) <;> conv => whnf)
 | omega
 | rfl
 | (refine congrArg (SV.arr _) ?_)
 | (refine congrArg (Value.int _) ?_)
 | (refine congrArg Value.bool ?_)))); all_goals (try unfold Side)
      all_goals try (repeat' (first | (with_reducible rfl) | (with_reducible refine And.intro ?_ ?_) | omega | rfl | exact Or.inl rfl | exact Or.inr rfl | exact of_decide_eq_true rfl | exact Path.imp_of (of_decide_eq_true rfl) | (focus ((try simp only [Int.reduceToNat, Int.reduceTDiv, Int.reduceTMod, minL, maxL, pickB, zHB, InK, Path.imp, List.length_replicate, List.length_set, List.length_append, List.length_cons, List.length_nil] at *); omega)) | (refine app_le rfl ?_; omega)))
      refine W.loop (fun q : Nat => ⟨[(5, .st true (.arr (.int .i64) (w : List Int))), (8, .st true (.arr (.sl (.int .i64)) (F : List (List Int)))), (16, .own 900016), (17, .lit (.int .i64 (j))), (18, .lit (.int .i64 (q)))], [(900016, .mp .i64 .bool (mpT ((F.take j).flatten ++ (F.getD j []).take q)) ((F.take j).flatten ++ (F.getD j []).take q).length)]⟩) (fun q => q ≤ (F.getD j []).length) (fun q => (F.getD j []).length - q) (0) ?_ ?_
      · refine ⟨Nat.zero_le _, ?_⟩
        refine subF.ok ?_ <;> (conv => whnf) <;> repeat' (first
 | exact trivial
 | (with_reducible rfl)
 | ((with_reducible refine And.intro ?_ ?_) <;> conv => whnf)
 | omega
 | rfl
 | (refine congrArg (SV.arr _) ?_)
 | (refine congrArg (Value.int _) ?_)
 | (refine congrArg Value.bool ?_))
        all_goals exact mp_eq (by simp)
      · intro q hq
        by_cases hql : q < (F.getD j []).length
        · obtain ⟨k1, k2, k3, k4⟩ := K1 q hql
          have hv := mpT_out k3
          have hadd := mp_add k3
          have htk := take_getD' hql
          have hno : (decide ((F.getD j []).getD q 0 < -(@List.length (Ty.int .i64).T w : Int)) || decide ((@List.length (Ty.int .i64).T w : Int) ≤ (F.getD j []).getD q 0) || (mpT ((F.take j).flatten ++ (F.getD j []).take q) ((F.getD j []).getD q 0)).getD false) = false := by rw [hv, decide_eq_false (by omega), decide_eq_false (by omega)]; rfl
          repeat' (first
 | refine W.seq ?_
 | refine W.block ?_
 | (refine W.drawPh (id := 18) tys_ok [] mixed [0, 0, 2, 4, 9, 16, 32, 32, 160, 352, 544, 1056, 2048, 2048, 14336, 18432, 34816, 65536, 65536, 458752, 589824, 1114112, 2162688, 65536, 12648448, 16842752] [([0, 1], 1, 7), ([3, 4, 5, 6, 7], 1, 511), ([9, 10, 11, 12, 13], 1, 32767), ([15, 16, 17, 18, 19, 20, 21, 22, 23, 24, 25], 0, 67108863)] (by decide +kernel) ?_; conv => whnf)
 | (refine W.region tys_ok [] ?_; conv => whnf)
 | (refine W.drawAll tys_ok [] mixed rfl ?_; conv => whnf)
 | (refine W.ret ?_; conv => whnf)
 | (refine W.skip ?_; conv => whnf)
 | (refine W.exit ?_; conv => whnf)

    | (refine Both.mk ?_ ?_ <;> (conv => whnf))
    | (refine subF.leaf ?_ <;> (conv => whnf) <;> repeat' (first
 | exact trivial
 | (with_reducible rfl)
 | ((with_reducible refine And.intro ?_ ?_) <;> conv => whnf)
 | omega
 | rfl
 | (refine congrArg (SV.arr _) ?_)
 | (refine congrArg (Value.int _) ?_)
 | (refine congrArg Value.bool ?_)))
 | (refine subF.side ?_ <;> (conv => whnf) <;> repeat' (first
 | exact trivial
 | (with_reducible rfl)
 | ((with_reducible refine And.intro ?_ ?_) <;> conv => whnf)
 | omega
 | rfl
 | (refine congrArg (SV.arr _) ?_)
 | (refine congrArg (Value.int _) ?_)
 | (refine congrArg Value.bool ?_)))
 | (refine W.cond rfl (fun hb => ?_) (fun hb => ?_) <;> (try simp only [Int.reduceToNat, Int.reduceTDiv, Int.reduceTMod, minL, maxL, pickB, zHB] at hb) <;> (try (first | (cases hb; done) | exact absurd hb (by decide) | (exfalso; omega) | (rcases hb with h | h; exact absurd (h.symm.trans hno) (by decide); omega))))
 | ((with_reducible refine And.intro ?_ ?_); (focus ((repeat' (first | (with_reducible rfl) | (with_reducible refine And.intro ?_ ?_) | omega | rfl | exact Or.inl rfl | exact Or.inr rfl | exact of_decide_eq_true rfl | exact Path.imp_of (of_decide_eq_true rfl) | (focus ((try simp only [Int.reduceToNat, Int.reduceTDiv, Int.reduceTMod, minL, maxL, pickB, zHB, InK, Path.imp, List.length_replicate, List.length_set, List.length_append, List.length_cons, List.length_nil] at *); omega)) | (refine app_le rfl ?_; omega))); done)); (conv => whnf))
 | ((with_reducible refine And.intro (Side.out ?_) ?_); rotate_left; (conv => whnf))
 | (refine retF1 ?_ <;> (conv => whnf) <;> repeat' (first
 | exact trivial
 | (with_reducible rfl)
 | ((with_reducible refine And.intro ?_ ?_) <;> conv => whnf)
 | omega
 | rfl
 | (refine congrArg (SV.arr _) ?_)
 | (refine congrArg (Value.int _) ?_)
 | (refine congrArg Value.bool ?_)))
 | (refine retF2 ?_ <;> (conv => whnf) <;> repeat' (first
 | exact trivial
 | (with_reducible rfl)
 | ((with_reducible refine And.intro ?_ ?_) <;> conv => whnf)
 | omega
 | rfl
 | (refine congrArg (SV.arr _) ?_)
 | (refine congrArg (Value.int _) ?_)
 | (refine congrArg Value.bool ?_)))); all_goals (try unfold Side)
          all_goals try (repeat' (first | (with_reducible rfl) | (with_reducible refine And.intro ?_ ?_) | omega | rfl | exact Or.inl rfl | exact Or.inr rfl | exact of_decide_eq_true rfl | exact Path.imp_of (of_decide_eq_true rfl) | (focus ((try simp only [Int.reduceToNat, Int.reduceTDiv, Int.reduceTMod, minL, maxL, pickB, zHB, InK, Path.imp, List.length_replicate, List.length_set, List.length_append, List.length_cons, List.length_nil] at *); omega)) | (refine app_le rfl ?_; omega)))
          refine ⟨q + 1, ⟨by omega, by omega⟩, ?_⟩
          refine subF.ok ?_ <;> (conv => whnf) <;> repeat' (first
 | exact trivial
 | (with_reducible rfl)
 | ((with_reducible refine And.intro ?_ ?_) <;> conv => whnf)
 | omega
 | rfl
 | (refine congrArg (SV.arr _) ?_)
 | (refine congrArg (Value.int _) ?_)
 | (refine congrArg Value.bool ?_))
          all_goals exact hadd.trans (mp_eq (by rw [htk, List.append_assoc]))
        · have hie : q = (F.getD j []).length := by omega
          subst hie
          have K7 : 0 < j → (F.getD ((j : Int) - 1).toNat []).getD 0 0 < (F.getD j []).getD 0 0 := fun h0 => by
            have h1 := H2 (j - 1) (by omega)
            rw [show j - 1 + 1 = j by omega] at h1
            rw [show ((j : Int) - 1).toNat = j - 1 by omega]
            exact h1
          have K8 : (F.take j).flatten ++ (F.getD j []).take (F.getD j []).length = (F.take (j + 1)).flatten := by rw [K6, List.take_length]
          have K9 : 0 < @List.length (Ty.int .i64).T (F.getD ((j : Int) - 1).toNat (Ty.sl (.int .i64)).dflt) := H3 _ (by omega)
          repeat' (first
 | refine W.seq ?_
 | refine W.block ?_
 | (refine W.drawPh (id := 21) tys_ok [] mixed [0, 0, 3, 4, 8, 16, 32, 64, 192, 320, 512, 512, 2560, 5632, 8704, 16896, 33280, 512, 512, 393728, 524800, 1049088, 2097664, 4260352, 8389184, 16777280] [([0, 1, 2, 3], 1, 31), ([5, 6, 7, 8, 9, 10, 11, 12, 13, 14, 15, 16, 17, 18, 19, 20, 21, 22, 23, 24, 25], 0, 67108863)] (by decide +kernel) ?_; conv => whnf)
 | (refine W.region tys_ok [] ?_; conv => whnf)
 | (refine W.drawAll tys_ok [] mixed rfl ?_; conv => whnf)
 | (refine W.ret ?_; conv => whnf)
 | (refine W.skip ?_; conv => whnf)
 | (refine W.exit ?_; conv => whnf)

    | (refine Both.mk ?_ ?_ <;> (conv => whnf))
    | (refine subF.leaf ?_ <;> (conv => whnf) <;> repeat' (first
 | exact trivial
 | (with_reducible rfl)
 | ((with_reducible refine And.intro ?_ ?_) <;> conv => whnf)
 | omega
 | rfl
 | (refine congrArg (SV.arr _) ?_)
 | (refine congrArg (Value.int _) ?_)
 | (refine congrArg Value.bool ?_)))
 | (refine subF.side ?_ <;> (conv => whnf) <;> repeat' (first
 | exact trivial
 | (with_reducible rfl)
 | ((with_reducible refine And.intro ?_ ?_) <;> conv => whnf)
 | omega
 | rfl
 | (refine congrArg (SV.arr _) ?_)
 | (refine congrArg (Value.int _) ?_)
 | (refine congrArg Value.bool ?_)))
 | (refine W.cond rfl (fun hb => ?_) (fun hb => ?_) <;> (try simp only [Int.reduceToNat, Int.reduceTDiv, Int.reduceTMod, minL, maxL, pickB, zHB] at hb) <;> (try (first | (cases hb; done) | exact absurd hb (by decide) | (exfalso; omega) | (rcases hb with h | h; omega; exact absurd h.2 (by have := K7 (by omega); omega)))))
 | ((with_reducible refine And.intro ?_ ?_); (focus ((repeat' (first | (with_reducible rfl) | (with_reducible refine And.intro ?_ ?_) | omega | rfl | exact Or.inl rfl | exact Or.inr rfl | exact of_decide_eq_true rfl | exact Path.imp_of (of_decide_eq_true rfl) | (focus ((try simp only [Int.reduceToNat, Int.reduceTDiv, Int.reduceTMod, minL, maxL, pickB, zHB, InK, Path.imp, List.length_replicate, List.length_set, List.length_append, List.length_cons, List.length_nil] at *); omega)) | (refine app_le rfl ?_; omega))); done)); (conv => whnf))
 | ((with_reducible refine And.intro (Side.out ?_) ?_); rotate_left; (conv => whnf))
 | (refine retF1 ?_ <;> (conv => whnf) <;> repeat' (first
 | exact trivial
 | (with_reducible rfl)
 | ((with_reducible refine And.intro ?_ ?_) <;> conv => whnf)
 | omega
 | rfl
 | (refine congrArg (SV.arr _) ?_)
 | (refine congrArg (Value.int _) ?_)
 | (refine congrArg Value.bool ?_)))
 | (refine retF2 ?_ <;> (conv => whnf) <;> repeat' (first
 | exact trivial
 | (with_reducible rfl)
 | ((with_reducible refine And.intro ?_ ?_) <;> conv => whnf)
 | omega
 | rfl
 | (refine congrArg (SV.arr _) ?_)
 | (refine congrArg (Value.int _) ?_)
 | (refine congrArg Value.bool ?_)))); all_goals (try unfold Side)
          all_goals try exact Path.imp_of ⟨by decide, K9⟩
          all_goals try (repeat' (first | (with_reducible rfl) | (with_reducible refine And.intro ?_ ?_) | omega | rfl | exact Or.inl rfl | exact Or.inr rfl | exact of_decide_eq_true rfl | exact Path.imp_of (of_decide_eq_true rfl) | (focus ((try simp only [Int.reduceToNat, Int.reduceTDiv, Int.reduceTMod, minL, maxL, pickB, zHB, InK, Path.imp, List.length_replicate, List.length_set, List.length_append, List.length_cons, List.length_nil] at *); omega)) | (refine app_le rfl ?_; omega)))
          refine ⟨j + 1, ⟨by omega, by omega⟩, ?_⟩
          refine subF.ok ?_ <;> (conv => whnf) <;> repeat' (first
 | exact trivial
 | (with_reducible rfl)
 | ((with_reducible refine And.intro ?_ ?_) <;> conv => whnf)
 | omega
 | rfl
 | (refine congrArg (SV.arr _) ?_)
 | (refine congrArg (Value.int _) ?_)
 | (refine congrArg Value.bool ?_))
          all_goals exact mp_eq K8
    · have hie : F.length = j := by omega
      subst hie
      have K10 : ((F.take F.length).flatten.length : Int) = 2 * @List.length (Ty.int .i64).T w := by rw [List.take_length, H4, hl]; omega
      repeat' (first
 | refine W.seq ?_
 | refine W.block ?_
 | (refine W.region tys_ok [] ?_; conv => whnf)
 | (refine W.drawAll tys_ok [] mixed rfl ?_; conv => whnf)
 | (refine W.ret ?_; conv => whnf)
 | (refine W.skip ?_; conv => whnf)
 | (refine W.exit ?_; conv => whnf)

    | (refine W.cond rfl (fun hb => ?_) (fun hb => ?_) <;> (try simp only [Int.reduceToNat, Int.reduceTDiv, Int.reduceTMod, minL, maxL, pickB, zHB] at hb) <;> (try (first | (cases hb; done) | exact absurd hb (by decide) | (exfalso; omega))))
    | ((with_reducible refine And.intro ?_ ?_); (focus ((repeat' (first | (with_reducible rfl) | (with_reducible refine And.intro ?_ ?_) | omega | rfl | exact Or.inl rfl | exact Or.inr rfl | exact of_decide_eq_true rfl | exact Path.imp_of (of_decide_eq_true rfl) | (focus ((try simp only [Int.reduceToNat, Int.reduceTDiv, Int.reduceTMod, minL, maxL, pickB, zHB, InK, Path.imp, List.length_replicate, List.length_set, List.length_append, List.length_cons, List.length_nil] at *); omega)) | (refine app_le rfl ?_; omega))); done)); (conv => whnf))
    | ((with_reducible refine And.intro (Side.out ?_) ?_); rotate_left; (conv => whnf))
    | (refine retF1 ?_ <;> (conv => whnf) <;> repeat' (first
 | exact trivial
 | (with_reducible rfl)
 | ((with_reducible refine And.intro ?_ ?_) <;> conv => whnf)
 | omega
 | rfl
 | (refine congrArg (SV.arr _) ?_)
 | (refine congrArg (Value.int _) ?_)
 | (refine congrArg Value.bool ?_)))
 | (refine retF2 ?_ <;> (conv => whnf) <;> repeat' (first
 | exact trivial
 | (with_reducible rfl)
 | ((with_reducible refine And.intro ?_ ?_) <;> conv => whnf)
 | omega
 | rfl
 | (refine congrArg (SV.arr _) ?_)
 | (refine congrArg (Value.int _) ?_)
 | (refine congrArg Value.bool ?_)))); all_goals (try unfold Side)
      all_goals try (repeat' (first | (with_reducible rfl) | (with_reducible refine And.intro ?_ ?_) | omega | rfl | exact Or.inl rfl | exact Or.inr rfl | exact of_decide_eq_true rfl | exact Path.imp_of (of_decide_eq_true rfl) | (focus ((try simp only [Int.reduceToNat, Int.reduceTDiv, Int.reduceTMod, minL, maxL, pickB, zHB, InK, Path.imp, List.length_replicate, List.length_set, List.length_append, List.length_cons, List.length_nil] at *); omega)) | (refine app_le rfl ?_; omega)))
      all_goals exact (decide_eq_true K10).symm
theorem small_wf {x : List (Int × Int × Unit)} (h : (Ty.sl U2).wf x) : small x := fun i => by
  have h2 : ∀ y ∈ x, U2.wf y := h.2
  by_cases hi : i < x.length
  · have hm : x.getD i (0, 0, ()) ∈ x := by
      have : x.getD i (0, 0, ()) = x[i] := by simp [List.getD, hi]
      rw [this]; exact List.getElem_mem hi
    have h3 := h2 _ hm
    have a := wf_u8 h3.1
    have b := wf_u8 h3.2.1
    exact ⟨a.1, a.2, b.1, b.2⟩
  · have : x.getD i (0, 0, ()) = (0, 0, ()) := by simp [List.getD, List.getElem?_eq_none (Nat.le_of_not_lt hi)]
    rw [this]; simp
end Go.Proofs.Ytdfajcfkdfjoeaa
/- A map of steps with one more face. No condition. -/
namespace Go.Scr
set_option linter.unusedVariables false
set_option linter.unusedSimpArgs false
set_option linter.unusedSectionVars false

/-- The steps of nx', but for l, lie over those of nx: φ goes there, ψ back. -/
structure Over (nx nx' : Int → Int) (m m' : Nat) (φ ψ : Int → Int) (l : Int) : Prop where
  pn : Pn nx m
  pn' : Pn nx' m'
  lr : -(m' : Int) ≤ l ∧ l < m'
  ll : nx' l = l
  φr : ∀ x, -(m : Int) ≤ x → x < m → -(m' : Int) ≤ φ x ∧ φ x < m'
  ψr : ∀ y, -(m' : Int) ≤ y → y < m' → -(m : Int) ≤ ψ y ∧ ψ y < m
  ψφ : ∀ x, -(m : Int) ≤ x → x < m → ψ (φ x) = x ∧ φ x ≠ l
  φψ : ∀ C, Cl nx' m' C → ∀ y, -(m' : Int) ≤ y → y < m' → y ≠ l → C (φ (ψ y)) = C y
  st : ∀ y, -(m' : Int) ≤ y → y < m' → y ≠ l → ψ (nx' y) = nx (ψ y) ∨ ψ (nx' y) = ψ y
  on : ∀ x, -(m : Int) ≤ x → x < m → ∃ y, -(m' : Int) ≤ y ∧ y < m' ∧ y ≠ l ∧ ψ y = x ∧ ψ (nx' y) = nx x
theorem Over.ne {nx nx' : Int → Int} {m m' : Nat} {φ ψ : Int → Int} {l : Int} (h : Over nx nx' m m' φ ψ l) {y : Int} (h0 : -(m' : Int) ≤ y) (h1 : y < m') (hy : y ≠ l) : nx' y ≠ l := fun e =>
  hy (h.pn'.inj y l h0 h1 h.lr.1 h.lr.2 (e.trans h.ll.symm))
theorem Over.down {nx nx' : Int → Int} {m m' : Nat} {φ ψ : Int → Int} {l : Int} (h : Over nx nx' m m' φ ψ l) {C : Int → Bool} (hC : Cl nx' m' C) : Cl nx m fun x => C (φ x) := fun x h0 h1 => by
  obtain ⟨y, y0, y1, yl, e1, e2⟩ := h.on x h0 h1
  have r := h.pn'.rg y y0 y1
  have k1 := h.φψ C hC y y0 y1 yl
  have k2 := h.φψ C hC (nx' y) r.1 r.2 (h.ne y0 y1 yl)
  rw [e1] at k1
  rw [e2] at k2
  show C (φ x) = C (φ (nx x))
  rw [k1, k2]; exact hC y y0 y1
theorem Over.up {nx nx' : Int → Int} {m m' : Nat} {φ ψ : Int → Int} {l : Int} (h : Over nx nx' m m' φ ψ l) {D : Int → Bool} (hD : Cl nx m D) (c : Bool) : Cl nx' m' fun y => if y = l then c else D (ψ y) := fun y h0 h1 => by
  show (if y = l then c else D (ψ y)) = if nx' y = l then c else D (ψ (nx' y))
  by_cases e : y = l
  · subst e; rw [h.ll, if_pos rfl]
  · rw [if_neg e, if_neg (h.ne h0 h1 e)]
    rcases h.st y h0 h1 e with k | k
    · have := h.ψr y h0 h1
      rw [k]; exact hD _ this.1 this.2
    · rw [k]
theorem filter_len {p : Int → Bool} : ∀ {l : List Int}, (l.filter p).length + (l.filter fun x => !p x).length = l.length
  | [] => rfl
  | x :: l => by
    have := filter_len (p := p) (l := l)
    cases h : p x <;> simp [h] <;> omega
theorem Over.faces {nx nx' : Int → Int} {m m' : Nat} {φ ψ : Int → Int} {l : Int} (h : Over nx nx' m m' φ ψ l) : (facesT nx' m').length = (facesT nx m).length + 1 := by
  have H := facesT_FK h.pn
  have H' := facesT_FK h.pn'
  have hin : ∀ f ∈ facesT nx m, -(m : Int) ≤ f.getD 0 0 ∧ f.getD 0 0 < m := fun f hf => H.rg _ (List.mem_flatten.2 ⟨f, hf, (H.fac f hf).head⟩)
  have hin' : ∀ f ∈ facesT nx' m', -(m' : Int) ≤ f.getD 0 0 ∧ f.getD 0 0 < m' := fun f hf => H'.rg _ (List.mem_flatten.2 ⟨f, hf, (H'.fac f hf).head⟩)
  refine Nat.le_antisymm ?_ ?_
  · -- the heads of the faces over, but for l, lie over steps that are kept apart
    obtain ⟨L, hL⟩ : ∃ L, L = (facesT nx' m').map fun f => f.getD 0 0 := ⟨_, rfl⟩
    have hLl : L.length = (facesT nx' m').length := by rw [hL, List.length_map]
    have hLr : ∀ y ∈ L, -(m' : Int) ≤ y ∧ y < m' := fun y hy => by
      rw [hL] at hy
      obtain ⟨f, hf, rfl⟩ := List.mem_map.1 hy
      exact hin' f hf
    have hLs : L.Pairwise fun a b => ∃ C, Cl nx' m' C ∧ C a ≠ C b := by rw [hL]; exact heads_sep h.pn'
    have hLn : L.Nodup := by
      rw [hL, List.nodup_iff_pairwise_ne]
      exact List.Pairwise.imp (fun hab => by omega) H'.inc
    have hf : L.length ≤ (L.filter fun y => !decide (y = l)).length + 1 := by
      have e1 := filter_len (p := fun y => !decide (y = l)) (l := L)
      have e2 : (L.filter fun y => !(!decide (y = l))).length ≤ 1 := by
        have := nodup_sub (l := L.filter fun y => !(!decide (y = l))) (l' := [l]) (hLn.filter _) fun x hx => by
          rw [List.mem_filter] at hx
          simpa using hx.2
        simpa using this
      omega
    have hs := sep_le h.pn (xs := (L.filter fun y => !decide (y = l)).map ψ) (fun x hx => by
      obtain ⟨y, hy, rfl⟩ := List.mem_map.1 hx
      have := hLr y (List.mem_filter.1 hy).1
      exact h.ψr y this.1 this.2) (by
      rw [List.pairwise_map]
      refine List.Pairwise.imp_of_mem (fun {a b} ha hb hab => ?_) (hLs.filter _)
      rw [List.mem_filter] at ha hb
      obtain ⟨C, hC, hne⟩ := hab
      have ra := hLr a ha.1
      have rb := hLr b hb.1
      refine ⟨fun x => C (φ x), h.down hC, ?_⟩
      show C (φ (ψ a)) ≠ C (φ (ψ b))
      rw [h.φψ C hC a ra.1 ra.2 (by simpa using ha.2), h.φψ C hC b rb.1 rb.2 (by simpa using hb.2)]
      exact hne)
    rw [List.length_map] at hs
    omega
  · have hs := sep_le h.pn' (xs := l :: ((facesT nx m).map fun f => f.getD 0 0).map φ) (fun x hx => by
      rcases List.mem_cons.1 hx with rfl | hx
      · exact h.lr
      · obtain ⟨y, hy, rfl⟩ := List.mem_map.1 hx
        obtain ⟨f, hf, rfl⟩ := List.mem_map.1 hy
        exact h.φr _ (hin f hf).1 (hin f hf).2) (by
      rw [List.pairwise_cons]
      refine ⟨fun x hx => ?_, ?_⟩
      · obtain ⟨y, hy, rfl⟩ := List.mem_map.1 hx
        obtain ⟨f, hf, rfl⟩ := List.mem_map.1 hy
        have := h.ψφ _ (hin f hf).1 (hin f hf).2
        refine ⟨_, h.up (D := fun _ => false) (fun _ _ _ => rfl) true, ?_⟩
        show (if l = l then true else false) ≠ if φ (f.getD 0 0) = l then true else false
        rw [if_pos rfl, if_neg this.2]; simp
      · rw [List.pairwise_map]
        refine List.Pairwise.imp_of_mem (fun {a b} ha hb hab => ?_) (heads_sep h.pn)
        obtain ⟨f, hf, rfl⟩ := List.mem_map.1 ha
        obtain ⟨f', hf', rfl⟩ := List.mem_map.1 hb
        obtain ⟨D, hD, hne⟩ := hab
        have k1 := h.ψφ _ (hin f hf).1 (hin f hf).2
        have k2 := h.ψφ _ (hin f' hf').1 (hin f' hf').2
        refine ⟨_, h.up hD true, ?_⟩
        show (if φ (f.getD 0 0) = l then true else D (ψ (φ (f.getD 0 0)))) ≠ if φ (f'.getD 0 0) = l then true else D (ψ (φ (f'.getD 0 0)))
        rw [if_neg k1.2, if_neg k2.2, k1.1, k2.1]; exact hne)
    simpa using hs
end Go.Scr
/- A kink: a new letter twice, side by side. No condition. -/
namespace Go.Scr
set_option linter.unusedVariables false
set_option linter.unusedSimpArgs false
set_option linter.unusedSectionVars false

def kinkT (w : List Int) (n k : Nat) : List Int := putT (putT w k n) k n
theorem kink_len {w : List Int} {n k : Nat} : (kinkT w n k).length = w.length + 2 := by rw [kinkT, putT_len, putT_len]
theorem kink_word {w : List Int} {n k : Nat} (h : Word w n) : Word (kinkT w n k) (n + 1) := word_put h
theorem kink_get {w : List Int} {n k i : Nat} (hk : k ≤ w.length) : (kinkT w n k).getD i 0 = if i < k then w.getD i 0 else if i < k + 2 then (n : Int) else w.getD (i - 2) 0 := by
  rw [kinkT, putT_get (by rw [putT_len]; omega), putT_get hk]
  by_cases h1 : i < k
  · rw [if_pos h1, if_pos h1, if_pos h1]
  · rw [if_neg h1, if_neg h1]
    by_cases h2 : i = k
    · subst h2; rw [if_pos rfl, if_pos (by omega)]
    · rw [if_neg h2, putT_get hk]
      by_cases h3 : i - 1 = k
      · rw [if_neg (by omega), if_pos h3, if_pos (by omega)]
      · rw [if_neg (by omega), if_neg h3, if_neg (by omega), show i - 1 - 1 = i - 2 by omega]
def piN (k a : Nat) : Nat := if a < k then a else a + 2
def psN (n k b : Nat) : Nat := if b < k then b else if b < k + 2 then bf n k else b - 2
def phS (k : Nat) (st : Int) : Int := if 0 ≤ st then (piN k st.toNat : Nat) else -1 - (piN k (-1 - st).toNat : Nat)
def psS (n k : Nat) (st : Int) : Int := if st = k then -1 - (bf n k : Nat) else if st = -1 - (k : Int) then (bf n k : Nat) else if 0 ≤ st then (psN n k st.toNat : Nat) else -1 - (psN n k (-1 - st).toNat : Nat)
theorem psS_f {n k b : Nat} (h : b ≠ k) : psS n k (b : Int) = (psN n k b : Nat) := by
  unfold psS; rw [if_neg (by omega), if_neg (by omega), if_pos (by omega), Int.toNat_natCast]
theorem psS_b {n k b : Nat} (h : b ≠ k) : psS n k (-1 - (b : Int)) = -1 - (psN n k b : Nat) := by
  unfold psS; rw [if_neg (by omega), if_neg (by omega), if_neg (by omega), show -1 - (-1 - (b : Int)) = b by omega, Int.toNat_natCast]
theorem phS_f {k b : Nat} : phS k (b : Int) = (piN k b : Nat) := by
  unfold phS; rw [if_pos (by omega), Int.toNat_natCast]
theorem phS_b {k b : Nat} : phS k (-1 - (b : Int)) = -1 - (piN k b : Nat) := by
  unfold phS; rw [if_neg (by omega), show -1 - (-1 - (b : Int)) = b by omega, Int.toNat_natCast]
theorem ps_pi {n k a : Nat} : psN n k (piN k a) = a ∧ piN k a ≠ k ∧ piN k a ≠ k + 1 := by
  unfold psN piN; split <;> refine ⟨?_, by omega, by omega⟩
  · rfl
  · rw [if_neg (by omega), if_neg (by omega)]; omega
theorem pi_bf {n k : Nat} (hn : 1 ≤ n) (hk : k ≤ 2 * n) : piN k (bf n k) = bf (n + 1) k ∧ bf (n + 1) k ≠ k ∧ psN n k (bf (n + 1) k) = bf n k := by
  have h1 : piN k (bf n k) = bf (n + 1) k := by
    unfold bf
    by_cases h0 : k = 0
    · rw [if_pos h0, if_pos h0]; unfold piN; rw [if_neg (by omega)]; omega
    · rw [if_neg h0, if_neg h0]; unfold piN; rw [if_pos (by omega)]
  exact ⟨h1, by unfold bf; split <;> omega, by rw [← h1]; exact ps_pi.1⟩
theorem ps_bf {n k p : Nat} (hn : 1 ≤ n) (hk : k ≤ 2 * n) (hp : p < 2 * n) : psN n k (bf (n + 1) (piN k p)) = bf n p ∧ bf (n + 1) (piN k p) ≠ k := by
  unfold piN
  by_cases h1 : p < k
  · rw [if_pos h1]
    by_cases h0 : p = 0
    · subst h0
      have e : bf (n + 1) 0 = 2 * n + 1 := by unfold bf; rw [if_pos rfl]; omega
      have e2 : bf n 0 = 2 * n - 1 := by unfold bf; rw [if_pos rfl]
      rw [e, e2]
      refine ⟨?_, by omega⟩
      unfold psN
      rw [if_neg (by omega)]
      by_cases h2 : 2 * n + 1 < k + 2
      · rw [if_pos h2]; unfold bf; rw [if_neg (by omega)]; omega
      · rw [if_neg h2]; omega
    · have e : bf (n + 1) p = p - 1 := by unfold bf; rw [if_neg h0]
      have e2 : bf n p = p - 1 := by unfold bf; rw [if_neg h0]
      rw [e, e2]
      exact ⟨by unfold psN; rw [if_pos (by omega)], by omega⟩
  · rw [if_neg h1]
    have e : bf (n + 1) (p + 2) = p + 1 := by unfold bf; rw [if_neg (by omega)]; rfl
    rw [e]
    refine ⟨?_, by omega⟩
    unfold psN
    rw [if_neg (by omega)]
    by_cases h2 : p + 1 < k + 2
    · rw [if_pos h2]
      have : p = k := by omega
      rw [this]
    · rw [if_neg h2]; unfold bf; rw [if_neg (by omega)]; omega
/-- The steps at the kink. -/
theorem kink_loop {w s' : List Int} {n k : Nat} (h : Word w n) (hk : k ≤ 2 * n) (hs' : s'.all (fun x => decide (x = 1) || decide (x = -1)) = true) (hl' : s'.length = n + 1) : s'.getD n 0 = 1 ∧ nextT (kinkT w n k) s' (bf (n + 1) k : Nat) = -1 - (k : Int) ∧ nextT (kinkT w n k) s' (-1 - (k : Int)) = ((k + 1 : Nat) : Int) ∧ nextT (kinkT w n k) s' (k : Int) = k ∧ nextT (kinkT w n k) s' (-1 - ((k + 1 : Nat) : Int)) = -1 - (bf (n + 1) k : Nat) ∨
    s'.getD n 0 = -1 ∧ nextT (kinkT w n k) s' (bf (n + 1) k : Nat) = ((k + 1 : Nat) : Int) ∧ nextT (kinkT w n k) s' (-1 - (k : Int)) = -1 - (k : Int) ∧ nextT (kinkT w n k) s' (k : Int) = -1 - (bf (n + 1) k : Nat) ∧ nextT (kinkT w n k) s' (-1 - ((k + 1 : Nat) : Int)) = k := by
  have hwl := h.len
  have hW := kink_word (k := k) h
  obtain ⟨P', Q', D⟩ := cr_of hW hs' hl' (x := n) (by omega)
  have a1 := D.all k (by omega) (by rw [kink_get (by omega), if_neg (by omega), if_pos (by omega)])
  have a2 := D.all (k + 1) (by omega) (by rw [kink_get (by omega), if_neg (by omega), if_pos (by omega)])
  have hD := D.pq
  have eP : P' = k := by omega
  have eQ : Q' = k + 1 := by omega
  have hDn := D.nx
  have hb : bf (n + 1) (k + 1) = k := by unfold bf; rw [if_neg (by omega)]; rfl
  rw [eP, eQ, hb] at hDn
  exact hDn
section
variable {w s s' : List Int} {n k : Nat} (h : Word w n) (hk : k ≤ 2 * n) (hs : s.all (fun x => decide (x = 1) || decide (x = -1)) = true) (hl : s.length = n)
  (hs' : s'.all (fun x => decide (x = 1) || decide (x = -1)) = true) (hl' : s'.length = n + 1) (he : ∀ v, v < n → s'.getD v 0 = s.getD v 0)
include h hk hs hl hs' hl' he
/-- At the other crossings all is as before. -/
theorem kink_at {p : Nat} (hp : p < 2 * n) : psS n k (bf (n + 1) (piN k p) : Nat) = (bf n p : Nat) ∧ psS n k (nextT (kinkT w n k) s' (bf (n + 1) (piN k p) : Nat)) = nextT w s (bf n p : Nat) ∧
    psS n k (-1 - (piN k p : Nat)) = -1 - (p : Int) ∧ psS n k (nextT (kinkT w n k) s' (-1 - (piN k p : Nat))) = nextT w s (-1 - (p : Int)) := by
  have hpos := h.pos
  have hwl := h.len
  have hW := kink_word (k := k) h
  obtain ⟨x, hx, hwx⟩ : ∃ x : Nat, x < n ∧ w.getD p 0 = x := by
    have := h.rg p hp
    exact ⟨(w.getD p 0).toNat, by omega, by omega⟩
  obtain ⟨P, Q, C⟩ := cr_of h hs hl hx
  obtain ⟨P', Q', D⟩ := cr_of hW hs' hl' (x := x) (by omega)
  have hget : ∀ i, i < 2 * n → (kinkT w n k).getD (piN k i) 0 = w.getD i 0 := fun i hi => by
    rw [kink_get (by omega)]
    unfold piN
    split
    · rfl
    · rename_i h1; rw [if_neg (by omega), if_neg (by omega)]; rfl
  have hpil : ∀ i, i < 2 * n → piN k i < 2 * (n + 1) := fun i hi => by unfold piN; split <;> omega
  have hpim : ∀ i j, i < j → piN k i < piN k j := fun i j hij => by unfold piN; split <;> split <;> omega
  have hPQ := C.pq
  have hQl := C.hq
  have a1 := D.all (piN k P) (hpil P (by omega)) (by rw [hget P (by omega)]; exact C.wp)
  have a2 := D.all (piN k Q) (hpil Q hQl) (by rw [hget Q hQl]; exact C.wq)
  have a3 := hpim P Q hPQ
  have hD := D.pq
  have eP : P' = piN k P := by omega
  have eQ : Q' = piN k Q := by omega
  have hDn := D.nx
  rw [eP, eQ, he x hx] at hDn
  have hCn := C.nx
  have bP := ps_bf (k := k) hpos hk (show P < 2 * n by omega)
  have bQ := ps_bf (k := k) hpos hk hQl
  have iP := ps_pi (n := n) (k := k) (a := P)
  have iQ := ps_pi (n := n) (k := k) (a := Q)
  have g1 := psS_f (n := n) bP.2; have g2 := psS_f (n := n) bQ.2; have g3 := psS_b (n := n) bP.2; have g4 := psS_b (n := n) bQ.2
  have g5 := psS_f (n := n) iP.2.1; have g6 := psS_f (n := n) iQ.2.1; have g7 := psS_b (n := n) iP.2.1; have g8 := psS_b (n := n) iQ.2.1
  rw [bP.1] at g1 g3
  rw [bQ.1] at g2 g4
  rw [iP.1] at g5 g7
  rw [iQ.1] at g6 g8
  rcases C.all p hp hwx with rfl | rfl
  · refine ⟨g1, ?_, g7, ?_⟩
    · rcases hCn with ⟨e, c1, c2, c3, c4⟩ | ⟨e, c1, c2, c3, c4⟩
      · rcases hDn with ⟨_, d1, d2, d3, d4⟩ | ⟨e', _⟩
        · rw [c1, d1, g4]
        · rw [e] at e'; cases e'
      · rcases hDn with ⟨e', _⟩ | ⟨_, d1, d2, d3, d4⟩
        · rw [e] at e'; cases e'
        · rw [c1, d1, g6]
    · rcases hCn with ⟨e, c1, c2, c3, c4⟩ | ⟨e, c1, c2, c3, c4⟩
      · rcases hDn with ⟨_, d1, d2, d3, d4⟩ | ⟨e', _⟩
        · rw [c2, d2, g6]
        · rw [e] at e'; cases e'
      · rcases hDn with ⟨e', _⟩ | ⟨_, d1, d2, d3, d4⟩
        · rw [e] at e'; cases e'
        · rw [c2, d2, g4]
  · refine ⟨g2, ?_, g8, ?_⟩
    · rcases hCn with ⟨e, c1, c2, c3, c4⟩ | ⟨e, c1, c2, c3, c4⟩
      · rcases hDn with ⟨_, d1, d2, d3, d4⟩ | ⟨e', _⟩
        · rw [c3, d3, g5]
        · rw [e] at e'; cases e'
      · rcases hDn with ⟨e', _⟩ | ⟨_, d1, d2, d3, d4⟩
        · rw [e] at e'; cases e'
        · rw [c3, d3, g3]
    · rcases hCn with ⟨e, c1, c2, c3, c4⟩ | ⟨e, c1, c2, c3, c4⟩
      · rcases hDn with ⟨_, d1, d2, d3, d4⟩ | ⟨e', _⟩
        · rw [c4, d4, g3]
        · rw [e] at e'; cases e'
      · rcases hDn with ⟨e', _⟩ | ⟨_, d1, d2, d3, d4⟩
        · rw [e] at e'; cases e'
        · rw [c4, d4, g5]
theorem kink_over : Over (nextT w s) (nextT (kinkT w n k) s') (2 * n) (2 * (n + 1)) (phS k) (psS n k) (if s'.getD n 0 = 1 then (k : Int) else -1 - (k : Int)) := by
  have hpos := h.pos
  have hW := kink_word (k := k) h
  have hat := fun p (hp : p < 2 * n) => kink_at h hk hs hl hs' hl' he hp
  have hlp := kink_loop h hk hs' hl'
  have pn' := next_pn hW hs' hl'
  obtain ⟨nx, hnx⟩ : ∃ nx, nx = nextT (kinkT w n k) s' := ⟨_, rfl⟩
  rw [← hnx] at hat hlp pn' ⊢
  clear hnx
  obtain ⟨b1, b2, b3⟩ := pi_bf (k := k) hpos hk
  have hbl : bf n k < 2 * n := by unfold bf; split <;> omega
  have hbl' := bf_lt (n := n + 1) (a := k) (by omega)
  obtain ⟨a, ha⟩ : ∃ a, a = bf (n + 1) k := ⟨_, rfl⟩
  obtain ⟨sp, hsp⟩ : ∃ sp, sp = bf n k := ⟨_, rfl⟩
  rw [← ha] at hlp b1 b2 b3 hbl'
  rw [← hsp] at b1 b3 hbl
  have pk : psS n k (k : Int) = -1 - (sp : Int) := by unfold psS; rw [if_pos rfl, hsp]
  have pk' : psS n k (-1 - (k : Int)) = sp := by unfold psS; rw [if_neg (by omega), if_pos rfl, hsp]
  have pk1 : psS n k ((k + 1 : Nat) : Int) = sp := by rw [psS_f (by omega)]; unfold psN; rw [if_neg (by omega), if_pos (by omega), hsp]
  have pk1' : psS n k (-1 - ((k + 1 : Nat) : Int)) = -1 - (sp : Int) := by rw [psS_b (by omega)]; unfold psN; rw [if_neg (by omega), if_pos (by omega), hsp]
  have pa : psS n k (a : Int) = sp := by rw [psS_f b2, b3]
  have pa' : psS n k (-1 - (a : Int)) = -1 - (sp : Int) := by rw [psS_b b2, b3]
  have fs : phS k (sp : Int) = a := by rw [phS_f, b1]
  have fs' : phS k (-1 - (sp : Int)) = -1 - (a : Int) := by rw [phS_b, b1]
  -- a step ends at the kink, or at another position
  have cas : ∀ y, -((2 * (n + 1) : Nat) : Int) ≤ y → y < (2 * (n + 1) : Nat) → y = a ∨ y = -1 - (k : Int) ∨ y = k ∨ y = -1 - ((k + 1 : Nat) : Int) ∨ ∃ p, p < 2 * n ∧ (y = (bf (n + 1) (piN k p) : Nat) ∨ y = -1 - (piN k p : Nat)) := fun y h0 h1 => by
    obtain ⟨q0, q1⟩ := atT_lt (m := 2 * (n + 1)) (st := y) (by omega) h0 h1
    obtain ⟨q, hq⟩ : ∃ q : Nat, atT (2 * (n + 1)) y = q := ⟨(atT (2 * (n + 1)) y).toNat, by omega⟩
    have hql : q < 2 * (n + 1) := by omega
    have hc := at_cases hql h0 h1 hq
    by_cases e1 : q = k
    · subst e1; rw [← ha] at hc; rcases hc with hc | hc
      · exact .inl hc
      · exact .inr (.inl hc)
    · by_cases e2 : q = k + 1
      · subst e2
        have hb : bf (n + 1) (k + 1) = k := by unfold bf; rw [if_neg (by omega)]; rfl
        rw [hb] at hc
        rcases hc with hc | hc
        · exact .inr (.inr (.inl hc))
        · exact .inr (.inr (.inr (.inl hc)))
      · refine .inr (.inr (.inr (.inr ⟨if q < k then q else q - 2, by split <;> omega, ?_⟩)))
        have : piN k (if q < k then q else q - 2) = q := by
          unfold piN
          by_cases h3 : q < k
          · rw [if_pos h3, if_pos h3]
          · rw [if_neg h3, if_neg (by omega)]; omega
        rw [this]; exact hc
  have hpil : ∀ i, i < 2 * n → piN k i < 2 * (n + 1) := fun i hi => by unfold piN; split <;> omega
  have ψr : ∀ y, -((2 * (n + 1) : Nat) : Int) ≤ y → y < (2 * (n + 1) : Nat) → -((2 * n : Nat) : Int) ≤ psS n k y ∧ psS n k y < (2 * n : Nat) := fun y h0 h1 => by
    rcases cas y h0 h1 with e | e | e | e | ⟨p, hp, e | e⟩
    · rw [e, pa]; omega
    · rw [e, pk']; omega
    · rw [e, pk]; omega
    · rw [e, pk1']; omega
    · rw [e, (hat p hp).1]; have := bf_lt hp; omega
    · rw [e, (hat p hp).2.2.1]; omega
  have ψφ : ∀ x, -((2 * n : Nat) : Int) ≤ x → x < (2 * n : Nat) → psS n k (phS k x) = x ∧ phS k x ≠ k ∧ phS k x ≠ -1 - (k : Int) := fun x h0 h1 => by
    by_cases hx : 0 ≤ x
    · obtain ⟨b, rfl⟩ : ∃ b : Nat, x = b := ⟨x.toNat, by omega⟩
      have := ps_pi (n := n) (k := k) (a := b)
      rw [phS_f, psS_f this.2.1, this.1]
      exact ⟨rfl, by omega, by omega⟩
    · obtain ⟨b, rfl⟩ : ∃ b : Nat, x = -1 - (b : Int) := ⟨(-1 - x).toNat, by omega⟩
      have := ps_pi (n := n) (k := k) (a := b)
      rw [phS_b, psS_b this.2.1, this.1]
      exact ⟨rfl, by omega, by omega⟩
  have ra : -((2 * (n + 1) : Nat) : Int) ≤ (a : Int) ∧ (a : Int) < (2 * (n + 1) : Nat) := by omega
  have φψ' : ∀ C, Cl nx (2 * (n + 1)) C → ∀ y, -((2 * (n + 1) : Nat) : Int) ≤ y → y < (2 * (n + 1) : Nat) → y ≠ (if s'.getD n 0 = 1 then (k : Int) else -1 - (k : Int)) → C (phS k (psS n k y)) = C y := fun C hC y h0 h1 hy => by
    have c1 := hC (a : Int) ra.1 ra.2
    have c2 := hC (-1 - (k : Int)) (by omega) (by omega)
    have c3 := hC (k : Int) (by omega) (by omega)
    have c4 := hC (-1 - ((k + 1 : Nat) : Int)) (by omega) (by omega)
    by_cases e0 : y = k
    · rw [e0, pk, fs']
      rcases hlp with ⟨e, d1, d2, d3, d4⟩ | ⟨e, d1, d2, d3, d4⟩
      · rw [if_pos e] at hy; exact absurd e0 hy
      · rw [d3] at c3; exact c3.symm
    · by_cases e1 : y = -1 - (k : Int)
      · rw [e1, pk', fs]
        rcases hlp with ⟨e, d1, d2, d3, d4⟩ | ⟨e, d1, d2, d3, d4⟩
        · rw [d1] at c1; exact c1
        · rw [if_neg (by rw [e]; decide)] at hy; exact absurd e1 hy
      · by_cases e2 : y = ((k + 1 : Nat) : Int)
        · rw [e2, pk1, fs]
          rcases hlp with ⟨e, d1, d2, d3, d4⟩ | ⟨e, d1, d2, d3, d4⟩
          · rw [d1] at c1; rw [d2] at c2; rw [c1, c2]
          · rw [d1] at c1; exact c1
        · by_cases e3 : y = -1 - ((k + 1 : Nat) : Int)
          · rw [e3, pk1', fs']
            rcases hlp with ⟨e, d1, d2, d3, d4⟩ | ⟨e, d1, d2, d3, d4⟩
            · rw [d4] at c4; exact c4.symm
            · rw [d3] at c3; rw [d4] at c4; rw [c4, c3]
          · -- elsewhere one is the other's inverse
            have key : ∀ b : Nat, b ≠ k → b ≠ k + 1 → piN k (psN n k b) = b := fun b h1 h2 => by
              unfold psN
              by_cases h3 : b < k
              · rw [if_pos h3]; unfold piN; rw [if_pos h3]
              · rw [if_neg h3, if_neg (by omega)]; unfold piN; rw [if_neg (by omega)]; omega
            by_cases hx : 0 ≤ y
            · obtain ⟨b, rfl⟩ : ∃ b : Nat, y = b := ⟨y.toNat, by omega⟩
              rw [psS_f (by omega), phS_f, key b (by omega) (by omega)]
            · obtain ⟨b, rfl⟩ : ∃ b : Nat, y = -1 - (b : Int) := ⟨(-1 - y).toNat, by omega⟩
              rw [psS_b (by omega), phS_b, key b (by omega) (by omega)]
  refine ⟨next_pn h hs hl, pn', by split <;> omega, ?_, fun x h0 h1 => ?_, ψr, fun x h0 h1 => ⟨(ψφ x h0 h1).1, by split; exact (ψφ x h0 h1).2.1; exact (ψφ x h0 h1).2.2⟩, φψ', fun y h0 h1 hy => ?_, fun x h0 h1 => ?_⟩
  · rcases hlp with ⟨e, d1, d2, d3, d4⟩ | ⟨e, d1, d2, d3, d4⟩
    · rw [if_pos e]; exact d3
    · rw [if_neg (by rw [e]; decide)]; exact d2
  · by_cases hx : 0 ≤ x
    · obtain ⟨b, rfl⟩ : ∃ b : Nat, x = b := ⟨x.toNat, by omega⟩
      have := hpil b (by omega)
      rw [phS_f]; omega
    · obtain ⟨b, rfl⟩ : ∃ b : Nat, x = -1 - (b : Int) := ⟨(-1 - x).toNat, by omega⟩
      have := hpil b (by omega)
      rw [phS_b]; omega
  · rcases cas y h0 h1 with e | e | e | e | ⟨p, hp, e | e⟩
    · right
      rcases hlp with ⟨_, d1, d2, d3, d4⟩ | ⟨_, d1, d2, d3, d4⟩
      · rw [e, d1, pk', pa]
      · rw [e, d1, pk1, pa]
    · right
      rcases hlp with ⟨_, d1, d2, d3, d4⟩ | ⟨_, d1, d2, d3, d4⟩
      · rw [e, d2, pk1, pk']
      · rw [e, d2]
    · right
      rcases hlp with ⟨_, d1, d2, d3, d4⟩ | ⟨_, d1, d2, d3, d4⟩
      · rw [e, d3]
      · rw [e, d3, pa', pk]
    · right
      rcases hlp with ⟨_, d1, d2, d3, d4⟩ | ⟨_, d1, d2, d3, d4⟩
      · rw [e, d4, pa', pk1']
      · rw [e, d4, pk, pk1']
    · left; rw [e, (hat p hp).1]; exact (hat p hp).2.1
    · left; rw [e, (hat p hp).2.2.1]; exact (hat p hp).2.2.2
  · obtain ⟨q0, q1⟩ := atT_lt (m := 2 * n) (st := x) (by omega) h0 h1
    obtain ⟨p, hp⟩ : ∃ p : Nat, atT (2 * n) x = p := ⟨(atT (2 * n) x).toNat, by omega⟩
    have hpl : p < 2 * n := by omega
    have hbf := ps_bf (k := k) hpos hk hpl
    have hpi := ps_pi (n := n) (k := k) (a := p)
    have hbl2 := bf_lt (n := n + 1) (a := piN k p) (hpil p hpl)
    have hpl2 := hpil p hpl
    rcases at_cases hpl h0 h1 hp with e | e
    · refine ⟨(bf (n + 1) (piN k p) : Nat), by omega, by omega, by split <;> omega, ?_, ?_⟩
      · rw [(hat p hpl).1, e]
      · rw [(hat p hpl).2.1, e]
    · refine ⟨-1 - (piN k p : Nat), by omega, by omega, by split <;> omega, ?_, ?_⟩
      · rw [(hat p hpl).2.2.1, e]
      · rw [(hat p hpl).2.2.2, e]
/-- A kink adds one face. -/
theorem kink_faces : (facesT (nextT (kinkT w n k) s') (2 * (n + 1))).length = (facesT (nextT w s) (2 * n)).length + 1 := (kink_over h hk hs hl hs' hl' he).faces
theorem kink_genus : genusT (n + 1) (kinkT w n k) s' = genusT n w s := by
  have := kink_faces h hk hs hl hs' hl' he
  unfold genusT
  rw [this]; congr 1; omega
end
end Go.Scr
/- The least genus: it is one of the signs', and no other is less. No condition. -/
namespace Go.Scr
set_option linter.unusedVariables false
set_option linter.unusedSimpArgs false
set_option linter.unusedSectionVars false

theorem leastK_in {n : Nat} {w : List Int} (hn : 1 ≤ n) : ∀ {k : Nat}, 1 ≤ k → ∃ j, j < k ∧ leastK n w k = (genusT n w (sgT n j), sgT n j)
  | k + 1, _ => by
    by_cases h : (leastK n w k).2 = [] ∨ genusT n w (sgT n k) < (leastK n w k).1
    · exact ⟨k, Nat.lt_succ_self k, leastK_yes h⟩
    · rw [leastK_no h]
      have hk : 1 ≤ k := by
        refine Nat.pos_of_ne_zero fun e => ?_
        subst e
        exact h (.inl rfl)
      obtain ⟨j, hj, e⟩ := leastK_in hn hk
      exact ⟨j, by omega, e⟩
theorem leastK_le {n : Nat} {w : List Int} (hn : 1 ≤ n) : ∀ {k j : Nat}, j < k → (leastK n w k).1 ≤ genusT n w (sgT n j)
  | k + 1, j, hj => by
    by_cases h : (leastK n w k).2 = [] ∨ genusT n w (sgT n k) < (leastK n w k).1
    · rw [leastK_yes h]
      by_cases e : j = k
      · subst e; exact Int.le_refl _
      · have hk : 1 ≤ k := by omega
        obtain ⟨i, _, he⟩ := leastK_in (w := w) hn hk
        have h1 := leastK_le (w := w) hn (k := k) (j := j) (by omega)
        rcases h with h | h
        · rw [he] at h
          have := congrArg List.length h
          rw [sgT_len] at this; simp at this; omega
        · exact Int.le_trans (Int.le_of_lt h) h1
    · rw [leastK_no h]
      by_cases e : j = k
      · subst e
        exact Int.not_lt.1 fun hl => h (.inr hl)
      · exact leastK_le hn (by omega)
theorem leastT_in {n : Nat} {w : List Int} (hn : 1 ≤ n) : ∃ j, j < 2 ^ n ∧ leastT n w = (genusT n w (sgT n j), sgT n j) := leastK_in hn Nat.one_le_two_pow
theorem leastT_le {n : Nat} {w : List Int} (hn : 1 ≤ n) {j : Nat} (hj : j < 2 ^ n) : (leastT n w).1 ≤ genusT n w (sgT n j) := leastK_le hn hj
/-- All signs are tried. -/
theorem sgT_of {n : Nat} : ∀ {s : List Int}, s.length = n → s.all (fun x => decide (x = 1) || decide (x = -1)) = true → ∃ j, j < 2 ^ n ∧ s = sgT n j := by
  intro s hl hs
  -- the number whose bits are the signs
  have key : ∀ (m : Nat) (t : List Int), t.length = m → t.all (fun x => decide (x = 1) || decide (x = -1)) = true → ∃ j, j < 2 ^ m ∧ ∀ i, i < m → t.getD i 0 = sgAt m j i := by
    intro m
    induction m with
    | zero => intro t _ _; exact ⟨0, by simp, by omega⟩
    | succ m ih =>
      intro t ht ha
      match t, ht, ha with
      | x :: r, ht, ha =>
        simp only [List.all_cons, Bool.and_eq_true, Bool.or_eq_true, decide_eq_true_eq] at ha
        obtain ⟨j, hj, hi⟩ := ih r (by simpa using ht) ha.2
        have tail : ∀ c, ∀ i, i < m → sgAt (m + 1) (2 ^ m * c + j) (i + 1) = sgAt m j i := fun c i him => by
          unfold sgAt bitT
          rw [show m + 1 - 1 - (i + 1) = m - 1 - i by omega]
          obtain ⟨b, hb⟩ : ∃ b, m = (m - 1 - i) + (b + 1) := ⟨i, by omega⟩
          have e : 2 ^ m * c = 2 ^ (m - 1 - i) * (2 * (2 ^ b * c)) := by
            conv => lhs; rw [hb]
            rw [Nat.pow_add, Nat.pow_succ, Nat.mul_assoc, Nat.mul_comm (2 ^ b) 2, Nat.mul_assoc]
          rw [e, Nat.mul_add_div (Nat.two_pow_pos _)]
          have : ∀ a b : Nat, (2 * a + b) % 2 = b % 2 := fun a b => by omega
          rw [this]
        have head : ∀ c, c ≤ 1 → bitT (2 ^ m * c + j) m = c := fun c hc => by
          unfold bitT
          rw [Nat.mul_add_div (Nat.two_pow_pos _), Nat.div_eq_of_lt hj]; omega
        rcases ha.1 with hx | hx
        · refine ⟨2 ^ m * 0 + j, by rw [Nat.pow_succ]; omega, fun i hi' => ?_⟩
          match i with
          | 0 => 
            show x = sgAt (m + 1) _ 0
            unfold sgAt
            rw [show m + 1 - 1 - 0 = m by omega, head 0 (by omega), hx]; rfl
          | i + 1 => rw [tail 0 i (by omega)]; exact hi i (by omega)
        · refine ⟨2 ^ m * 1 + j, by rw [Nat.pow_succ]; omega, fun i hi' => ?_⟩
          match i with
          | 0 =>
            show x = sgAt (m + 1) _ 0
            unfold sgAt
            rw [show m + 1 - 1 - 0 = m by omega, head 1 (by omega), hx]; rfl
          | i + 1 => rw [tail 1 i (by omega)]; exact hi i (by omega)
  obtain ⟨j, hj, hi⟩ := key n s hl hs
  refine ⟨j, hj, ?_⟩
  refine List.ext_getElem (by rw [sgT_len]; exact hl) fun i h1 h2 => ?_
  have h3 := hi i (by omega)
  have h4 := sgT_get (n := n) (k := j) (i := i) (by omega)
  simp only [List.getD_eq_getElem?_getD, List.getElem?_eq_getElem h1, List.getElem?_eq_getElem h2, Option.getD_some] at h3 h4
  rw [h3, h4]
/-- The least genus of a word is the least over all lists of signs. -/
theorem leastT_min {n : Nat} {w s : List Int} (hn : 1 ≤ n) (hl : s.length = n) (hs : s.all (fun x => decide (x = 1) || decide (x = -1)) = true) : (leastT n w).1 ≤ genusT n w s := by
  obtain ⟨j, hj, e⟩ := sgT_of hl hs
  rw [e]; exact leastT_le hn hj
end Go.Scr
/- A kink changes neither the least genus, nor which letters are interlaced. No condition. -/
namespace Go.Scr
set_option linter.unusedVariables false
set_option linter.unusedSimpArgs false
set_option linter.unusedSectionVars false

theorem all_app {s : List Int} {e : Int} (hs : s.all (fun x => decide (x = 1) || decide (x = -1)) = true) (he : e = 1 ∨ e = -1) : (s ++ [e]).all (fun x => decide (x = 1) || decide (x = -1)) = true := by
  rw [List.all_append, hs]; rcases he with rfl | rfl <;> rfl
theorem getD_snoc {s : List Int} {e : Int} {v : Nat} (h : v < s.length) : (s ++ [e]).getD v 0 = s.getD v 0 := by rw [getD_app, if_pos h]
theorem kink_genus_app {w s : List Int} {n k : Nat} {e : Int} (h : Word w n) (hk : k ≤ 2 * n) (hs : s.all (fun x => decide (x = 1) || decide (x = -1)) = true) (hl : s.length = n) (he : e = 1 ∨ e = -1) : genusT (n + 1) (kinkT w n k) (s ++ [e]) = genusT n w s :=
  kink_genus h hk hs hl (all_app hs he) (by simp [hl]) fun v hv => getD_snoc (by omega)
theorem kink_least {w : List Int} {n k : Nat} (h : Word w n) (hk : k ≤ 2 * n) : (leastT (n + 1) (kinkT w n k)).1 = (leastT n w).1 := by
  have hpos := h.pos
  obtain ⟨j, hj, e⟩ := leastT_in (n := n) (w := w) hpos
  obtain ⟨i, hi, e'⟩ := leastT_in (n := n + 1) (w := kinkT w n k) (by omega)
  refine Int.le_antisymm ?_ ?_
  · have := leastT_min (n := n + 1) (w := kinkT w n k) (s := sgT n j ++ [1]) (by omega) (by simp [sgT_len]) (all_app sgT_all (.inl rfl))
    rw [kink_genus_app h hk sgT_all sgT_len (.inl rfl)] at this
    rw [e]; exact this
  · have ht := sgT_all (n := n + 1) (k := i)
    have htl := sgT_len (n := n + 1) (k := i)
    obtain ⟨t, et⟩ : ∃ t, t = sgT (n + 1) i := ⟨_, rfl⟩
    rw [← et] at ht htl e'
    have hsa : (t.take n).all (fun x => decide (x = 1) || decide (x = -1)) = true := by
      rw [List.all_eq_true] at ht ⊢
      exact fun x hx => ht x (List.mem_of_mem_take hx)
    have hsl : (t.take n).length = n := by rw [List.length_take]; omega
    have hg := kink_genus (k := k) h hk hsa hsl ht htl fun v hv => by
      simp only [List.getD_eq_getElem?_getD, List.getElem?_take, if_pos hv]
    have := leastT_min (n := n) (w := w) hpos hsl hsa
    rw [e']
    show (leastT n w).1 ≤ genusT (n + 1) (kinkT w n k) t
    rw [hg]; exact this
section
variable {w : List Int} {n k : Nat} (h : Word w n) (hk : k ≤ 2 * n)
include h hk
theorem kink_places {x : Nat} (hx : x < n) : ∃ p q : Nat, p < q ∧ q < 2 * n ∧ placesT w x = [(p : Int), (q : Int)] ∧ w.getD p 0 = x ∧ w.getD q 0 = x ∧ (∀ i, i < 2 * n → w.getD i 0 = x → i = p ∨ i = q) ∧
    piN k p < piN k q ∧ piN k q < 2 * (n + 1) ∧ placesT (kinkT w n k) x = [(piN k p : Int), (piN k q : Int)] ∧ (kinkT w n k).getD (piN k p) 0 = x ∧ (kinkT w n k).getD (piN k q) 0 = x ∧ (∀ i, i < 2 * (n + 1) → (kinkT w n k).getD i 0 = x → i = piN k p ∨ i = piN k q) := by
  have hwl := h.len
  obtain ⟨p, q, hpq, hq, hA, hp1, hq1, hall⟩ := h.places hx
  obtain ⟨p', q', hpq', hq', hA', hp1', hq1', hall'⟩ := (kink_word (k := k) h).places (v := x) (by omega)
  have hget : ∀ i, i < 2 * n → (kinkT w n k).getD (piN k i) 0 = w.getD i 0 := fun i hi => by
    rw [kink_get (by omega)]
    unfold piN
    split
    · rfl
    · rename_i h1; rw [if_neg (by omega), if_neg (by omega)]; rfl
  have hpil : ∀ i, i < 2 * n → piN k i < 2 * (n + 1) := fun i hi => by unfold piN; split <;> omega
  have hpim : ∀ i j, i < j → piN k i < piN k j := fun i j hij => by unfold piN; split <;> split <;> omega
  have a1 := hall' (piN k p) (hpil p (by omega)) (by rw [hget p (by omega)]; exact hp1)
  have a2 := hall' (piN k q) (hpil q hq) (by rw [hget q hq]; exact hq1)
  have a3 := hpim p q hpq
  have eP : p' = piN k p := by omega
  have eQ : q' = piN k q := by omega
  rw [eP, eQ] at hA' hall'
  rw [eP] at hp1'
  rw [eQ] at hq1'
  exact ⟨p, q, hpq, hq, hA, hp1, hq1, hall, a3, hpil q hq, hA', hp1', hq1', hall'⟩
theorem kink_inter {a b : Nat} (ha : a < n) (hb : b < n) : interT (kinkT w n k) a b = interT w a b := by
  obtain ⟨p, q, hpq, hq, hA, hp1, hq1, hallA, hpq', hq', hA', hp1', hq1', hallA'⟩ := kink_places h hk ha
  obtain ⟨r, s, hrs, hs, hB, hr1, hs1, hallB, hrs', hs', hB', hr1', hs1', hallB'⟩ := kink_places h hk hb
  rw [inter_places h ha hb hA hB hpq hq hrs hs hp1 hq1 hr1 hs1 hallB, inter_places (kink_word (k := k) h) (a := a) (b := b) (by omega) (by omega) hA' hB' hpq' hq' hrs' hs' hp1' hq1' hr1' hs1' hallB']
  have key : ∀ i j : Nat, ((piN k i : Nat) : Int) < (piN k j : Nat) ↔ (i : Int) < j := fun i j => by unfold piN; split <;> split <;> omega
  simp only [key]
theorem kink_inter_n {a : Nat} (ha : a < n) : interT (kinkT w n k) a n = false := by
  have hwl := h.len
  obtain ⟨p, q, hpq, hq, hA, hp1, hq1, hallA, hpq', hq', hA', hp1', hq1', hallA'⟩ := kink_places h hk ha
  obtain ⟨r, s, hrs, hs, hB, hr1, hs1, hallB⟩ := (kink_word (k := k) h).places (v := n) (by omega)
  have a1 := hallB k (by omega) (by rw [kink_get (by omega), if_neg (by omega), if_pos (by omega)])
  have a2 := hallB (k + 1) (by omega) (by rw [kink_get (by omega), if_neg (by omega), if_pos (by omega)])
  have er : r = k := by omega
  have es : s = k + 1 := by omega
  rw [inter_places (kink_word (k := k) h) (a := a) (b := n) (by omega) (by omega) hA' hB hpq' hq' hrs hs hp1' hq1' hr1 hs1 hallB, er, es]
  have key1 : ∀ i : Nat, decide (((piN k i : Nat) : Int) < (k : Int)) = decide (i < k) := fun i => by rw [decide_eq_decide]; unfold piN; split <;> omega
  have key2 : ∀ i : Nat, decide (((piN k i : Nat) : Int) < ((k + 1 : Nat) : Int)) = decide (i < k) := fun i => by rw [decide_eq_decide]; unfold piN; split <;> omega
  have key3 : ∀ i : Nat, decide ((k : Int) < ((piN k i : Nat) : Int)) = !decide (i < k) := fun i => by
    rw [← decide_not, decide_eq_decide]; unfold piN; split <;> omega
  have key4 : ∀ i : Nat, decide (((k + 1 : Nat) : Int) < ((piN k i : Nat) : Int)) = !decide (i < k) := fun i => by
    rw [← decide_not, decide_eq_decide]; unfold piN; split <;> omega
  rw [key1, key2, key3, key4]
  simp
theorem kink_n_inter {a : Nat} (ha : a < n) : interT (kinkT w n k) n a = false := by
  rw [inter_symm (kink_word (k := k) h) (a := n) (b := a) (by omega) (by omega)]; exact kink_inter_n h hk ha
theorem kink_both {x y : Nat} (hx : x < n) (hy : y < n) : cmnK (kinkT w n k) x y (n + 1) = cmnK w x y n := by
  rw [cmnK_no (by rw [kink_inter_n h hk hx]; rfl)]
  have : ∀ j, j ≤ n → cmnK (kinkT w n k) x y j = cmnK w x y j := by
    intro j
    induction j with
    | zero => intro _; rfl
    | succ j ih =>
      intro hj
      rw [cmnK, cmnK, ih (by omega), kink_inter h hk hx (by omega), kink_inter h hk hy (by omega)]
  exact this n (Nat.le_refl _)
theorem kink_both_n {y : Nat} : cmnK (kinkT w n k) n y (n + 1) = 0 := by
  have : ∀ j, j ≤ n + 1 → cmnK (kinkT w n k) n y j = 0 := by
    intro j
    induction j with
    | zero => intro _; rfl
    | succ j ih =>
      intro hj
      have hf : interT (kinkT w n k) n j = false := by
        by_cases e : j = n
        · subst e; exact inter_self
        · exact kink_n_inter h hk (by omega)
      rw [cmnK, ih (by omega), hf]; rfl
  exact this _ (Nat.le_refl _)
theorem kink_drawn : drawnB (kinkT w n k) (n + 1) = drawnB w n := by
  have hiff : DrawnP (kinkT w n k) (n + 1) ↔ DrawnP w n := by
    constructor
    · rintro ⟨h1, h2, d, h3⟩
      refine ⟨fun a ha => ?_, fun a b hba ha => ?_, d, fun x y hx hy hg => ?_⟩
      · have := h1 a (by omega)
        unfold C1 at this ⊢
        rw [kink_both h hk ha ha] at this; exact this
      · have := h2 a b hba (by omega)
        unfold C2 at this ⊢
        rw [kink_inter h hk ha (by omega), kink_both h hk ha (by omega)] at this; exact this
      · have := h3 x y (by omega) (by omega) (by unfold gD at hg ⊢; rw [kink_inter h hk hx hy]; exact hg)
        unfold eD at this ⊢
        rw [kink_both h hk hx hy] at this; exact this
    · rintro ⟨h1, h2, d, h3⟩
      refine ⟨fun a ha => ?_, fun a b hba ha => ?_, d, fun x y hx hy hg => ?_⟩
      · unfold C1
        by_cases e : a = n
        · subst e; rw [kink_both_n h hk]
        · rw [kink_both h hk (by omega) (by omega)]; exact h1 a (by omega)
      · unfold C2
        by_cases e : a = n
        · subst e; intro _; rw [kink_both_n h hk]
        · rw [kink_inter h hk (by omega) (by omega), kink_both h hk (by omega) (by omega)]; exact h2 a b hba (by omega)
      · unfold gD at hg
        by_cases e : x = n
        · subst e
          by_cases e2 : y = x
          · subst e2; rw [inter_self] at hg; cases hg
          · rw [kink_n_inter h hk (by omega)] at hg; cases hg
        · by_cases e2 : y = n
          · subst e2; rw [kink_inter_n h hk (by omega)] at hg; cases hg
          · rw [kink_inter h hk (by omega) (by omega)] at hg
            have := h3 x y (by omega) (by omega) hg
            unfold eD at this ⊢
            rw [kink_both h hk (by omega) (by omega)]; exact this
  by_cases hd : DrawnP w n
  · rw [drawnB_yes hd, drawnB_yes (hiff.2 hd)]
  · rw [drawnB_no hd, drawnB_no fun h => hd (hiff.1 h)]
end
end Go.Scr
/- ScrollKinks. No condition. -/
namespace Go.Proofs.Ytdfajcfkdfjoeaa
open Go Go.Vc Go.Scr
set_option linter.unusedVariables false
set_option linter.unusedSimpArgs false

theorem rowP_kink {w : List Int} {n k a : Nat} (h : Word w n) (hk : k ≤ 2 * n) (ha : a < n) : rowP (kinkT w n k) a (n + 1) = rowP w a n := by
  rw [rowP_no (kink_inter_n h hk ha)]
  have : ∀ j, j ≤ n → rowP (kinkT w n k) a j = rowP w a j := by
    intro j
    induction j with
    | zero => intro _; rfl
    | succ j ih => intro hj; rw [rowP, rowP, ih (by omega), kink_inter h hk ha (by omega)]
  exact this n (Nat.le_refl _)
theorem pairs_kink {w : List Int} {n k : Nat} (h : Word w n) (hk : k ≤ 2 * n) : pairsK (kinkT w n k) (n + 1) (n + 1) = pairsK w n n := by
  rw [pairsK, rowP_low (Nat.le_refl _), List.append_nil]
  have : ∀ j, j ≤ n → pairsK (kinkT w n k) (n + 1) j = pairsK w n j := by
    intro j
    induction j with
    | zero => intro _; rfl
    | succ j ih => intro hj; rw [pairsK, pairsK, ih (by omega), rowP_kink h hk (by omega)]
  exact this n (Nat.le_refl _)
set_option maxHeartbeats 8000000 in
theorem ScrollKinks_at {x : List (Int × Int × Unit)} (hx : small x) {z : Int} (hz0 : 0 ≤ z) (hz1 : z ≤ 255) : FnAt Try.prog false 13 [.arr U2 x, .lit (.int .u8 z)] (.lit (.bool true)) [] := by
  obtain ⟨z, rfl⟩ : ∃ y : Nat, z = y := ⟨z.toNat, by omega⟩
  obtain ⟨c, hc⟩ : ∃ c, c = min x.length (8 - 1) := ⟨_, rfl⟩
  have c1 := made_at hx (m := 8) (by omega) hc
  have hw : Word (madeK x c) (c + 1) := made_word
  obtain ⟨n, hn⟩ : ∃ n, n = c + 1 := ⟨_, rfl⟩
  rw [← hn] at hw
  have hn10 : n ≤ 8 := by omega
  obtain ⟨w, hwe⟩ : ∃ w, w = madeK x c := ⟨_, rfl⟩
  rw [← hwe] at hw c1
  have hwn := hw.len
  have hl : @List.length (Ty.int .i64).T w = 2 * n := hw.len
  have hdv : Int.tdiv (@List.length (Ty.int .i64).T w) 2 = n := by rw [hl, Int.tdiv_eq_ediv_of_nonneg (by omega)]; omega
  obtain ⟨k, hk⟩ : ∃ k, k = z % (2 * n + 1) := ⟨_, rfl⟩
  have hkl : k ≤ 2 * n := by have := Nat.mod_lt z (y := 2 * n + 1) (by omega); omega
  have htm : Int.tmod (z : Int) ((@List.length (Ty.int .i64).T w : Int) + 1) = (k : Int) := by
    rw [hl, Int.tmod_eq_emod_of_nonneg (by omega), hk]; norm_cast
  have hv := kink_word (k := k) hw
  have p1 := put_at (w := w) (a := k) (v := (n : Int)) (by omega) (by omega)
  have p2 := put_at (w := putT w k n) (a := k) (v := (n : Int)) (by rw [putT_len]; omega) (by rw [putT_len]; omega)
  have ek : putT (putT w k n) k n = kinkT w n k := rfl
  rw [ek] at p2
  have e1 := kink_least (k := k) hw hkl
  have e2 := kink_drawn (k := k) hw hkl
  have e3 := pairs_kink (k := k) hw hkl
  have l1 := Least_ok hw (by omega)
  have l2 := Least_ok hv (by omega)
  have d1 := Drawn_ok hw (by omega)
  have d2 := Drawn_ok hv (by omega)
  have i1 := Inters_ok hw (by omega)
  have i2 := Inters_ok hv (by omega)
  have hpl := pairs_len (w := w) (n := n) (by omega)
  rw [e1] at l2
  rw [e2] at d2
  rw [e3] at i2
  obtain ⟨P, hP⟩ : ∃ P, P = pairsK w n n := ⟨_, rfl⟩
  obtain ⟨V, hV⟩ : ∃ V, V = kinkT w n k := ⟨_, rfl⟩
  obtain ⟨D, hD⟩ : ∃ D, D = drawnB w n := ⟨_, rfl⟩
  obtain ⟨G, hG⟩ : ∃ G, G = (leastT n w).1 := ⟨_, rfl⟩
  rw [← hP] at i1 i2 hpl
  rw [← hV] at p2 l2 d2 i2
  rw [← hD] at d1 d2
  rw [← hG] at l1 l2
  rw [← htm, ← hdv] at p1 p2
  have hPl : @List.length PairTy.T P ≤ 100 := hpl
  have hik : InK .i64 (z : Int) := by simp only [InK]; omega
  have hDD : ¬ (D != D) = true := by simp
  refine FnAt.of_body tys_ok Try.func13 (by rfl) rfl Try.ntmps13 (by rw [Try.results13]) (by simp) ?_
  
  repeat' (first
 | refine W.seq ?_
 | refine W.block ?_
 | (refine W.region tys_ok [5, 24, 7, 36, 41, 18, 20, 66, 71] ?_; conv => whnf)
 | (refine W.drawAll tys_ok [5, 24, 7, 36, 41, 18, 20, 66, 71] mixed rfl ?_; conv => whnf)
 | (refine W.ret ?_; conv => whnf)
 | (refine W.skip ?_; conv => whnf)
 | (refine W.exit ?_; conv => whnf)
 | (refine call_at (al := false) (c1) rfl rfl rfl rfl ?_; conv => whnf)
 | (refine call_at (al := false) (p1) rfl rfl rfl rfl ?_; conv => whnf)
 | (refine call_at (al := false) (p2) rfl rfl rfl rfl ?_; conv => whnf)
 | (refine call_at (al := false) (l1) rfl rfl rfl rfl ?_; conv => whnf)
 | (refine call_at (al := false) (l2) rfl rfl rfl rfl ?_; conv => whnf)
 | (refine call_at (al := false) (d1) rfl rfl rfl rfl ?_; conv => whnf)
 | (refine call_at (al := false) (d2) rfl rfl rfl rfl ?_; conv => whnf)
 | (refine call_at (al := false) (i1) rfl rfl rfl rfl ?_; conv => whnf)
 | (refine call_at (al := false) (i2) rfl rfl rfl rfl ?_; conv => whnf)
 | (refine call_at (al := false) (lives_at) rfl rfl rfl rfl ?_; conv => whnf)

    | (refine W.cond rfl (fun hb => ?_) (fun hb => ?_) <;> (try simp only [Int.reduceToNat, Int.reduceTDiv, Int.reduceTMod, minL, maxL, pickB, zHB] at hb) <;> (try (first | (cases hb; done) | exact absurd hb (by decide) | (exfalso; omega) | (exact absurd hb hDD))))
    | ((with_reducible refine And.intro ?_ ?_); (focus ((repeat' (first | (with_reducible rfl) | (with_reducible refine And.intro ?_ ?_) | omega | rfl | exact Or.inl rfl | exact Or.inr rfl | exact of_decide_eq_true rfl | exact Path.imp_of (of_decide_eq_true rfl) | (focus ((try simp only [Int.reduceToNat, Int.reduceTDiv, Int.reduceTMod, minL, maxL, pickB, zHB, InK, Path.imp, List.length_replicate, List.length_set, List.length_append, List.length_cons, List.length_nil] at *); omega)) | (refine app_le rfl ?_; omega))); done)); (conv => whnf))
    | ((with_reducible refine And.intro (Side.out ?_) ?_); rotate_left; (conv => whnf))
    | (refine retF1 ?_ <;> (conv => whnf) <;> repeat' (first
 | exact trivial
 | (with_reducible rfl)
 | ((with_reducible refine And.intro ?_ ?_) <;> conv => whnf)
 | omega
 | rfl
 | (refine congrArg (SV.arr _) ?_)
 | (refine congrArg (Value.int _) ?_)
 | (refine congrArg Value.bool ?_)))
 | (refine retF2 ?_ <;> (conv => whnf) <;> repeat' (first
 | exact trivial
 | (with_reducible rfl)
 | ((with_reducible refine And.intro ?_ ?_) <;> conv => whnf)
 | omega
 | rfl
 | (refine congrArg (SV.arr _) ?_)
 | (refine congrArg (Value.int _) ?_)
 | (refine congrArg Value.bool ?_)))); all_goals (try unfold Side)
  all_goals try exact Path.imp_of hik
  all_goals try (repeat' (first | (with_reducible rfl) | (with_reducible refine And.intro ?_ ?_) | omega | rfl | exact Or.inl rfl | exact Or.inr rfl | exact of_decide_eq_true rfl | exact Path.imp_of (of_decide_eq_true rfl) | (focus ((try simp only [Int.reduceToNat, Int.reduceTDiv, Int.reduceTMod, minL, maxL, pickB, zHB, InK, Path.imp, List.length_replicate, List.length_set, List.length_append, List.length_cons, List.length_nil] at *); omega)) | (refine app_le rfl ?_; omega)))
  refine W.loop (fun t : Nat => ⟨[(18, .st true (.arr PairTy P)), (20, .st true (.arr PairTy P)), (22, .lit (.int .i64 (t)))], []⟩) (fun t => t ≤ P.length) (fun t => P.length - t) (0) ?_ ?_
  · refine ⟨Nat.zero_le _, ?_⟩
    refine subF.ok ?_ <;> (conv => whnf) <;> repeat' (first
 | exact trivial
 | (with_reducible rfl)
 | ((with_reducible refine And.intro ?_ ?_) <;> conv => whnf)
 | omega
 | rfl
 | (refine congrArg (SV.arr _) ?_)
 | (refine congrArg (Value.int _) ?_)
 | (refine congrArg Value.bool ?_))
  · intro t ht
    have hPe : @List.length PairTy.T P = P.length := rfl
    by_cases htl : t < P.length
    · repeat' (first
 | refine W.seq ?_
 | refine W.block ?_
 | (refine W.drawPh (id := 15) tys_ok [] mixed [0, 0, 3, 4, 0, 0, 48, 64, 136] [([0, 1, 2, 3, 4, 5, 6, 7, 8], 0, 511)] (by decide +kernel) ?_; conv => whnf)
 | (refine W.region tys_ok [] ?_; conv => whnf)
 | (refine W.drawAll tys_ok [] mixed rfl ?_; conv => whnf)
 | (refine W.ret ?_; conv => whnf)
 | (refine W.skip ?_; conv => whnf)
 | (refine W.exit ?_; conv => whnf)

    | (refine Both.mk ?_ ?_ <;> (conv => whnf))
    | (refine subF.leaf ?_ <;> (conv => whnf) <;> repeat' (first
 | exact trivial
 | (with_reducible rfl)
 | ((with_reducible refine And.intro ?_ ?_) <;> conv => whnf)
 | omega
 | rfl
 | (refine congrArg (SV.arr _) ?_)
 | (refine congrArg (Value.int _) ?_)
 | (refine congrArg Value.bool ?_)))
 | (refine subF.side ?_ <;> (conv => whnf) <;> repeat' (first
 | exact trivial
 | (with_reducible rfl)
 | ((with_reducible refine And.intro ?_ ?_) <;> conv => whnf)
 | omega
 | rfl
 | (refine congrArg (SV.arr _) ?_)
 | (refine congrArg (Value.int _) ?_)
 | (refine congrArg Value.bool ?_)))
 | (refine W.cond rfl (fun hb => ?_) (fun hb => ?_) <;> (try simp only [Int.reduceToNat, Int.reduceTDiv, Int.reduceTMod, minL, maxL, pickB, zHB] at hb) <;> (try (first | (cases hb; done) | exact absurd hb (by decide) | (exfalso; omega) | (exfalso; simp at hb))))
 | ((with_reducible refine And.intro ?_ ?_); (focus ((repeat' (first | (with_reducible rfl) | (with_reducible refine And.intro ?_ ?_) | omega | rfl | exact Or.inl rfl | exact Or.inr rfl | exact of_decide_eq_true rfl | exact Path.imp_of (of_decide_eq_true rfl) | (focus ((try simp only [Int.reduceToNat, Int.reduceTDiv, Int.reduceTMod, minL, maxL, pickB, zHB, InK, Path.imp, List.length_replicate, List.length_set, List.length_append, List.length_cons, List.length_nil] at *); omega)) | (refine app_le rfl ?_; omega))); done)); (conv => whnf))
 | ((with_reducible refine And.intro (Side.out ?_) ?_); rotate_left; (conv => whnf))
 | (refine retF1 ?_ <;> (conv => whnf) <;> repeat' (first
 | exact trivial
 | (with_reducible rfl)
 | ((with_reducible refine And.intro ?_ ?_) <;> conv => whnf)
 | omega
 | rfl
 | (refine congrArg (SV.arr _) ?_)
 | (refine congrArg (Value.int _) ?_)
 | (refine congrArg Value.bool ?_)))
 | (refine retF2 ?_ <;> (conv => whnf) <;> repeat' (first
 | exact trivial
 | (with_reducible rfl)
 | ((with_reducible refine And.intro ?_ ?_) <;> conv => whnf)
 | omega
 | rfl
 | (refine congrArg (SV.arr _) ?_)
 | (refine congrArg (Value.int _) ?_)
 | (refine congrArg Value.bool ?_)))); all_goals (try unfold Side)
      all_goals try (repeat' (first | (with_reducible rfl) | (with_reducible refine And.intro ?_ ?_) | omega | rfl | exact Or.inl rfl | exact Or.inr rfl | exact of_decide_eq_true rfl | exact Path.imp_of (of_decide_eq_true rfl) | (focus ((try simp only [Int.reduceToNat, Int.reduceTDiv, Int.reduceTMod, minL, maxL, pickB, zHB, InK, Path.imp, List.length_replicate, List.length_set, List.length_append, List.length_cons, List.length_nil] at *); omega)) | (refine app_le rfl ?_; omega)))
      refine ⟨t + 1, ⟨by omega, by omega⟩, ?_⟩
      refine subF.ok ?_ <;> (conv => whnf) <;> repeat' (first
 | exact trivial
 | (with_reducible rfl)
 | ((with_reducible refine And.intro ?_ ?_) <;> conv => whnf)
 | omega
 | rfl
 | (refine congrArg (SV.arr _) ?_)
 | (refine congrArg (Value.int _) ?_)
 | (refine congrArg Value.bool ?_))
    · have hte : P.length = t := by omega
      subst hte
      repeat' (first
 | refine W.seq ?_
 | refine W.block ?_
 | (refine W.region tys_ok [] ?_; conv => whnf)
 | (refine W.drawAll tys_ok [] mixed rfl ?_; conv => whnf)
 | (refine W.ret ?_; conv => whnf)
 | (refine W.skip ?_; conv => whnf)
 | (refine W.exit ?_; conv => whnf)

    | (refine W.cond rfl (fun hb => ?_) (fun hb => ?_) <;> (try simp only [Int.reduceToNat, Int.reduceTDiv, Int.reduceTMod, minL, maxL, pickB, zHB] at hb) <;> (try (first | (cases hb; done) | exact absurd hb (by decide) | (exfalso; omega))))
    | ((with_reducible refine And.intro ?_ ?_); (focus ((repeat' (first | (with_reducible rfl) | (with_reducible refine And.intro ?_ ?_) | omega | rfl | exact Or.inl rfl | exact Or.inr rfl | exact of_decide_eq_true rfl | exact Path.imp_of (of_decide_eq_true rfl) | (focus ((try simp only [Int.reduceToNat, Int.reduceTDiv, Int.reduceTMod, minL, maxL, pickB, zHB, InK, Path.imp, List.length_replicate, List.length_set, List.length_append, List.length_cons, List.length_nil] at *); omega)) | (refine app_le rfl ?_; omega))); done)); (conv => whnf))
    | ((with_reducible refine And.intro (Side.out ?_) ?_); rotate_left; (conv => whnf))
    | (refine retF1 ?_ <;> (conv => whnf) <;> repeat' (first
 | exact trivial
 | (with_reducible rfl)
 | ((with_reducible refine And.intro ?_ ?_) <;> conv => whnf)
 | omega
 | rfl
 | (refine congrArg (SV.arr _) ?_)
 | (refine congrArg (Value.int _) ?_)
 | (refine congrArg Value.bool ?_)))
 | (refine retF2 ?_ <;> (conv => whnf) <;> repeat' (first
 | exact trivial
 | (with_reducible rfl)
 | ((with_reducible refine And.intro ?_ ?_) <;> conv => whnf)
 | omega
 | rfl
 | (refine congrArg (SV.arr _) ?_)
 | (refine congrArg (Value.int _) ?_)
 | (refine congrArg Value.bool ?_)))); all_goals (try unfold Side)
      all_goals try (repeat' (first | (with_reducible rfl) | (with_reducible refine And.intro ?_ ?_) | omega | rfl | exact Or.inl rfl | exact Or.inr rfl | exact of_decide_eq_true rfl | exact Path.imp_of (of_decide_eq_true rfl) | (focus ((try simp only [Int.reduceToNat, Int.reduceTDiv, Int.reduceTMod, minL, maxL, pickB, zHB, InK, Path.imp, List.length_replicate, List.length_set, List.length_append, List.length_cons, List.length_nil] at *); omega)) | (refine app_le rfl ?_; omega)))
end Go.Proofs.Ytdfajcfkdfjoeaa
