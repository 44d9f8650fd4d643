/- Joined of: S39. No condition. -/
import Derived.Test.YtdfajcfkdfjoeaaJ6

/- ScrollGauss. No condition. -/
namespace Go.Proofs.Ytdfajcfkdfjoeaa
open Go Go.Vc Go.Scr
set_option linter.unusedVariables false
set_option linter.unusedSimpArgs false

set_option maxHeartbeats 8000000 in
theorem Gauss_none {x : List (Int × Int × Unit)} (hx : small x) (hg : ¬ (leastT (min x.length (9 - 1) + 1) (madeK x (min x.length (9 - 1)))).1 = 0) : FnAt Try.prog false 12 [.arr U2 x] (.lit (.bool true)) [] := by
  obtain ⟨c, hc⟩ : ∃ c, c = min x.length (9 - 1) := ⟨_, rfl⟩
  rw [← hc] at hg
  have c1 := made_at hx (m := 9) (by omega) hc
  have hw : Word (madeK x c) (c + 1) := made_word
  obtain ⟨n, hn⟩ : ∃ n, n = c + 1 := ⟨_, rfl⟩
  rw [← hn] at hw hg
  have hn10 : n ≤ 9 := by omega
  obtain ⟨w, hwe⟩ : ∃ w, w = madeK x c := ⟨_, rfl⟩
  rw [← hwe] at hw c1 hg
  have hp := hw.pos
  have c2 := Plane_none hw (by omega) hg
  have l1 := Least_ok hw (by omega)
  have d1 := Drawn_ok hw (by omega)
  rw [drawnB_least hw, decide_eq_false hg] at d1
  obtain ⟨j0, _, hls⟩ := leastT_in (n := n) (w := w) hp
  have k1 := Genus_ok hw (by omega) (sgT_signs (n := n) (k := j0))
  have e1 : genusT n w (sgT n j0) = (leastT n w).1 := by rw [hls]
  have e2 : sgT n j0 = (leastT n w).2 := by rw [hls]
  rw [e1, e2] at k1
  obtain ⟨T, hT⟩ : ∃ T, T = (leastT n w).2 := ⟨_, rfl⟩
  obtain ⟨G, hG⟩ : ∃ G, G = (leastT n w).1 := ⟨_, rfl⟩
  rw [← hT] at l1 k1
  rw [← hG] at l1 k1 hg
  refine FnAt.of_body tys_ok Try.func12 (by rfl) rfl Try.ntmps12 (by rw [Try.results12]) (by simp) ?_
  
  repeat' (first
 | refine W.seq ?_
 | refine W.block ?_
 | (refine W.region tys_ok [19] ?_; conv => whnf)
 | (refine W.drawAll tys_ok [19] mixed rfl ?_; conv => whnf)
 | (refine W.ret ?_; conv => whnf)
 | (refine W.skip ?_; conv => whnf)
 | (refine W.exit ?_; conv => whnf)
 | (refine call_at (al := false) (c1) rfl rfl rfl rfl ?_; conv => whnf)
 | (refine call_at (al := false) (c2) rfl rfl rfl rfl ?_; conv => whnf)
 | (refine call_at (al := false) (l1) rfl rfl rfl rfl ?_; conv => whnf)
 | (refine call_at (al := false) (d1) rfl rfl rfl rfl ?_; conv => whnf)
 | (refine call_at (al := false) (k1) rfl rfl rfl rfl ?_; conv => whnf)
 | (refine call_at (al := false) (lives_at) rfl rfl rfl rfl ?_; conv => whnf)

    | (refine W.cond rfl (fun hb => ?_) (fun hb => ?_) <;> (try simp only [Int.reduceToNat, Int.reduceTDiv, Int.reduceTMod, minL, maxL, pickB, zHB] at hb) <;> (try (first | (cases hb; done) | exact absurd hb (by decide) | (exfalso; omega) | (simp [hg] at hb; done))))
    | ((with_reducible refine And.intro ?_ ?_); (focus ((repeat' (first | (with_reducible rfl) | (with_reducible refine And.intro ?_ ?_) | omega | rfl | exact Or.inl rfl | exact Or.inr rfl | exact of_decide_eq_true rfl | exact Path.imp_of (of_decide_eq_true rfl) | (focus ((try simp only [Int.reduceToNat, Int.reduceTDiv, Int.reduceTMod, minL, maxL, pickB, zHB, InK, Path.imp, List.length_replicate, List.length_set, List.length_append, List.length_cons, List.length_nil] at *); omega)) | (refine app_le rfl ?_; omega))); done)); (conv => whnf))
    | ((with_reducible refine And.intro (Side.out ?_) ?_); rotate_left; (conv => whnf))
    | (refine retF1 ?_ <;> (conv => whnf) <;> repeat' (first
 | exact trivial
 | (with_reducible rfl)
 | ((with_reducible refine And.intro ?_ ?_) <;> conv => whnf)
 | omega
 | rfl
 | (refine congrArg (SV.arr _) ?_)
 | (refine congrArg (Value.int _) ?_)
 | (refine congrArg Value.bool ?_)))
 | (refine retF2 ?_ <;> (conv => whnf) <;> repeat' (first
 | exact trivial
 | (with_reducible rfl)
 | ((with_reducible refine And.intro ?_ ?_) <;> conv => whnf)
 | omega
 | rfl
 | (refine congrArg (SV.arr _) ?_)
 | (refine congrArg (Value.int _) ?_)
 | (refine congrArg Value.bool ?_)))); all_goals (try unfold Side)
  all_goals try (repeat' (first | (with_reducible rfl) | (with_reducible refine And.intro ?_ ?_) | omega | rfl | exact Or.inl rfl | exact Or.inr rfl | exact of_decide_eq_true rfl | exact Path.imp_of (of_decide_eq_true rfl) | (focus ((try simp only [Int.reduceToNat, Int.reduceTDiv, Int.reduceTMod, minL, maxL, pickB, zHB, InK, Path.imp, List.length_replicate, List.length_set, List.length_append, List.length_cons, List.length_nil] at *); omega)) | (refine app_le rfl ?_; omega)))
  all_goals simp [pickB]
set_option maxHeartbeats 8000000 in
theorem ScrollGauss_at {x : List (Int × Int × Unit)} (hx : small x) : FnAt Try.prog false 12 [.arr U2 x] (.lit (.bool true)) [] := by
  by_cases hg : ¬ (leastT (min x.length (9 - 1) + 1) (madeK x (min x.length (9 - 1)))).1 = 0
  · exact Gauss_none hx hg
  obtain ⟨c, hc⟩ : ∃ c, c = min x.length (9 - 1) := ⟨_, rfl⟩
  rw [← hc] at hg
  have hg := Classical.not_not.1 hg
  have c1 := made_at hx (m := 9) (by omega) hc
  have hw : Word (madeK x c) (c + 1) := made_word
  obtain ⟨n, hn⟩ : ∃ n, n = c + 1 := ⟨_, rfl⟩
  rw [← hn] at hw hg
  have hn10 : n ≤ 9 := by omega
  obtain ⟨w, hwe⟩ : ∃ w, w = madeK x c := ⟨_, rfl⟩
  rw [← hwe] at hw c1 hg
  have hp := hw.pos
  have hwn := hw.len
  have hl : @List.length (Ty.int .i64).T w = 2 * n := hw.len
  have hdv : Int.tdiv (@List.length (Ty.int .i64).T w) 2 = n := by rw [hl, Int.tdiv_eq_ediv_of_nonneg (by omega)]; omega
  have hev := fun v (hv : v < n) => plane_even hw hv hg
  have hpt := fun v : Int => places_at w v (by omega)
  have c2 := Plane_ok hw (by omega) hg
  have l1 := Least_ok hw (by omega)
  have d1 := Drawn_ok hw (by omega)
  rw [drawnB_least hw, decide_eq_true hg] at d1
  obtain ⟨j0, _, hls⟩ := leastT_in (n := n) (w := w) hp
  have k1 := Genus_ok hw (by omega) (sgT_signs (n := n) (k := j0))
  have e1 : genusT n w (sgT n j0) = (leastT n w).1 := by rw [hls]
  have e2 : sgT n j0 = (leastT n w).2 := by rw [hls]
  have hTl : ((leastT n w).2).length ≤ 1000 := by rw [← e2, sgT_len]; omega
  rw [e1, e2] at k1
  rw [hg] at l1 k1
  obtain ⟨T, hT⟩ : ∃ T, T = (leastT n w).2 := ⟨_, rfl⟩
  rw [← hT] at l1 k1 c2 hTl
  have sm := same_at T T (by omega) (by omega)
  refine FnAt.of_body tys_ok Try.func12 (by rfl) rfl Try.ntmps12 (by rw [Try.results12]) (by simp) ?_
  
  repeat' (first
 | refine W.seq ?_
 | refine W.block ?_
 | (refine W.region tys_ok [16] ?_; conv => whnf)
 | (refine W.drawAll tys_ok [16] mixed rfl ?_; conv => whnf)
 | (refine W.ret ?_; conv => whnf)
 | (refine W.skip ?_; conv => whnf)
 | (refine W.exit ?_; conv => whnf)
 | (refine call_at (al := false) (c1) rfl rfl rfl rfl ?_; conv => whnf)
 | (refine call_at (al := false) (c2) rfl rfl rfl rfl ?_; conv => whnf)
 | (refine call_at (al := false) (l1) rfl rfl rfl rfl ?_; conv => whnf)
 | (refine call_at (al := false) (d1) rfl rfl rfl rfl ?_; conv => whnf)
 | (refine call_at (al := false) (k1) rfl rfl rfl rfl ?_; conv => whnf)
 | (refine call_at (al := false) (lives_at) rfl rfl rfl rfl ?_; conv => whnf)

    | (refine W.cond rfl (fun hb => ?_) (fun hb => ?_) <;> (try simp only [Int.reduceToNat, Int.reduceTDiv, Int.reduceTMod, minL, maxL, pickB, zHB] at hb) <;> (try (first | (cases hb; done) | exact absurd hb (by decide) | (exfalso; omega))))
    | ((with_reducible refine And.intro ?_ ?_); (focus ((repeat' (first | (with_reducible rfl) | (with_reducible refine And.intro ?_ ?_) | omega | rfl | exact Or.inl rfl | exact Or.inr rfl | exact of_decide_eq_true rfl | exact Path.imp_of (of_decide_eq_true rfl) | (focus ((try simp only [Int.reduceToNat, Int.reduceTDiv, Int.reduceTMod, minL, maxL, pickB, zHB, InK, Path.imp, List.length_replicate, List.length_set, List.length_append, List.length_cons, List.length_nil] at *); omega)) | (refine app_le rfl ?_; omega))); done)); (conv => whnf))
    | ((with_reducible refine And.intro (Side.out ?_) ?_); rotate_left; (conv => whnf))
    | (refine retF1 ?_ <;> (conv => whnf) <;> repeat' (first
 | exact trivial
 | (with_reducible rfl)
 | ((with_reducible refine And.intro ?_ ?_) <;> conv => whnf)
 | omega
 | rfl
 | (refine congrArg (SV.arr _) ?_)
 | (refine congrArg (Value.int _) ?_)
 | (refine congrArg Value.bool ?_)))
 | (refine retF2 ?_ <;> (conv => whnf) <;> repeat' (first
 | exact trivial
 | (with_reducible rfl)
 | ((with_reducible refine And.intro ?_ ?_) <;> conv => whnf)
 | omega
 | rfl
 | (refine congrArg (SV.arr _) ?_)
 | (refine congrArg (Value.int _) ?_)
 | (refine congrArg Value.bool ?_)))); all_goals (try unfold Side)
  all_goals try (repeat' (first | (with_reducible rfl) | (with_reducible refine And.intro ?_ ?_) | omega | rfl | exact Or.inl rfl | exact Or.inr rfl | exact of_decide_eq_true rfl | exact Path.imp_of (of_decide_eq_true rfl) | (focus ((try simp only [Int.reduceToNat, Int.reduceTDiv, Int.reduceTMod, minL, maxL, pickB, zHB, InK, Path.imp, List.length_replicate, List.length_set, List.length_append, List.length_cons, List.length_nil] at *); omega)) | (refine app_le rfl ?_; omega)))
  refine W.loop (fun v : Nat => ⟨[(3, .st true (.arr (.int .i64) (w : List Int))), (4, .st true (.arr (.int .i64) (T : List Int))), (7, .st true (.arr (.int .i64) (T : List Int))), (13, .lit (.int .i64 (v)))], []⟩) (fun v => v ≤ n) (fun v => n - v) (0) ?_ ?_
  · refine ⟨Nat.zero_le _, ?_⟩
    refine subF.ok ?_ <;> (conv => whnf) <;> repeat' (first
 | exact trivial
 | (with_reducible rfl)
 | ((with_reducible refine And.intro ?_ ?_) <;> conv => whnf)
 | omega
 | rfl
 | (refine congrArg (SV.arr _) ?_)
 | (refine congrArg (Value.int _) ?_)
 | (refine congrArg Value.bool ?_))
  · intro v hv
    by_cases hvn : v < n
    · obtain ⟨q1, q2, q3, q4⟩ := hev v hvn
      have q5 := hpt v
      rw [q1] at q5
      obtain ⟨p, hpp⟩ : ∃ p, p = pp w v := ⟨_, rfl⟩
      obtain ⟨q, hqq⟩ : ∃ q, q = qq w v := ⟨_, rfl⟩
      rw [← hpp] at q2 q4 q5
      rw [← hqq] at q2 q3 q4 q5
      have q6 : Int.tmod ((q : Int) - p - 1) 2 = 0 := by rw [Int.tmod_eq_emod_of_nonneg (by omega)]; omega
      repeat' (first
 | refine W.seq ?_
 | refine W.block ?_
 | (refine W.drawPh (id := 16) tys_ok [91] mixed [0, 1, 2, 0, 8, 16, 36, 64, 128, 256] [([0, 1, 2, 3, 4, 5, 6, 7, 8, 9], 0, 1023)] (by decide +kernel) ?_; conv => whnf)
 | (refine W.region tys_ok [91] ?_; conv => whnf)
 | (refine W.drawAll tys_ok [91] mixed rfl ?_; conv => whnf)
 | (refine W.ret ?_; conv => whnf)
 | (refine W.skip ?_; conv => whnf)
 | (refine W.exit ?_; conv => whnf)
 | (refine call_at (al := false) (q5) rfl rfl rfl rfl ?_; conv => whnf)

    | (refine Both.mk ?_ ?_ <;> (conv => whnf))
    | (refine subF.leaf ?_ <;> (conv => whnf) <;> repeat' (first
 | exact trivial
 | (with_reducible rfl)
 | ((with_reducible refine And.intro ?_ ?_) <;> conv => whnf)
 | omega
 | rfl
 | (refine congrArg (SV.arr _) ?_)
 | (refine congrArg (Value.int _) ?_)
 | (refine congrArg Value.bool ?_)))
 | (refine subF.side ?_ <;> (conv => whnf) <;> repeat' (first
 | exact trivial
 | (with_reducible rfl)
 | ((with_reducible refine And.intro ?_ ?_) <;> conv => whnf)
 | omega
 | rfl
 | (refine congrArg (SV.arr _) ?_)
 | (refine congrArg (Value.int _) ?_)
 | (refine congrArg Value.bool ?_)))
 | (refine W.cond rfl (fun hb => ?_) (fun hb => ?_) <;> (try simp only [Int.reduceToNat, Int.reduceTDiv, Int.reduceTMod, minL, maxL, pickB, zHB] at hb) <;> (try (first | (cases hb; done) | exact absurd hb (by decide) | (exfalso; omega))))
 | ((with_reducible refine And.intro ?_ ?_); (focus ((repeat' (first | (with_reducible rfl) | (with_reducible refine And.intro ?_ ?_) | omega | rfl | exact Or.inl rfl | exact Or.inr rfl | exact of_decide_eq_true rfl | exact Path.imp_of (of_decide_eq_true rfl) | (focus ((try simp only [Int.reduceToNat, Int.reduceTDiv, Int.reduceTMod, minL, maxL, pickB, zHB, InK, Path.imp, List.length_replicate, List.length_set, List.length_append, List.length_cons, List.length_nil] at *); omega)) | (refine app_le rfl ?_; omega))); done)); (conv => whnf))
 | ((with_reducible refine And.intro (Side.out ?_) ?_); rotate_left; (conv => whnf))
 | (refine retF1 ?_ <;> (conv => whnf) <;> repeat' (first
 | exact trivial
 | (with_reducible rfl)
 | ((with_reducible refine And.intro ?_ ?_) <;> conv => whnf)
 | omega
 | rfl
 | (refine congrArg (SV.arr _) ?_)
 | (refine congrArg (Value.int _) ?_)
 | (refine congrArg Value.bool ?_)))
 | (refine retF2 ?_ <;> (conv => whnf) <;> repeat' (first
 | exact trivial
 | (with_reducible rfl)
 | ((with_reducible refine And.intro ?_ ?_) <;> conv => whnf)
 | omega
 | rfl
 | (refine congrArg (SV.arr _) ?_)
 | (refine congrArg (Value.int _) ?_)
 | (refine congrArg Value.bool ?_)))); all_goals (try unfold Side)
      all_goals try (repeat' (first | (with_reducible rfl) | (with_reducible refine And.intro ?_ ?_) | omega | rfl | exact Or.inl rfl | exact Or.inr rfl | exact of_decide_eq_true rfl | exact Path.imp_of (of_decide_eq_true rfl) | (focus ((try simp only [Int.reduceToNat, Int.reduceTDiv, Int.reduceTMod, minL, maxL, pickB, zHB, InK, Path.imp, List.length_replicate, List.length_set, List.length_append, List.length_cons, List.length_nil] at *); omega)) | (refine app_le rfl ?_; omega)))
      refine ⟨v + 1, ⟨by omega, by omega⟩, ?_⟩
      refine subF.ok ?_ <;> (conv => whnf) <;> repeat' (first
 | exact trivial
 | (with_reducible rfl)
 | ((with_reducible refine And.intro ?_ ?_) <;> conv => whnf)
 | omega
 | rfl
 | (refine congrArg (SV.arr _) ?_)
 | (refine congrArg (Value.int _) ?_)
 | (refine congrArg Value.bool ?_))
    · have hve : n = v := by omega
      subst hve
      repeat' (first
 | refine W.seq ?_
 | refine W.block ?_
 | (refine W.region tys_ok [] ?_; conv => whnf)
 | (refine W.drawAll tys_ok [] mixed rfl ?_; conv => whnf)
 | (refine W.ret ?_; conv => whnf)
 | (refine W.skip ?_; conv => whnf)
 | (refine W.exit ?_; conv => whnf)
 | (refine call_at (al := false) (sm) rfl rfl rfl rfl ?_; conv => whnf)

    | (refine W.cond rfl (fun hb => ?_) (fun hb => ?_) <;> (try simp only [Int.reduceToNat, Int.reduceTDiv, Int.reduceTMod, minL, maxL, pickB, zHB] at hb) <;> (try (first | (cases hb; done) | exact absurd hb (by decide) | (exfalso; omega))))
    | ((with_reducible refine And.intro ?_ ?_); (focus ((repeat' (first | (with_reducible rfl) | (with_reducible refine And.intro ?_ ?_) | omega | rfl | exact Or.inl rfl | exact Or.inr rfl | exact of_decide_eq_true rfl | exact Path.imp_of (of_decide_eq_true rfl) | (focus ((try simp only [Int.reduceToNat, Int.reduceTDiv, Int.reduceTMod, minL, maxL, pickB, zHB, InK, Path.imp, List.length_replicate, List.length_set, List.length_append, List.length_cons, List.length_nil] at *); omega)) | (refine app_le rfl ?_; omega))); done)); (conv => whnf))
    | ((with_reducible refine And.intro (Side.out ?_) ?_); rotate_left; (conv => whnf))
    | (refine retF1 ?_ <;> (conv => whnf) <;> repeat' (first
 | exact trivial
 | (with_reducible rfl)
 | ((with_reducible refine And.intro ?_ ?_) <;> conv => whnf)
 | omega
 | rfl
 | (refine congrArg (SV.arr _) ?_)
 | (refine congrArg (Value.int _) ?_)
 | (refine congrArg Value.bool ?_)))
 | (refine retF2 ?_ <;> (conv => whnf) <;> repeat' (first
 | exact trivial
 | (with_reducible rfl)
 | ((with_reducible refine And.intro ?_ ?_) <;> conv => whnf)
 | omega
 | rfl
 | (refine congrArg (SV.arr _) ?_)
 | (refine congrArg (Value.int _) ?_)
 | (refine congrArg Value.bool ?_)))); all_goals (try unfold Side)
      all_goals try (repeat' (first | (with_reducible rfl) | (with_reducible refine And.intro ?_ ?_) | omega | rfl | exact Or.inl rfl | exact Or.inr rfl | exact of_decide_eq_true rfl | exact Path.imp_of (of_decide_eq_true rfl) | (focus ((try simp only [Int.reduceToNat, Int.reduceTDiv, Int.reduceTMod, minL, maxL, pickB, zHB, InK, Path.imp, List.length_replicate, List.length_set, List.length_append, List.length_cons, List.length_nil] at *); omega)) | (refine app_le rfl ?_; omega)))
      all_goals simp
end Go.Proofs.Ytdfajcfkdfjoeaa
