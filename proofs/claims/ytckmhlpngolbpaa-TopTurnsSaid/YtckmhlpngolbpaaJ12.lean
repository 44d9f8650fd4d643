/- Joined of: D9. No condition. -/
import Derived.Test.YtckmhlpngolbpaaJ11
set_option linter.unusedVariables false
set_option linter.unusedSimpArgs false
namespace Go.Proofs.Ytckmhlpngolbpaa
open Int renaming reduceToNat → zr, reduceTDiv → zd, reduceTMod → zm
open Go Go.Vc Go.Sh Go.Tp
abbrev U2 : Ty := .cons (.int .u8) (.cons (.int .u8) .nil)
abbrev Tr2 := Int × Int × Unit
@[reducible] def D0 : Tr2 := (0, 0, ())
def sm2 (y : List Tr2) : Prop := ∀ i, (0 ≤ (y.getD i D0).1 ∧ (y.getD i D0).1 ≤ 255) ∧ 0 ≤ (y.getD i D0).2.1 ∧ (y.getD i D0).2.1 ≤ 255
theorem sm2_wf {y : List Tr2} (h : (Ty.sl U2).wf y) : sm2 y := fun i => by
 have h2 : ∀ z ∈ y, U2.wf z := h.2
 by_cases hi : i < y.length
 · have h3 := h2 (y.getD i D0) (by rw [List.getD_eq_getElem?_getD, List.getElem?_eq_getElem hi]; exact List.getElem_mem hi)
   exact ⟨wf_u8 h3.1, wf_u8 h3.2.1⟩
 · have : y.getD i D0 = D0 := by simp [List.getD, List.getElem?_eq_none (Nat.le_of_not_lt hi)]
   rw [this]; decide
def turnA (n : Nat) (x : List Tr2) (i : Nat) : Int := if i < x.length then (x.getD i D0).1.tmod n else 0
def turnB (n : Nat) (x : List Tr2) (i : Nat) : Int := if i < x.length then turnA n x i + 1 + (x.getD i D0).2.1.tmod (n - turnA n x i) else n
theorem turn_ab {n i : Nat} {x : List Tr2} (hn : 1 ≤ n) (hx : sm2 x) : 0 ≤ turnA n x i ∧ turnA n x i < n ∧ turnA n x i < turnB n x i ∧ turnB n x i ≤ n := by
 have h0 := hx i
 have h1 : 0 ≤ turnA n x i ∧ turnA n x i < n := by
  unfold turnA
  split
  · rw [Int.tmod_eq_emod_of_nonneg h0.1.1]
    exact ⟨Int.emod_nonneg _ (by omega), Int.emod_lt_of_pos _ (by omega)⟩
  · omega
 refine ⟨h1.1, h1.2, ?_⟩
 unfold turnB
 split
 · rw [Int.tmod_eq_emod_of_nonneg h0.2.1]
   have h2 := Int.emod_nonneg (x.getD i D0).2.1 (b := (n : Int) - turnA n x i) (by omega)
   have h3 := Int.emod_lt_of_pos (x.getD i D0).2.1 (b := (n : Int) - turnA n x i) (by omega)
   omega
 · omega
set_option maxHeartbeats 16000000 in
theorem TopTurns_at {x : List U2.T} (hx : sm2 x) : FnAt Try.prog false 3 [.arr U2 x] (.lit (.bool true)) [] := by
 obtain ⟨n, hn⟩ : ∃ n : Nat, n = max 1 (min x.length 6) := ⟨_, rfl⟩
 have hn1 : 1 ≤ n := by omega
 have hn6 : n ≤ 6 := by omega
 have hlx : @List.length U2.T x = x.length := rfl
 refine FnAt.of_body tys_ok Try.func3 (by rfl) rfl Try.ntmps3 (by rw [Try.results3]) (by simp) ?_
 repeat' (first
 | refine W.seq ?_
 | refine W.block ?_
 | (refine W.region tys_ok [] ?_; conv => whnf)
 | (refine W.drawAll tys_ok [] mixed rfl ?_; conv => whnf)
 | (refine W.ret ?_; conv => whnf)
 | (refine W.skip ?_; conv => whnf)
 | (refine W.exit ?_; conv => whnf)
 | (refine W.cond rfl (fun hb => ?_) (fun hb => ?_) <;> (try simp only [zr, zd, zm, minL, maxL, pickB, zA] at hb) <;> (try (first | (cases hb; done) | exact absurd hb (by decide) | (exfalso; omega) | (omega))))
 | ((with_reducible refine And.intro ?_ ?_); exact zc; conv => whnf)
 | ((with_reducible refine And.intro (Side.out ?_) ?_); rotate_left; (conv => whnf))
 | ((first | refine retF1 ?_ | refine retF2 ?_) <;> (conv => whnf) <;> repeat' (first
 | exact trivial
 | (with_reducible rfl)
 | ((with_reducible refine And.intro ?_ ?_) <;> conv => whnf)
 | omega
 | rfl
 | (refine congrArg (SV.arr _) ?_)
 | (refine congrArg (Value.int _) ?_)
 | (refine congrArg Value.bool ?_)))); all_goals (try unfold Side)
 all_goals try (repeat' (first | exact zb | with_reducible refine And.intro ?_ ?_))
 refine W.loop (fun l : List Jb => ⟨[(0, .st false (.arr U2 x)), (3, (.lit (.int .i64 (n : Int)))), (4, .padr 4000 0), (5, .own 5000), (6, (.lit (.int .i64 (l.length : Int))))], [(4000, .box [(.lit (.int .i64 (1 : Int))), .own 5001, .lit (.slice none 0 0)]), (5001, .row 30 JT true l), (5000, .row 31 (.sl (.int .i64)) true (matT n l))]⟩) (fun l => TJn n l) (fun l => n - l.length) ([]) ?_ ?_
 · refine ⟨⟨hn1, hn6, Nat.zero_le _, fun i hi => by simp at hi⟩, ?_⟩
   refine subF.ok ?_ <;> (conv => whnf) <;> repeat' (first
 | exact trivial
 | (with_reducible rfl)
 | ((with_reducible refine And.intro ?_ ?_) <;> conv => whnf)
 | omega
 | rfl
 | (refine congrArg (SV.arr _) ?_)
 | (refine congrArg (Value.int _) ?_)
 | (refine congrArg Value.bool ?_))
   all_goals (rw [hn]; simp only [maxL, minL]; omega)
 · rintro l hl
   by_cases hln : l.length < n
   · obtain ⟨a, ha⟩ : ∃ a : Int, a = turnA n x l.length := ⟨_, rfl⟩
     obtain ⟨b, hb0⟩ : ∃ b : Int, b = turnB n x l.length := ⟨_, rfl⟩
     obtain ⟨h1, h2, h3, h4⟩ := turn_ab (i := l.length) hn1 hx
     rw [← ha] at h1 h2 h3
     rw [← hb0] at h3 h4
     have hx2 := hx l.length
     have ea : l.length < x.length → (@List.getD Tr2 x l.length D0).1.tmod n = a := fun h => ha ▸ (if_pos h).symm
     have eb : l.length < x.length → a + 1 + (@List.getD Tr2 x l.length D0).2.1.tmod (n - a) = b := fun h => by rw [hb0, ha]; exact (if_pos h).symm
     have ea0 : ¬ l.length < x.length → 0 = a := fun h => ha ▸ (if_neg h).symm
     have eb0 : ¬ l.length < x.length → (n : Int) = b := fun h => by rw [hb0]; exact (if_neg h).symm
     have ks : l.length < x.length → (@List.getD Tr2 x l.length D0).1.tmod n = a ∧ (@List.getD Tr2 x l.length D0).1.tmod n + 1 + (@List.getD Tr2 x l.length D0).2.1.tmod (n - (@List.getD Tr2 x l.length D0).1.tmod n) = b := fun h => ⟨ea h, by rw [ea h]; exact eb h⟩
     have k1 : l.length < x.length → InK .i64 ((@List.getD Tr2 x l.length D0).1.tmod n + 1 + (@List.getD Tr2 x l.length D0).2.1.tmod (n - (@List.getD Tr2 x l.length D0).1.tmod n)) := fun h => by rw [(ks h).2]; exact ⟨by omega, by omega⟩
     have k2 : l.length < x.length → (n : Int) - (@List.getD Tr2 x l.length D0).1.tmod n ≠ 0 := fun h => by rw [(ks h).1]; omega
     have k3 : l.length < x.length → InK .i64 ((n : Int) - (@List.getD Tr2 x l.length D0).1.tmod n) := fun h => by rw [(ks h).1]; exact ⟨by omega, by omega⟩
     have k4 : InK .i64 (@List.getD Tr2 x l.length D0).2.1 := ⟨by omega, by omega⟩
     have k5 : l.length < x.length → InK .i64 ((@List.getD Tr2 x l.length D0).1.tmod n + 1) := fun h => by rw [(ks h).1]; exact ⟨by omega, by omega⟩
     have k6 : InK .i64 (@List.getD Tr2 x l.length D0).1 := ⟨by omega, by omega⟩
     clear ha hb0
     repeat' (first
 | refine W.joinTo (t := 40) ⟨[(0, .st false (.arr U2 x)), (3, (.lit (.int .i64 (n : Int)))), (4, .padr 4000 0), (5, .own 5000), (6, (.lit (.int .i64 (l.length : Int)))), (7, (.lit (.int .i64 (a : Int)))), (8, (.lit (.int .i64 (b : Int))))], [(4000, .box [(.lit (.int .i64 (1 : Int))), .own 5001, .lit (.slice none 0 0)]), (5001, .row 30 JT true l), (5000, .row 31 (.sl (.int .i64)) true (matT n l))]⟩ ?_ ?_
 | refine W.seq ?_
 | refine W.block ?_
 | (refine W.region tys_ok [] ?_; conv => whnf)
 | (refine W.drawAll tys_ok [] mixed rfl ?_; conv => whnf)
 | (refine W.ret ?_; conv => whnf)
 | (refine W.skip ?_; conv => whnf)
 | (refine W.exit ?_; conv => whnf)
 | (refine Both.mk ?_ ?_ <;> (conv => whnf))
 | (refine W.cond rfl (fun hb => ?_) (fun hb => ?_) <;> (try simp only [zr, zd, zm, minL, maxL, pickB, zA] at hb) <;> (try (first | (cases hb; done) | exact absurd hb (by decide) | (exfalso; omega) | (omega))))
 | ((with_reducible refine And.intro ?_ ?_); exact zc; conv => whnf)
 | ((with_reducible refine And.intro (Side.out ?_) ?_); rotate_left; (conv => whnf))
 | ((first | refine retF1 ?_ | refine retF2 ?_ | refine subF.leaf ?_ | refine subF.side ?_) <;> (conv => whnf) <;> repeat' (first
 | exact trivial
 | (with_reducible rfl)
 | ((with_reducible refine And.intro ?_ ?_) <;> conv => whnf)
 | omega
 | rfl
 | (refine congrArg (SV.arr _) ?_)
 | (refine congrArg (Value.int _) ?_)
 | (refine congrArg Value.bool ?_)))); all_goals (try unfold Side)
     all_goals try (repeat' (first | exact zb | with_reducible refine And.intro ?_ ?_))
     all_goals first | exact (ks hb).1 | exact (ks hb).2 | exact Path.imp_of (k1 hb) | exact Path.imp_of (k2 hb) | exact Path.imp_of (k3 hb) | exact Path.imp_of k4 | exact Path.imp_of (k5 hb) | exact Path.imp_of k6 | exact ea0 hb | exact eb0 hb | (show (l.length + 1).le 4294967296; exact (by omega : l.length + 1 ≤ 4294967296)) | skip
     refine W.loop (fun k : Nat => ⟨[(0, .st false (.arr U2 x)), (3, (.lit (.int .i64 (n : Int)))), (4, .padr 4000 0), (5, .own 5000), (6, (.lit (.int .i64 (l.length : Int)))), (7, (.lit (.int .i64 (a : Int)))), (8, (.lit (.int .i64 (b : Int)))), (9, .own 9000), (10, (.lit (.int .i64 (k : Int))))], [(4000, .box [(.lit (.int .i64 (1 : Int))), .own 5001, .lit (.slice none 0 0)]), (5001, .row 30 JT true (l ++ [((a, b, 1, 1, ()) : Jb)])), (5000, .row 31 (.sl (.int .i64)) true (matT n l)), (9000, .row 3 (.int .i64) true (rowT k a b))]⟩) (fun k => k ≤ n) (fun k => n - k) (0) ?_ ?_
     · refine ⟨Nat.zero_le _, ?_⟩
       refine subF.ok ?_ <;> (conv => whnf) <;> repeat' (first
 | exact trivial
 | (with_reducible rfl)
 | ((with_reducible refine And.intro ?_ ?_) <;> conv => whnf)
 | omega
 | rfl
 | (refine congrArg (SV.arr _) ?_)
 | (refine congrArg (Value.int _) ?_)
 | (refine congrArg Value.bool ?_))
       all_goals skip
     · intro k hk
       by_cases hkn : k < n
       · by_cases hc : a ≤ (k : Int) ∧ (k : Int) < b
         · have hv : rowT k a b ++ [0] = rowT (k + 1) a b := by rw [← rowT_app]; unfold rcT; rw [if_pos hc]
           repeat' (first
 | refine W.seq ?_
 | refine W.block ?_
 | (refine W.region tys_ok [] ?_; conv => whnf)
 | (refine W.drawAll tys_ok [] mixed rfl ?_; conv => whnf)
 | (refine W.ret ?_; conv => whnf)
 | (refine W.skip ?_; conv => whnf)
 | (refine W.exit ?_; conv => whnf)
 | (refine W.cond rfl (fun hb => ?_) (fun hb => ?_) <;> (try simp only [zr, zd, zm, minL, maxL, pickB, zA] at hb) <;> (try (first | (cases hb; done) | exact absurd hb (by decide) | (exfalso; omega) | (omega) | ((simp [pickB] at hb; omega)))))
 | ((with_reducible refine And.intro ?_ ?_); exact zc; conv => whnf)
 | ((with_reducible refine And.intro (Side.out ?_) ?_); rotate_left; (conv => whnf))
 | ((first | refine retF1 ?_ | refine retF2 ?_) <;> (conv => whnf) <;> repeat' (first
 | exact trivial
 | (with_reducible rfl)
 | ((with_reducible refine And.intro ?_ ?_) <;> conv => whnf)
 | omega
 | rfl
 | (refine congrArg (SV.arr _) ?_)
 | (refine congrArg (Value.int _) ?_)
 | (refine congrArg Value.bool ?_)))); all_goals (try unfold Side)
           all_goals try (repeat' (first | exact zb | with_reducible refine And.intro ?_ ?_))
           all_goals first | (show ((rowT k a b).length + 1).le 4294967296; rw [rowT_len]; exact (by omega : k + 1 ≤ 4294967296)) | skip
           refine ⟨k + 1, ⟨by omega, by omega⟩, ?_⟩
           refine subF.ok ?_ <;> (conv => whnf) <;> repeat' (first
 | exact trivial
 | (with_reducible rfl)
 | ((with_reducible refine And.intro ?_ ?_) <;> conv => whnf)
 | omega
 | rfl
 | (refine congrArg (SV.arr _) ?_)
 | (refine congrArg (Value.int _) ?_)
 | (refine congrArg Value.bool ?_))
           all_goals first | exact hv | skip
         · have hv : rowT k a b ++ [1] = rowT (k + 1) a b := by rw [← rowT_app]; unfold rcT; rw [if_neg hc]
           repeat' (first
 | refine W.seq ?_
 | refine W.block ?_
 | (refine W.region tys_ok [] ?_; conv => whnf)
 | (refine W.drawAll tys_ok [] mixed rfl ?_; conv => whnf)
 | (refine W.ret ?_; conv => whnf)
 | (refine W.skip ?_; conv => whnf)
 | (refine W.exit ?_; conv => whnf)
 | (refine W.cond rfl (fun hb => ?_) (fun hb => ?_) <;> (try simp only [zr, zd, zm, minL, maxL, pickB, zA] at hb) <;> (try (first | (cases hb; done) | exact absurd hb (by decide) | (exfalso; omega) | (omega) | ((simp [pickB] at hb; omega)))))
 | ((with_reducible refine And.intro ?_ ?_); exact zc; conv => whnf)
 | ((with_reducible refine And.intro (Side.out ?_) ?_); rotate_left; (conv => whnf))
 | ((first | refine retF1 ?_ | refine retF2 ?_) <;> (conv => whnf) <;> repeat' (first
 | exact trivial
 | (with_reducible rfl)
 | ((with_reducible refine And.intro ?_ ?_) <;> conv => whnf)
 | omega
 | rfl
 | (refine congrArg (SV.arr _) ?_)
 | (refine congrArg (Value.int _) ?_)
 | (refine congrArg Value.bool ?_)))); all_goals (try unfold Side)
           all_goals try (repeat' (first | exact zb | with_reducible refine And.intro ?_ ?_))
           all_goals first | (show ((rowT k a b).length + 1).le 4294967296; rw [rowT_len]; exact (by omega : k + 1 ≤ 4294967296)) | skip
           refine ⟨k + 1, ⟨by omega, by omega⟩, ?_⟩
           refine subF.ok ?_ <;> (conv => whnf) <;> repeat' (first
 | exact trivial
 | (with_reducible rfl)
 | ((with_reducible refine And.intro ?_ ?_) <;> conv => whnf)
 | omega
 | rfl
 | (refine congrArg (SV.arr _) ?_)
 | (refine congrArg (Value.int _) ?_)
 | (refine congrArg Value.bool ?_))
           all_goals first | exact hv | skip
       · have hke : n = k := by omega
         subst hke
         have hm := matT_app (n := n) (l := l) (a := a) (b := b)
         have hap := hl.app hln h1 h3 h4
         have hll : (l ++ [((a, b, 1, 1, ()) : Jb)]).length = l.length + 1 := by rw [List.length_append, List.length_singleton]
         repeat' (first
 | refine W.seq ?_
 | refine W.block ?_
 | (refine W.resub (x := Code.region 19 _ _) (Γ' := ⟨[(0, .st false (.arr U2 x)), (3, (.lit (.int .i64 (n : Int)))), (4, .padr 4000 0), (5, .own 5000), (6, (.lit (.int .i64 (l.length : Int)))), (9, .st true (.arr (.int .i64) (rowT n a b)))], [(4000, .box [(.lit (.int .i64 (1 : Int))), .own 5001, .lit (.slice none 0 0)]), (5001, .row 30 JT true (l ++ [((a, b, 1, 1, ()) : Jb)])), (5000, .row 31 (.sl (.int .i64)) true (matT n l))]⟩) ?_ (W.region tys_ok [] ?_); rotate_left; (conv => whnf))
 | (refine W.region tys_ok [] ?_; conv => whnf)
 | (refine W.drawAll tys_ok [] mixed rfl ?_; conv => whnf)
 | (refine W.ret ?_; conv => whnf)
 | (refine W.skip ?_; conv => whnf)
 | (refine W.exit ?_; conv => whnf)
 | (refine W.cond rfl (fun hb => ?_) (fun hb => ?_) <;> (try simp only [zr, zd, zm, minL, maxL, pickB, zA] at hb) <;> (try (first | (cases hb; done) | exact absurd hb (by decide) | (exfalso; omega) | (omega))))
 | ((with_reducible refine And.intro ?_ ?_); exact zc; conv => whnf)
 | ((with_reducible refine And.intro (Side.out ?_) ?_); rotate_left; (conv => whnf))
 | ((first | refine retF1 ?_ | refine retF2 ?_) <;> (conv => whnf) <;> repeat' (first
 | exact trivial
 | (with_reducible rfl)
 | ((with_reducible refine And.intro ?_ ?_) <;> conv => whnf)
 | omega
 | rfl
 | (refine congrArg (SV.arr _) ?_)
 | (refine congrArg (Value.int _) ?_)
 | (refine congrArg Value.bool ?_)))); all_goals (try unfold Side)
         all_goals try refine subF.ok ?_ <;> (conv => whnf) <;> repeat' (first
 | exact trivial
 | (with_reducible rfl)
 | ((with_reducible refine And.intro ?_ ?_) <;> conv => whnf)
 | omega
 | rfl
 | (refine congrArg (SV.arr _) ?_)
 | (refine congrArg (Value.int _) ?_)
 | (refine congrArg Value.bool ?_))
         all_goals try (repeat' (first | exact zb | with_reducible refine And.intro ?_ ?_))
         all_goals first | (show ((matT n l).length + 1).le 4294967296; rw [matT_len]; exact (by omega : l.length + 1 ≤ 4294967296)) | skip
         refine ⟨l ++ [((a, b, 1, 1, ()) : Jb)], ⟨hap, by rw [hll]; omega⟩, ?_⟩
         refine subF.ok ?_ <;> (conv => whnf) <;> repeat' (first
 | exact trivial
 | (with_reducible rfl)
 | ((with_reducible refine And.intro ?_ ?_) <;> conv => whnf)
 | omega
 | rfl
 | (refine congrArg (SV.arr _) ?_)
 | (refine congrArg (Value.int _) ?_)
 | (refine congrArg Value.bool ?_))
         all_goals first | exact hm | skip
   · have hnl : l.length = n := by have := hl.ln; omega
     have htj := hl.all hnl
     have hvs := htj.vs
     have hal : ∀ i j, i < l.length → j < l.length → alC (matT n l) i j = alJ l i j := fun i j hi hj => by rw [← hnl]; exact al_of hi hj
     have hco : CO (matT n l) n := by rw [← hnl]; exact co_of htj
     obtain ⟨C, hC⟩ : ∃ C, C = matT n l := ⟨_, rfl⟩
     have hCl : C.length = l.length := by rw [hC, matT_len]
     rw [← hC] at hco hal
     rw [show n = C.length by omega] at hco
     have hcl : @List.length (Ty.sl (.int .i64)).T C = n := by show C.length = n; omega
     have hwW : way (alC C) C.length 0 = Wy (alC C) C.length C.length 0 := by unfold way; rw [pop_zero]; rfl
     by_cases hw : 0 < way (alC C) C.length 0
     · have hW : 0 < Wy (alC C) l.length l.length 0 := by rw [← hCl, ← hwW]; exact hw
       obtain ⟨e1, e2, e3, e4, e5⟩ := turn_yes htj hal hW
       have c2 := At_ok hco hw
       rw [← hCl] at e1 e5
       obtain ⟨G, hG⟩ : ∃ G, G = gl (alC C) C.length C.length 0 := ⟨_, rfl⟩
       have hGl : G.length = C.length := by rw [hG]; exact comp_len (gl_ok (by rw [← hwW]; exact hw)).1
       rw [← hG] at c2 e1
       have hgn : zN G ≠ [] := by rw [← e1]; exact e2
       have hgz : (zN G).length ≤ 1000 := by rw [zN_len]; omega
       have c1 := First_ok hvs e1 hgn
       have c3 := Lacks_no hco e5
       have c4 := Short_at hvs
       rw [if_neg e3, e4, hnl] at c4
       have c5 := same_at hgz hgz
       rw [decide_eq_true rfl] at c5
       have hzl : @List.length (Ty.int .i64).T (zN G) = (zN G).length := rfl
       repeat' (first
 | refine W.seq ?_
 | refine W.block ?_
 | (refine W.resub (x := Code.region 20 _ _) (Γ' := ⟨[(3, (.lit (.int .i64 (n : Int)))), (4, .st true (.sadr (.agg [I64 1, .arr JT l, .arr OT []]))), (5, .st true (.arr (.sl (.int .i64)) C))], []⟩) ?_ (W.region tys_ok [] ?_); rotate_left; (conv => whnf))
 | (refine W.resub (x := Code.region 27 _ _) (Γ' := ⟨[(3, (.lit (.int .i64 (n : Int)))), (12, .st true (.arr (.int .i64) (zN G : List Int))), (14, .st true (.arr (.int .i64) (zN G : List Int))), (19, (.lit (.int .i64 (n : Int)))), (20, (.lit (.int .i64 (0 : Int))))], []⟩) ?_ (W.region tys_ok [] ?_); rotate_left; (conv => whnf))
 | (refine W.region tys_ok [] ?_; conv => whnf)
 | (refine W.drawAll tys_ok [] mixed rfl ?_; conv => whnf)
 | (refine W.ret ?_; conv => whnf)
 | (refine W.skip ?_; conv => whnf)
 | (refine W.exit ?_; conv => whnf)
 | (refine call_at (al := true) (c1) rfl rfl rfl rfl ?_; conv => whnf)
 | (refine call_at (al := true) (c2) rfl rfl rfl rfl ?_; conv => whnf)
 | (refine call_at (al := true) (c3) rfl rfl rfl rfl ?_; conv => whnf)
 | (refine call_at (al := true) (c4) rfl rfl rfl rfl ?_; conv => whnf)
 | (refine call_at (al := false) (c5) rfl rfl rfl rfl ?_; conv => whnf)
 | (refine W.cond rfl (fun hb => ?_) (fun hb => ?_) <;> (try simp only [zr, zd, zm, minL, maxL, pickB, zA] at hb) <;> (try (first | (cases hb; done) | exact absurd hb (by decide) | (exfalso; omega) | (omega) | ((simp [pickB] at hb; omega)))))
 | ((with_reducible refine And.intro ?_ ?_); exact zc; conv => whnf)
 | ((with_reducible refine And.intro (Side.out ?_) ?_); rotate_left; (conv => whnf))
 | ((first | refine retF1 ?_ | refine retF2 ?_) <;> (conv => whnf) <;> repeat' (first
 | exact trivial
 | (with_reducible rfl)
 | ((with_reducible refine And.intro ?_ ?_) <;> conv => whnf)
 | omega
 | rfl
 | (refine congrArg (SV.arr _) ?_)
 | (refine congrArg (Value.int _) ?_)
 | (refine congrArg Value.bool ?_)))); all_goals (try unfold Side)
       all_goals try refine subF.ok ?_ <;> (conv => whnf) <;> repeat' (first
 | exact trivial
 | (with_reducible rfl)
 | ((with_reducible refine And.intro ?_ ?_) <;> conv => whnf)
 | omega
 | rfl
 | (refine congrArg (SV.arr _) ?_)
 | (refine congrArg (Value.int _) ?_)
 | (refine congrArg Value.bool ?_))
       all_goals try (repeat' (first | exact zb | with_reducible refine And.intro ?_ ?_))
       all_goals first | exact hC.symm | (simp [pickB]; done) | skip
     · have hw0 : way (alC C) C.length 0 = 0 := by omega
       have hW : ¬ 0 < Wy (alC C) l.length l.length 0 := by rw [← hCl, ← hwW]; exact hw
       obtain ⟨e1, S, e2, e3⟩ := turn_no htj hal hW
       rw [← hCl] at e2
       have c1 := First_none hvs e1
       have c2 := At_no hco hw0
       have c3 := Lacks_some hco e2
       have hSl : 0 < (zN S).length := by
        rw [zN_len]
        cases S with
        | nil => exact absurd rfl e3
        | cons a r => simp
       have hzl : @List.length (Ty.int .i64).T (zN S) = (zN S).length := rfl
       cases hg : (refT 1 l []).1 with
       | true =>
        have c4 := Refuse_ok hvs e1 hg
        have hN := refT_len' (P := 1) (l := l) (os := [])
        have hB := ref_proves' hg
        obtain ⟨N, hNd⟩ : ∃ N, N = (refT 1 l []).2 := ⟨_, rfl⟩
        rw [← hNd] at c4 hN hB
        have c5 := Proves_ok hvs hN
        rw [hB] at c5
        have hlN : @List.length NT.T N = N.length := rfl
        repeat' (first
 | refine W.seq ?_
 | refine W.block ?_
 | (refine W.resub (x := Code.region 20 _ _) (Γ' := ⟨[(3, (.lit (.int .i64 (n : Int)))), (4, .st true (.sadr (.agg [I64 1, .arr JT l, .arr OT []]))), (5, .st true (.arr (.sl (.int .i64)) C))], []⟩) ?_ (W.region tys_ok [] ?_); rotate_left; (conv => whnf))
 | (refine W.resub (x := Code.region 29 _ _) (Γ' := ⟨[(4, .st true (.sadr (.agg [I64 1, .arr JT l, .arr OT []]))), (16, .st true (.narr (.int .i64) (zN S : List Int))), (21, .st true (.arr NT N)), (22, (.lit (.int .i64 (0 : Int))))], []⟩) ?_ (W.region tys_ok [] ?_); rotate_left; (conv => whnf))
 | (refine W.region tys_ok [] ?_; conv => whnf)
 | (refine W.drawAll tys_ok [] mixed rfl ?_; conv => whnf)
 | (refine W.ret ?_; conv => whnf)
 | (refine W.skip ?_; conv => whnf)
 | (refine W.exit ?_; conv => whnf)
 | (refine call_at (al := true) (c1) rfl rfl rfl rfl ?_; conv => whnf)
 | (refine call_at (al := true) (c2) rfl rfl rfl rfl ?_; conv => whnf)
 | (refine call_at (al := true) (c3) rfl rfl rfl rfl ?_; conv => whnf)
 | (refine call_at (al := true) (c4) rfl rfl rfl rfl ?_; conv => whnf)
 | (refine call_at (al := false) (c5) rfl rfl rfl rfl ?_; conv => whnf)
 | (refine W.cond rfl (fun hb => ?_) (fun hb => ?_) <;> (try simp only [zr, zd, zm, minL, maxL, pickB, zA] at hb) <;> (try (first | (cases hb; done) | exact absurd hb (by decide) | (exfalso; omega) | (omega) | ((simp [pickB] at hb; omega)))))
 | ((with_reducible refine And.intro ?_ ?_); exact zc; conv => whnf)
 | ((with_reducible refine And.intro (Side.out ?_) ?_); rotate_left; (conv => whnf))
 | ((first | refine retF1 ?_ | refine retF2 ?_) <;> (conv => whnf) <;> repeat' (first
 | exact trivial
 | (with_reducible rfl)
 | ((with_reducible refine And.intro ?_ ?_) <;> conv => whnf)
 | omega
 | rfl
 | (refine congrArg (SV.arr _) ?_)
 | (refine congrArg (Value.int _) ?_)
 | (refine congrArg Value.bool ?_)))); all_goals (try unfold Side)
        all_goals try refine subF.ok ?_ <;> (conv => whnf) <;> repeat' (first
 | exact trivial
 | (with_reducible rfl)
 | ((with_reducible refine And.intro ?_ ?_) <;> conv => whnf)
 | omega
 | rfl
 | (refine congrArg (SV.arr _) ?_)
 | (refine congrArg (Value.int _) ?_)
 | (refine congrArg Value.bool ?_))
        all_goals try (repeat' (first | exact zb | with_reducible refine And.intro ?_ ?_))
        all_goals first | exact hC.symm | skip
       | false =>
        have c4 := Refuse_full hvs e1 hg
        have c5 := Proves_ok (pf := []) hvs (Nat.zero_le _)
        obtain ⟨b, hb0⟩ : ∃ b, b = provesB 1 l [] [] := ⟨_, rfl⟩
        rw [← hb0] at c5
        repeat' (first
 | refine W.seq ?_
 | refine W.block ?_
 | (refine W.resub (x := Code.region 20 _ _) (Γ' := ⟨[(3, (.lit (.int .i64 (n : Int)))), (4, .st true (.sadr (.agg [I64 1, .arr JT l, .arr OT []]))), (5, .st true (.arr (.sl (.int .i64)) C))], []⟩) ?_ (W.region tys_ok [] ?_); rotate_left; (conv => whnf))
 | (refine W.resub (x := Code.region 29 _ _) (Γ' := ⟨[(4, .st true (.sadr (.agg [I64 1, .arr JT l, .arr OT []]))), (16, .st true (.narr (.int .i64) (zN S : List Int))), (21, .st true (.arr NT [])), (22, (.lit (.int .i64 (4 : Int))))], []⟩) ?_ (W.region tys_ok [] ?_); rotate_left; (conv => whnf))
 | (refine W.region tys_ok [] ?_; conv => whnf)
 | (refine W.drawAll tys_ok [] mixed rfl ?_; conv => whnf)
 | (refine W.ret ?_; conv => whnf)
 | (refine W.skip ?_; conv => whnf)
 | (refine W.exit ?_; conv => whnf)
 | (refine call_at (al := true) (c1) rfl rfl rfl rfl ?_; conv => whnf)
 | (refine call_at (al := true) (c2) rfl rfl rfl rfl ?_; conv => whnf)
 | (refine call_at (al := true) (c3) rfl rfl rfl rfl ?_; conv => whnf)
 | (refine call_at (al := true) (c4) rfl rfl rfl rfl ?_; conv => whnf)
 | (refine call_at (al := false) (c5) rfl rfl rfl rfl ?_; conv => whnf)
 | (refine W.cond rfl (fun hb => ?_) (fun hb => ?_) <;> (try simp only [zr, zd, zm, minL, maxL, pickB, zA] at hb) <;> (try (first | (cases hb; done) | exact absurd hb (by decide) | (exfalso; omega) | (omega) | ((simp [pickB] at hb; omega)))))
 | ((with_reducible refine And.intro ?_ ?_); exact zc; conv => whnf)
 | ((with_reducible refine And.intro (Side.out ?_) ?_); rotate_left; (conv => whnf))
 | ((first | refine retF1 ?_ | refine retF2 ?_) <;> (conv => whnf) <;> repeat' (first
 | exact trivial
 | (with_reducible rfl)
 | ((with_reducible refine And.intro ?_ ?_) <;> conv => whnf)
 | omega
 | rfl
 | (refine congrArg (SV.arr _) ?_)
 | (refine congrArg (Value.int _) ?_)
 | (refine congrArg Value.bool ?_)))); all_goals (try unfold Side)
        all_goals try refine subF.ok ?_ <;> (conv => whnf) <;> repeat' (first
 | exact trivial
 | (with_reducible rfl)
 | ((with_reducible refine And.intro ?_ ?_) <;> conv => whnf)
 | omega
 | rfl
 | (refine congrArg (SV.arr _) ?_)
 | (refine congrArg (Value.int _) ?_)
 | (refine congrArg Value.bool ?_))
        all_goals try (repeat' (first | exact zb | with_reducible refine And.intro ?_ ?_))
        all_goals first | exact hC.symm | skip
end Go.Proofs.Ytckmhlpngolbpaa
