/- Joined of: K14 R23. No condition. -/
import Derived.Test.YtkjcnegkdlmapaaJ9
import Derived.Test.YtkjcnegkdlmapaaJ10
import Derived.Test.YtkjcnegkdlmapaaJ5
import Derived.Test.YtkjcnegkdlmapaaJ6
set_option linter.unusedVariables false
set_option linter.unusedSimpArgs false
namespace Go.Proofs.Ytkjcnegkdlmapaa
open Int renaming reduceToNat → zr, reduceTDiv → zd, reduceTMod → zm
open Go Go.Vc Go.Rg
def lr0 : Rn := rnew [7]
def lr1 : Rn := startK 0 lr0
def lr2 : Rn := rdelK true 0 lr1
def lr3 : Rn := rdelK true 0 lr2
def lw0 : Wk := begL 2
def lw1 : Wk := sendK 0 1 lw0
def lw2 : Wk := idleK 0 lw1
def lw3 : Wk := delK 0 lw2
def lw4 : Wk := idleK 1 lw3
def lw5 : Wk := delK 0 lw4
theorem lr0_ok : ROk 1 true lr0 := ROk.new (xs := [7]) (by decide) (by decide)
theorem lw0_ok : WOk 2 lw0 := WOk.beg (by decide) (by decide)
theorem s0 : startE 0 lr0 = 0 := by decide
theorem s1 : rdelE 0 lr1 = 0 := by decide
theorem s2 : rdelE 0 lr2 = 0 := by decide
theorem s3 : pL lr2.1 0 = 7 ∧ lr2.1.length = 1 := by decide
theorem s4 : lr3.2.2 = 2 := by decide
theorem q0 : sendE 0 1 lw0 = 0 := by decide
theorem q1 : idleE 0 lw1 = 0 := by decide
theorem q2 : endB lw2 = false := by decide
theorem q3 : delE 0 lw2 = 0 := by decide
theorem q4 : gp lw3.1 1 = 0 ∧ lw3.1.length = 2 := by decide
theorem q5 : idleE 1 lw3 = 0 := by decide
theorem q6 : delE 0 lw4 = 0 := by decide
theorem q7 : endB lw5 = true := by decide
theorem seven : ∀ i, i < [(7 : Int)].length → goodAt [7] i := fun i hi => by
 match i, hi with
 | 0, _ => exact ⟨by decide, by decide, by simp⟩
set_option maxHeartbeats 16000000 in
theorem lives_at : FnAt Try.prog false 16 [] (.lit (.bool true)) [] := by
 have k1 := lr0_ok.start (i := 0)
 have k2 := k1.del (i := 0)
 have t0 : lr0.2.2 ≤ 900000 := by decide
 have t1 : lr1.2.2 ≤ 900000 := by decide
 have t2 : lr2.2.2 ≤ 900000 := by decide
 have c0 := new_ok (xs := [7]) (pet := true) (by decide) (by decide) seven
 have c1 := start_ring (i := 0) (r2 := lr1) lr0_ok t0 s0 rfl
 have c2 := deliver_ring (i := 0) (r2 := lr2) k1 t1 s1 rfl
 have c3 := leader_in (pet := true) (r := lr2) (i := 0) (by rw [s3.2]; decide)
 rw [s3.1] at c3
 have c4 := deliver_ring (i := 0) (r2 := lr3) k2 t2 s2 rfl
 have c5 := sent_at (pet := true) (r := lr3)
 rw [s4] at c5
 have m1 := lw0_ok.send (a := 0) (b := 1)
 have m2 := m1.idle (i := 0)
 have m3 := m2.del (k := 0)
 have m4 := m3.idle (i := 1)
 have m5 := m4.del (k := 0)
 have d0 := begin_at (n := 2) (by decide) (by decide)
 have d1 := send_at (a := 0) (b := 1) (w2 := lw1) lw0_ok q0 rfl
 have d2 := idle_at (i := 0) (w2 := lw2) m1 q1 rfl
 have d3 := ended_at (hs := lw2.1) (fl := lw2.2) (b := false) (by rw [show lw2.1.length = 2 from m2.len]; decide) q2.symm
 have d4 := deliver_at (k := 0) (w2 := lw3) m2 q3 rfl
 have d5 := parent_in (hs := lw3.1) (fl := lw3.2) (i := 1) (by rw [q4.2]; decide)
 rw [q4.1] at d5
 have d6 := idle_at (i := 1) (w2 := lw4) m3 q5 rfl
 have d7 := deliver_at (k := 0) (w2 := lw5) m4 q6 rfl
 have d8 := ended_at (hs := lw5.1) (fl := lw5.2) (b := true) (by rw [show lw5.1.length = 2 from m5.len]; decide) q7.symm
 refine FnAt.of_body tys_ok Try.func16 (by rfl) rfl Try.ntmps16 (by rw [Try.results16]) (by simp) ?_
 repeat' (first
 | refine W.seq ?_
 | refine W.block ?_
 | (refine W.regionM (id := 1) tys_ok [6] [1] ?_; conv => whnf)
 | (refine W.regW (id := 2) ?_; refine RegW.cut tys_ok [6] [8,13,18,23,28,33,38] 0 ⟨[(1, .padr 8000 0), (2, (.lit (.int .i64 (0 : Int))))], [(8000, .box [.lit (.bool true), .lit (.bool true), .own 8001, .mown 8002, (.lit (.int .i64 ((lr0).2.2 : Int)))]), (8001, .row 105 PT true (lr0).1), (8002, .mat 80 91 NT true (lr0).2.1 none)]⟩ rfl ?_ ?_; (conv => whnf); rotate_left; refine RegW.cut tys_ok [6] [8,13,18,23,28,33,38] 11 ⟨[(1, .padr 8000 0), (20, .lit (.bool false))], [(8000, .box [.lit (.bool true), .lit (.bool true), .own 8001, .mown 8002, (.lit (.int .i64 ((lr1).2.2 : Int)))]), (8001, .row 105 PT true (lr1).1), (8002, .mat 80 91 NT true (lr1).2.1 none)]⟩ rfl ?_ ?_; (conv => whnf); rotate_left; refine RegW.cut tys_ok [6] [8,13,18,23,28,33,38] 16 ⟨[(1, .padr 8000 0), (25, .lit (.bool false))], [(8000, .box [.lit (.bool true), .lit (.bool true), .own 8001, .mown 8002, (.lit (.int .i64 ((lr2).2.2 : Int)))]), (8001, .row 105 PT true (lr2).1), (8002, .mat 80 91 NT true (lr2).2.1 none)]⟩ rfl ?_ ?_; (conv => whnf); rotate_left; refine RegW.cut tys_ok [6] [8,13,18,23,28,33,38] 21 ⟨[(1, .padr 8000 0), (30, .lit (.bool false))], [(8000, .box [.lit (.bool true), .lit (.bool true), .own 8001, .mown 8002, (.lit (.int .i64 ((lr2).2.2 : Int)))]), (8001, .row 105 PT true (lr2).1), (8002, .mat 80 91 NT true (lr2).2.1 none)]⟩ rfl ?_ ?_; (conv => whnf); rotate_left; refine RegW.cut tys_ok [6] [8,13,18,23,28,33,38] 26 ⟨[(1, .padr 8000 0), (35, .lit (.bool false))], [(8000, .box [.lit (.bool true), .lit (.bool true), .own 8001, .mown 8002, (.lit (.int .i64 ((lr3).2.2 : Int)))]), (8001, .row 105 PT true (lr3).1), (8002, .mat 80 91 NT true (lr3).2.1 none)]⟩ rfl ?_ ?_; (conv => whnf); rotate_left; refine RegW.fin tys_ok [6] [8,13,18,23,28,33,38] ?_; (conv => whnf))
 | (refine W.region tys_ok [6] ?_; conv => whnf)
 | (refine W.drawAll tys_ok [6] mixed rfl ?_; conv => whnf)
 | (refine W.ret ?_; conv => whnf)
 | (refine W.skip ?_; conv => whnf)
 | (refine W.exit ?_; conv => whnf)
 | (refine callM_at (c0) ?_; conv => whnf)
 | (refine Both.mk ?_ ?_ <;> (conv => whnf))
 | (refine W.cond rfl (fun hb => ?_) (fun hb => ?_) <;> (try simp only [zr, zd, zm, minL, maxL, pickB, zA] at hb) <;> (try (first | (cases hb; done) | exact absurd hb (by decide) | (exfalso; omega) | (omega))))
 | (refine Or.inl (And.intro ?_ ?_); exact zi; conv => whnf)
 | (refine Or.inr (And.intro ?_ ?_); exact zj; conv => whnf)
 | ((with_reducible refine And.intro ?_ ?_); exact zc; conv => whnf)
 | ((with_reducible refine And.intro (Side.out ?_) ?_); rotate_left; (conv => whnf))
 | ((first | refine retF1 ?_ | refine retF2 ?_ | refine subF.leaf ?_ | refine subF.side ?_) <;> (conv => whnf) <;> repeat' (first
 | exact trivial
 | (with_reducible rfl)
 | ((with_reducible refine And.intro ?_ ?_) <;> conv => whnf)
 | omega
 | rfl
 | (refine congrArg (SV.arr _) ?_)
 | (refine congrArg (Value.int _) ?_)
 | (refine congrArg Value.bool ?_)))); all_goals (try unfold Side)
 all_goals try (repeat' (first | exact zb | with_reducible refine And.intro ?_ ?_))
 · repeat' (first
 | refine W.seq ?_
 | refine W.block ?_
 | (refine W.regW (id := 999) ?_; refine RegW.cut tys_ok [] [1] 8 ⟨[(1, .padr 8000 0), (2, (.lit (.int .i64 (0 : Int))))], [(8000, .box [.lit (.bool true), .lit (.bool true), .own 8001, .mown 8002, (.lit (.int .i64 ((lr0).2.2 : Int)))]), (8001, .row 105 PT true (lr0).1), (8002, .mat 80 91 NT true (lr0).2.1 none)]⟩ rfl ?_ ?_; (conv => whnf); rotate_left; refine RegW.fin tys_ok [] [1] ?_; (conv => whnf))
 | (refine W.regionM (id := 4) tys_ok [] [0] ?_; conv => whnf)
 | (refine W.regW (id := 5) ?_; refine RegW.cut tys_ok [] [8,13,18,23,28,33,38,43] 0 ⟨[(3, .padr 43000 0), (4, (.lit (.int .i64 (0 : Int))))], [(43000, .box [.own 43001, .own 43002]), (43001, .row 96 HT true (lw0).1), (43002, .row 50 LT true (lw0).2)]⟩ rfl ?_ ?_; (conv => whnf); rotate_left; refine RegW.cut tys_ok [] [8,13,18,23,28,33,38,43] 11 ⟨[(3, .padr 43000 0), (55, .lit (.bool true))], [(43000, .box [.own 43001, .own 43002]), (43001, .row 96 HT true (lw1).1), (43002, .row 50 LT true (lw1).2)]⟩ rfl ?_ ?_; (conv => whnf); rotate_left; refine RegW.cut tys_ok [] [8,13,18,23,28,33,38,43] 16 ⟨[(3, .padr 43000 0), (60, .lit (.bool true))], [(43000, .box [.own 43001, .own 43002]), (43001, .row 96 HT true (lw2).1), (43002, .row 50 LT true (lw2).2)]⟩ rfl ?_ ?_; (conv => whnf); rotate_left; refine RegW.cut tys_ok [] [8,13,18,23,28,33,38,43] 21 ⟨[(3, .padr 43000 0), (65, .lit (.bool true))], [(43000, .box [.own 43001, .own 43002]), (43001, .row 96 HT true (lw2).1), (43002, .row 50 LT true (lw2).2)]⟩ rfl ?_ ?_; (conv => whnf); rotate_left; refine RegW.cut tys_ok [] [8,13,18,23,28,33,38,43] 26 ⟨[(3, .padr 43000 0), (70, .lit (.bool true))], [(43000, .box [.own 43001, .own 43002]), (43001, .row 96 HT true (lw3).1), (43002, .row 50 LT true (lw3).2)]⟩ rfl ?_ ?_; (conv => whnf); rotate_left; refine RegW.cut tys_ok [] [8,13,18,23,28,33,38,43] 31 ⟨[(3, .padr 43000 0), (75, .lit (.bool true))], [(43000, .box [.own 43001, .own 43002]), (43001, .row 96 HT true (lw3).1), (43002, .row 50 LT true (lw3).2)]⟩ rfl ?_ ?_; (conv => whnf); rotate_left; refine RegW.cut tys_ok [] [8,13,18,23,28,33,38,43] 36 ⟨[(3, .padr 43000 0), (80, .lit (.bool true))], [(43000, .box [.own 43001, .own 43002]), (43001, .row 96 HT true (lw4).1), (43002, .row 50 LT true (lw4).2)]⟩ rfl ?_ ?_; (conv => whnf); rotate_left; refine RegW.cut tys_ok [] [8,13,18,23,28,33,38,43] 41 ⟨[(3, .padr 43000 0), (85, .lit (.bool true))], [(43000, .box [.own 43001, .own 43002]), (43001, .row 96 HT true (lw5).1), (43002, .row 50 LT true (lw5).2)]⟩ rfl ?_ ?_; (conv => whnf); rotate_left; refine RegW.fin tys_ok [] [8,13,18,23,28,33,38,43] ?_; (conv => whnf))
 | (refine W.region tys_ok [] ?_; conv => whnf)
 | (refine W.drawAll tys_ok [] mixed rfl ?_; conv => whnf)
 | (refine W.ret ?_; conv => whnf)
 | (refine W.skip ?_; conv => whnf)
 | (refine W.exit ?_; conv => whnf)
 | (refine callM_at (c5) ?_; conv => whnf)
 | (refine callM_at (d0) ?_; conv => whnf)
 | (refine Both.mk ?_ ?_ <;> (conv => whnf))
 | (refine W.cond rfl (fun hb => ?_) (fun hb => ?_) <;> (try simp only [zr, zd, zm, minL, maxL, pickB, zA] at hb) <;> (try (first | (cases hb; done) | exact absurd hb (by decide) | (exfalso; omega) | (omega))))
 | (refine Or.inl (And.intro ?_ ?_); exact zi; conv => whnf)
 | (refine Or.inr (And.intro ?_ ?_); exact zj; conv => whnf)
 | ((with_reducible refine And.intro ?_ ?_); exact zc; conv => whnf)
 | ((with_reducible refine And.intro (Side.out ?_) ?_); rotate_left; (conv => whnf))
 | ((first | refine retF1 ?_ | refine retF2 ?_ | refine subF.leaf ?_ | refine subF.side ?_) <;> (conv => whnf) <;> repeat' (first
 | exact trivial
 | (with_reducible rfl)
 | ((with_reducible refine And.intro ?_ ?_) <;> conv => whnf)
 | omega
 | rfl
 | (refine congrArg (SV.arr _) ?_)
 | (refine congrArg (Value.int _) ?_)
 | (refine congrArg Value.bool ?_)))); all_goals (try unfold Side)
   all_goals try (repeat' (first | exact zb | with_reducible refine And.intro ?_ ?_))
   · repeat' (first
 | refine W.seq ?_
 | refine W.block ?_
 | (refine W.regW (id := 999) ?_; refine RegW.cut tys_ok [] [1] 8 ⟨[(1, .padr 8000 0), (2, (.lit (.int .i64 (0 : Int))))], [(8000, .box [.lit (.bool true), .lit (.bool true), .own 8001, .mown 8002, (.lit (.int .i64 ((lr0).2.2 : Int)))]), (8001, .row 105 PT true (lr0).1), (8002, .mat 80 91 NT true (lr0).2.1 none)]⟩ rfl ?_ ?_; (conv => whnf); rotate_left; refine RegW.fin tys_ok [] [1] ?_; (conv => whnf))
 | (refine W.region tys_ok [] ?_; conv => whnf)
 | (refine W.drawAll tys_ok [] mixed rfl ?_; conv => whnf)
 | (refine W.ret ?_; conv => whnf)
 | (refine W.skip ?_; conv => whnf)
 | (refine W.exit ?_; conv => whnf)
 | (refine callM_at (d8) ?_; conv => whnf)
 | (refine Both.mk ?_ ?_ <;> (conv => whnf))
 | (refine W.cond rfl (fun hb => ?_) (fun hb => ?_) <;> (try simp only [zr, zd, zm, minL, maxL, pickB, zA] at hb) <;> (try (first | (cases hb; done) | exact absurd hb (by decide) | (exfalso; omega) | (omega))))
 | (refine Or.inl (And.intro ?_ ?_); exact zi; conv => whnf)
 | (refine Or.inr (And.intro ?_ ?_); exact zj; conv => whnf)
 | ((with_reducible refine And.intro ?_ ?_); exact zc; conv => whnf)
 | ((with_reducible refine And.intro (Side.out ?_) ?_); rotate_left; (conv => whnf))
 | ((first | refine retF1 ?_ | refine retF2 ?_ | refine subF.leaf ?_ | refine subF.side ?_) <;> (conv => whnf) <;> repeat' (first
 | exact trivial
 | (with_reducible rfl)
 | ((with_reducible refine And.intro ?_ ?_) <;> conv => whnf)
 | omega
 | rfl
 | (refine congrArg (SV.arr _) ?_)
 | (refine congrArg (Value.int _) ?_)
 | (refine congrArg Value.bool ?_)))); all_goals (try unfold Side)
     all_goals try (repeat' (first | exact zb | with_reducible refine And.intro ?_ ?_))
   · repeat' (first
 | refine W.seq ?_
 | refine W.block ?_
 | (refine W.regW (id := 999) ?_; refine RegW.cut tys_ok [] [1] 8 ⟨[(1, .padr 8000 0), (2, (.lit (.int .i64 (0 : Int))))], [(8000, .box [.lit (.bool true), .lit (.bool true), .own 8001, .mown 8002, (.lit (.int .i64 ((lr0).2.2 : Int)))]), (8001, .row 105 PT true (lr0).1), (8002, .mat 80 91 NT true (lr0).2.1 none)]⟩ rfl ?_ ?_; (conv => whnf); rotate_left; refine RegW.fin tys_ok [] [1] ?_; (conv => whnf))
 | (refine W.region tys_ok [] ?_; conv => whnf)
 | (refine W.drawAll tys_ok [] mixed rfl ?_; conv => whnf)
 | (refine W.ret ?_; conv => whnf)
 | (refine W.skip ?_; conv => whnf)
 | (refine W.exit ?_; conv => whnf)
 | (refine callM_at (d1) ?_; conv => whnf)
 | (refine Both.mk ?_ ?_ <;> (conv => whnf))
 | (refine W.cond rfl (fun hb => ?_) (fun hb => ?_) <;> (try simp only [zr, zd, zm, minL, maxL, pickB, zA] at hb) <;> (try (first | (cases hb; done) | exact absurd hb (by decide) | (exfalso; omega) | (omega))))
 | (refine Or.inl (And.intro ?_ ?_); exact zi; conv => whnf)
 | (refine Or.inr (And.intro ?_ ?_); exact zj; conv => whnf)
 | ((with_reducible refine And.intro ?_ ?_); exact zc; conv => whnf)
 | ((with_reducible refine And.intro (Side.out ?_) ?_); rotate_left; (conv => whnf))
 | ((first | refine retF1 ?_ | refine retF2 ?_ | refine subF.leaf ?_ | refine subF.side ?_) <;> (conv => whnf) <;> repeat' (first
 | exact trivial
 | (with_reducible rfl)
 | ((with_reducible refine And.intro ?_ ?_) <;> conv => whnf)
 | omega
 | rfl
 | (refine congrArg (SV.arr _) ?_)
 | (refine congrArg (Value.int _) ?_)
 | (refine congrArg Value.bool ?_)))); all_goals (try unfold Side)
     all_goals try (repeat' (first | exact zb | with_reducible refine And.intro ?_ ?_))
   · repeat' (first
 | refine W.seq ?_
 | refine W.block ?_
 | (refine W.regW (id := 999) ?_; refine RegW.cut tys_ok [] [1] 8 ⟨[(1, .padr 8000 0), (2, (.lit (.int .i64 (0 : Int))))], [(8000, .box [.lit (.bool true), .lit (.bool true), .own 8001, .mown 8002, (.lit (.int .i64 ((lr0).2.2 : Int)))]), (8001, .row 105 PT true (lr0).1), (8002, .mat 80 91 NT true (lr0).2.1 none)]⟩ rfl ?_ ?_; (conv => whnf); rotate_left; refine RegW.fin tys_ok [] [1] ?_; (conv => whnf))
 | (refine W.region tys_ok [] ?_; conv => whnf)
 | (refine W.drawAll tys_ok [] mixed rfl ?_; conv => whnf)
 | (refine W.ret ?_; conv => whnf)
 | (refine W.skip ?_; conv => whnf)
 | (refine W.exit ?_; conv => whnf)
 | (refine callM_at (d2) ?_; conv => whnf)
 | (refine Both.mk ?_ ?_ <;> (conv => whnf))
 | (refine W.cond rfl (fun hb => ?_) (fun hb => ?_) <;> (try simp only [zr, zd, zm, minL, maxL, pickB, zA] at hb) <;> (try (first | (cases hb; done) | exact absurd hb (by decide) | (exfalso; omega) | (omega))))
 | (refine Or.inl (And.intro ?_ ?_); exact zi; conv => whnf)
 | (refine Or.inr (And.intro ?_ ?_); exact zj; conv => whnf)
 | ((with_reducible refine And.intro ?_ ?_); exact zc; conv => whnf)
 | ((with_reducible refine And.intro (Side.out ?_) ?_); rotate_left; (conv => whnf))
 | ((first | refine retF1 ?_ | refine retF2 ?_ | refine subF.leaf ?_ | refine subF.side ?_) <;> (conv => whnf) <;> repeat' (first
 | exact trivial
 | (with_reducible rfl)
 | ((with_reducible refine And.intro ?_ ?_) <;> conv => whnf)
 | omega
 | rfl
 | (refine congrArg (SV.arr _) ?_)
 | (refine congrArg (Value.int _) ?_)
 | (refine congrArg Value.bool ?_)))); all_goals (try unfold Side)
     all_goals try (repeat' (first | exact zb | with_reducible refine And.intro ?_ ?_))
   · repeat' (first
 | refine W.seq ?_
 | refine W.block ?_
 | (refine W.regW (id := 999) ?_; refine RegW.cut tys_ok [] [1] 8 ⟨[(1, .padr 8000 0), (2, (.lit (.int .i64 (0 : Int))))], [(8000, .box [.lit (.bool true), .lit (.bool true), .own 8001, .mown 8002, (.lit (.int .i64 ((lr0).2.2 : Int)))]), (8001, .row 105 PT true (lr0).1), (8002, .mat 80 91 NT true (lr0).2.1 none)]⟩ rfl ?_ ?_; (conv => whnf); rotate_left; refine RegW.fin tys_ok [] [1] ?_; (conv => whnf))
 | (refine W.region tys_ok [] ?_; conv => whnf)
 | (refine W.drawAll tys_ok [] mixed rfl ?_; conv => whnf)
 | (refine W.ret ?_; conv => whnf)
 | (refine W.skip ?_; conv => whnf)
 | (refine W.exit ?_; conv => whnf)
 | (refine callM_at (d3) ?_; conv => whnf)
 | (refine Both.mk ?_ ?_ <;> (conv => whnf))
 | (refine W.cond rfl (fun hb => ?_) (fun hb => ?_) <;> (try simp only [zr, zd, zm, minL, maxL, pickB, zA] at hb) <;> (try (first | (cases hb; done) | exact absurd hb (by decide) | (exfalso; omega) | (omega))))
 | (refine Or.inl (And.intro ?_ ?_); exact zi; conv => whnf)
 | (refine Or.inr (And.intro ?_ ?_); exact zj; conv => whnf)
 | ((with_reducible refine And.intro ?_ ?_); exact zc; conv => whnf)
 | ((with_reducible refine And.intro (Side.out ?_) ?_); rotate_left; (conv => whnf))
 | ((first | refine retF1 ?_ | refine retF2 ?_ | refine subF.leaf ?_ | refine subF.side ?_) <;> (conv => whnf) <;> repeat' (first
 | exact trivial
 | (with_reducible rfl)
 | ((with_reducible refine And.intro ?_ ?_) <;> conv => whnf)
 | omega
 | rfl
 | (refine congrArg (SV.arr _) ?_)
 | (refine congrArg (Value.int _) ?_)
 | (refine congrArg Value.bool ?_)))); all_goals (try unfold Side)
     all_goals try (repeat' (first | exact zb | with_reducible refine And.intro ?_ ?_))
   · repeat' (first
 | refine W.seq ?_
 | refine W.block ?_
 | (refine W.regW (id := 999) ?_; refine RegW.cut tys_ok [] [1] 8 ⟨[(1, .padr 8000 0), (2, (.lit (.int .i64 (0 : Int))))], [(8000, .box [.lit (.bool true), .lit (.bool true), .own 8001, .mown 8002, (.lit (.int .i64 ((lr0).2.2 : Int)))]), (8001, .row 105 PT true (lr0).1), (8002, .mat 80 91 NT true (lr0).2.1 none)]⟩ rfl ?_ ?_; (conv => whnf); rotate_left; refine RegW.fin tys_ok [] [1] ?_; (conv => whnf))
 | (refine W.region tys_ok [] ?_; conv => whnf)
 | (refine W.drawAll tys_ok [] mixed rfl ?_; conv => whnf)
 | (refine W.ret ?_; conv => whnf)
 | (refine W.skip ?_; conv => whnf)
 | (refine W.exit ?_; conv => whnf)
 | (refine callM_at (d4) ?_; conv => whnf)
 | (refine Both.mk ?_ ?_ <;> (conv => whnf))
 | (refine W.cond rfl (fun hb => ?_) (fun hb => ?_) <;> (try simp only [zr, zd, zm, minL, maxL, pickB, zA] at hb) <;> (try (first | (cases hb; done) | exact absurd hb (by decide) | (exfalso; omega) | (omega))))
 | (refine Or.inl (And.intro ?_ ?_); exact zi; conv => whnf)
 | (refine Or.inr (And.intro ?_ ?_); exact zj; conv => whnf)
 | ((with_reducible refine And.intro ?_ ?_); exact zc; conv => whnf)
 | ((with_reducible refine And.intro (Side.out ?_) ?_); rotate_left; (conv => whnf))
 | ((first | refine retF1 ?_ | refine retF2 ?_ | refine subF.leaf ?_ | refine subF.side ?_) <;> (conv => whnf) <;> repeat' (first
 | exact trivial
 | (with_reducible rfl)
 | ((with_reducible refine And.intro ?_ ?_) <;> conv => whnf)
 | omega
 | rfl
 | (refine congrArg (SV.arr _) ?_)
 | (refine congrArg (Value.int _) ?_)
 | (refine congrArg Value.bool ?_)))); all_goals (try unfold Side)
     all_goals try (repeat' (first | exact zb | with_reducible refine And.intro ?_ ?_))
   · repeat' (first
 | refine W.seq ?_
 | refine W.block ?_
 | (refine W.regW (id := 999) ?_; refine RegW.cut tys_ok [] [1] 8 ⟨[(1, .padr 8000 0), (2, (.lit (.int .i64 (0 : Int))))], [(8000, .box [.lit (.bool true), .lit (.bool true), .own 8001, .mown 8002, (.lit (.int .i64 ((lr0).2.2 : Int)))]), (8001, .row 105 PT true (lr0).1), (8002, .mat 80 91 NT true (lr0).2.1 none)]⟩ rfl ?_ ?_; (conv => whnf); rotate_left; refine RegW.fin tys_ok [] [1] ?_; (conv => whnf))
 | (refine W.region tys_ok [] ?_; conv => whnf)
 | (refine W.drawAll tys_ok [] mixed rfl ?_; conv => whnf)
 | (refine W.ret ?_; conv => whnf)
 | (refine W.skip ?_; conv => whnf)
 | (refine W.exit ?_; conv => whnf)
 | (refine callM_at (d5) ?_; conv => whnf)
 | (refine Both.mk ?_ ?_ <;> (conv => whnf))
 | (refine W.cond rfl (fun hb => ?_) (fun hb => ?_) <;> (try simp only [zr, zd, zm, minL, maxL, pickB, zA] at hb) <;> (try (first | (cases hb; done) | exact absurd hb (by decide) | (exfalso; omega) | (omega))))
 | (refine Or.inl (And.intro ?_ ?_); exact zi; conv => whnf)
 | (refine Or.inr (And.intro ?_ ?_); exact zj; conv => whnf)
 | ((with_reducible refine And.intro ?_ ?_); exact zc; conv => whnf)
 | ((with_reducible refine And.intro (Side.out ?_) ?_); rotate_left; (conv => whnf))
 | ((first | refine retF1 ?_ | refine retF2 ?_ | refine subF.leaf ?_ | refine subF.side ?_) <;> (conv => whnf) <;> repeat' (first
 | exact trivial
 | (with_reducible rfl)
 | ((with_reducible refine And.intro ?_ ?_) <;> conv => whnf)
 | omega
 | rfl
 | (refine congrArg (SV.arr _) ?_)
 | (refine congrArg (Value.int _) ?_)
 | (refine congrArg Value.bool ?_)))); all_goals (try unfold Side)
     all_goals try (repeat' (first | exact zb | with_reducible refine And.intro ?_ ?_))
   · repeat' (first
 | refine W.seq ?_
 | refine W.block ?_
 | (refine W.regW (id := 999) ?_; refine RegW.cut tys_ok [] [1] 8 ⟨[(1, .padr 8000 0), (2, (.lit (.int .i64 (0 : Int))))], [(8000, .box [.lit (.bool true), .lit (.bool true), .own 8001, .mown 8002, (.lit (.int .i64 ((lr0).2.2 : Int)))]), (8001, .row 105 PT true (lr0).1), (8002, .mat 80 91 NT true (lr0).2.1 none)]⟩ rfl ?_ ?_; (conv => whnf); rotate_left; refine RegW.fin tys_ok [] [1] ?_; (conv => whnf))
 | (refine W.region tys_ok [] ?_; conv => whnf)
 | (refine W.drawAll tys_ok [] mixed rfl ?_; conv => whnf)
 | (refine W.ret ?_; conv => whnf)
 | (refine W.skip ?_; conv => whnf)
 | (refine W.exit ?_; conv => whnf)
 | (refine callM_at (d6) ?_; conv => whnf)
 | (refine Both.mk ?_ ?_ <;> (conv => whnf))
 | (refine W.cond rfl (fun hb => ?_) (fun hb => ?_) <;> (try simp only [zr, zd, zm, minL, maxL, pickB, zA] at hb) <;> (try (first | (cases hb; done) | exact absurd hb (by decide) | (exfalso; omega) | (omega))))
 | (refine Or.inl (And.intro ?_ ?_); exact zi; conv => whnf)
 | (refine Or.inr (And.intro ?_ ?_); exact zj; conv => whnf)
 | ((with_reducible refine And.intro ?_ ?_); exact zc; conv => whnf)
 | ((with_reducible refine And.intro (Side.out ?_) ?_); rotate_left; (conv => whnf))
 | ((first | refine retF1 ?_ | refine retF2 ?_ | refine subF.leaf ?_ | refine subF.side ?_) <;> (conv => whnf) <;> repeat' (first
 | exact trivial
 | (with_reducible rfl)
 | ((with_reducible refine And.intro ?_ ?_) <;> conv => whnf)
 | omega
 | rfl
 | (refine congrArg (SV.arr _) ?_)
 | (refine congrArg (Value.int _) ?_)
 | (refine congrArg Value.bool ?_)))); all_goals (try unfold Side)
     all_goals try (repeat' (first | exact zb | with_reducible refine And.intro ?_ ?_))
   · repeat' (first
 | refine W.seq ?_
 | refine W.block ?_
 | (refine W.regW (id := 999) ?_; refine RegW.cut tys_ok [] [1] 8 ⟨[(1, .padr 8000 0), (2, (.lit (.int .i64 (0 : Int))))], [(8000, .box [.lit (.bool true), .lit (.bool true), .own 8001, .mown 8002, (.lit (.int .i64 ((lr0).2.2 : Int)))]), (8001, .row 105 PT true (lr0).1), (8002, .mat 80 91 NT true (lr0).2.1 none)]⟩ rfl ?_ ?_; (conv => whnf); rotate_left; refine RegW.fin tys_ok [] [1] ?_; (conv => whnf))
 | (refine W.region tys_ok [] ?_; conv => whnf)
 | (refine W.drawAll tys_ok [] mixed rfl ?_; conv => whnf)
 | (refine W.ret ?_; conv => whnf)
 | (refine W.skip ?_; conv => whnf)
 | (refine W.exit ?_; conv => whnf)
 | (refine callM_at (d7) ?_; conv => whnf)
 | (refine Both.mk ?_ ?_ <;> (conv => whnf))
 | (refine W.cond rfl (fun hb => ?_) (fun hb => ?_) <;> (try simp only [zr, zd, zm, minL, maxL, pickB, zA] at hb) <;> (try (first | (cases hb; done) | exact absurd hb (by decide) | (exfalso; omega) | (omega))))
 | (refine Or.inl (And.intro ?_ ?_); exact zi; conv => whnf)
 | (refine Or.inr (And.intro ?_ ?_); exact zj; conv => whnf)
 | ((with_reducible refine And.intro ?_ ?_); exact zc; conv => whnf)
 | ((with_reducible refine And.intro (Side.out ?_) ?_); rotate_left; (conv => whnf))
 | ((first | refine retF1 ?_ | refine retF2 ?_ | refine subF.leaf ?_ | refine subF.side ?_) <;> (conv => whnf) <;> repeat' (first
 | exact trivial
 | (with_reducible rfl)
 | ((with_reducible refine And.intro ?_ ?_) <;> conv => whnf)
 | omega
 | rfl
 | (refine congrArg (SV.arr _) ?_)
 | (refine congrArg (Value.int _) ?_)
 | (refine congrArg Value.bool ?_)))); all_goals (try unfold Side)
     all_goals try (repeat' (first | exact zb | with_reducible refine And.intro ?_ ?_))
 · repeat' (first
 | refine W.seq ?_
 | refine W.block ?_
 | (refine W.regW (id := 999) ?_; refine RegW.cut tys_ok [] [1] 8 ⟨[(1, .padr 8000 0), (2, (.lit (.int .i64 (0 : Int))))], [(8000, .box [.lit (.bool true), .lit (.bool true), .own 8001, .mown 8002, (.lit (.int .i64 ((lr0).2.2 : Int)))]), (8001, .row 105 PT true (lr0).1), (8002, .mat 80 91 NT true (lr0).2.1 none)]⟩ rfl ?_ ?_; (conv => whnf); rotate_left; refine RegW.fin tys_ok [] [1] ?_; (conv => whnf))
 | (refine W.region tys_ok [] ?_; conv => whnf)
 | (refine W.drawAll tys_ok [] mixed rfl ?_; conv => whnf)
 | (refine W.ret ?_; conv => whnf)
 | (refine W.skip ?_; conv => whnf)
 | (refine W.exit ?_; conv => whnf)
 | (refine callM_at (c1) ?_; conv => whnf)
 | (refine Both.mk ?_ ?_ <;> (conv => whnf))
 | (refine W.cond rfl (fun hb => ?_) (fun hb => ?_) <;> (try simp only [zr, zd, zm, minL, maxL, pickB, zA] at hb) <;> (try (first | (cases hb; done) | exact absurd hb (by decide) | (exfalso; omega) | (omega))))
 | (refine Or.inl (And.intro ?_ ?_); exact zi; conv => whnf)
 | (refine Or.inr (And.intro ?_ ?_); exact zj; conv => whnf)
 | ((with_reducible refine And.intro ?_ ?_); exact zc; conv => whnf)
 | ((with_reducible refine And.intro (Side.out ?_) ?_); rotate_left; (conv => whnf))
 | ((first | refine retF1 ?_ | refine retF2 ?_ | refine subF.leaf ?_ | refine subF.side ?_) <;> (conv => whnf) <;> repeat' (first
 | exact trivial
 | (with_reducible rfl)
 | ((with_reducible refine And.intro ?_ ?_) <;> conv => whnf)
 | omega
 | rfl
 | (refine congrArg (SV.arr _) ?_)
 | (refine congrArg (Value.int _) ?_)
 | (refine congrArg Value.bool ?_)))); all_goals (try unfold Side)
   all_goals try (repeat' (first | exact zb | with_reducible refine And.intro ?_ ?_))
 · repeat' (first
 | refine W.seq ?_
 | refine W.block ?_
 | (refine W.regW (id := 999) ?_; refine RegW.cut tys_ok [] [1] 8 ⟨[(1, .padr 8000 0), (2, (.lit (.int .i64 (0 : Int))))], [(8000, .box [.lit (.bool true), .lit (.bool true), .own 8001, .mown 8002, (.lit (.int .i64 ((lr0).2.2 : Int)))]), (8001, .row 105 PT true (lr0).1), (8002, .mat 80 91 NT true (lr0).2.1 none)]⟩ rfl ?_ ?_; (conv => whnf); rotate_left; refine RegW.fin tys_ok [] [1] ?_; (conv => whnf))
 | (refine W.region tys_ok [] ?_; conv => whnf)
 | (refine W.drawAll tys_ok [] mixed rfl ?_; conv => whnf)
 | (refine W.ret ?_; conv => whnf)
 | (refine W.skip ?_; conv => whnf)
 | (refine W.exit ?_; conv => whnf)
 | (refine callM_at (c2) ?_; conv => whnf)
 | (refine Both.mk ?_ ?_ <;> (conv => whnf))
 | (refine W.cond rfl (fun hb => ?_) (fun hb => ?_) <;> (try simp only [zr, zd, zm, minL, maxL, pickB, zA] at hb) <;> (try (first | (cases hb; done) | exact absurd hb (by decide) | (exfalso; omega) | (omega))))
 | (refine Or.inl (And.intro ?_ ?_); exact zi; conv => whnf)
 | (refine Or.inr (And.intro ?_ ?_); exact zj; conv => whnf)
 | ((with_reducible refine And.intro ?_ ?_); exact zc; conv => whnf)
 | ((with_reducible refine And.intro (Side.out ?_) ?_); rotate_left; (conv => whnf))
 | ((first | refine retF1 ?_ | refine retF2 ?_ | refine subF.leaf ?_ | refine subF.side ?_) <;> (conv => whnf) <;> repeat' (first
 | exact trivial
 | (with_reducible rfl)
 | ((with_reducible refine And.intro ?_ ?_) <;> conv => whnf)
 | omega
 | rfl
 | (refine congrArg (SV.arr _) ?_)
 | (refine congrArg (Value.int _) ?_)
 | (refine congrArg Value.bool ?_)))); all_goals (try unfold Side)
   all_goals try (repeat' (first | exact zb | with_reducible refine And.intro ?_ ?_))
 · repeat' (first
 | refine W.seq ?_
 | refine W.block ?_
 | (refine W.regW (id := 999) ?_; refine RegW.cut tys_ok [] [1] 8 ⟨[(1, .padr 8000 0), (2, (.lit (.int .i64 (0 : Int))))], [(8000, .box [.lit (.bool true), .lit (.bool true), .own 8001, .mown 8002, (.lit (.int .i64 ((lr0).2.2 : Int)))]), (8001, .row 105 PT true (lr0).1), (8002, .mat 80 91 NT true (lr0).2.1 none)]⟩ rfl ?_ ?_; (conv => whnf); rotate_left; refine RegW.fin tys_ok [] [1] ?_; (conv => whnf))
 | (refine W.region tys_ok [] ?_; conv => whnf)
 | (refine W.drawAll tys_ok [] mixed rfl ?_; conv => whnf)
 | (refine W.ret ?_; conv => whnf)
 | (refine W.skip ?_; conv => whnf)
 | (refine W.exit ?_; conv => whnf)
 | (refine callM_at (c3) ?_; conv => whnf)
 | (refine Both.mk ?_ ?_ <;> (conv => whnf))
 | (refine W.cond rfl (fun hb => ?_) (fun hb => ?_) <;> (try simp only [zr, zd, zm, minL, maxL, pickB, zA] at hb) <;> (try (first | (cases hb; done) | exact absurd hb (by decide) | (exfalso; omega) | (omega))))
 | (refine Or.inl (And.intro ?_ ?_); exact zi; conv => whnf)
 | (refine Or.inr (And.intro ?_ ?_); exact zj; conv => whnf)
 | ((with_reducible refine And.intro ?_ ?_); exact zc; conv => whnf)
 | ((with_reducible refine And.intro (Side.out ?_) ?_); rotate_left; (conv => whnf))
 | ((first | refine retF1 ?_ | refine retF2 ?_ | refine subF.leaf ?_ | refine subF.side ?_) <;> (conv => whnf) <;> repeat' (first
 | exact trivial
 | (with_reducible rfl)
 | ((with_reducible refine And.intro ?_ ?_) <;> conv => whnf)
 | omega
 | rfl
 | (refine congrArg (SV.arr _) ?_)
 | (refine congrArg (Value.int _) ?_)
 | (refine congrArg Value.bool ?_)))); all_goals (try unfold Side)
   all_goals try (repeat' (first | exact zb | with_reducible refine And.intro ?_ ?_))
 · repeat' (first
 | refine W.seq ?_
 | refine W.block ?_
 | (refine W.regW (id := 999) ?_; refine RegW.cut tys_ok [] [1] 8 ⟨[(1, .padr 8000 0), (2, (.lit (.int .i64 (0 : Int))))], [(8000, .box [.lit (.bool true), .lit (.bool true), .own 8001, .mown 8002, (.lit (.int .i64 ((lr0).2.2 : Int)))]), (8001, .row 105 PT true (lr0).1), (8002, .mat 80 91 NT true (lr0).2.1 none)]⟩ rfl ?_ ?_; (conv => whnf); rotate_left; refine RegW.fin tys_ok [] [1] ?_; (conv => whnf))
 | (refine W.region tys_ok [] ?_; conv => whnf)
 | (refine W.drawAll tys_ok [] mixed rfl ?_; conv => whnf)
 | (refine W.ret ?_; conv => whnf)
 | (refine W.skip ?_; conv => whnf)
 | (refine W.exit ?_; conv => whnf)
 | (refine callM_at (c4) ?_; conv => whnf)
 | (refine Both.mk ?_ ?_ <;> (conv => whnf))
 | (refine W.cond rfl (fun hb => ?_) (fun hb => ?_) <;> (try simp only [zr, zd, zm, minL, maxL, pickB, zA] at hb) <;> (try (first | (cases hb; done) | exact absurd hb (by decide) | (exfalso; omega) | (omega))))
 | (refine Or.inl (And.intro ?_ ?_); exact zi; conv => whnf)
 | (refine Or.inr (And.intro ?_ ?_); exact zj; conv => whnf)
 | ((with_reducible refine And.intro ?_ ?_); exact zc; conv => whnf)
 | ((with_reducible refine And.intro (Side.out ?_) ?_); rotate_left; (conv => whnf))
 | ((first | refine retF1 ?_ | refine retF2 ?_ | refine subF.leaf ?_ | refine subF.side ?_) <;> (conv => whnf) <;> repeat' (first
 | exact trivial
 | (with_reducible rfl)
 | ((with_reducible refine And.intro ?_ ?_) <;> conv => whnf)
 | omega
 | rfl
 | (refine congrArg (SV.arr _) ?_)
 | (refine congrArg (Value.int _) ?_)
 | (refine congrArg Value.bool ?_)))); all_goals (try unfold Side)
   all_goals try (repeat' (first | exact zb | with_reducible refine And.intro ?_ ?_))
open Go Go.Vc Go.Rg
set_option maxHeartbeats 8000000 in
theorem RingNobody_at (i k : Int) : FnAt Try.prog false 13 [.lit (.int .i64 i), .lit (.int .i64 k)] (.lit (.bool true)) [] := by
 have c0 := lives_at
 refine FnAt.of_body tys_ok Try.func13 (by rfl) rfl Try.ntmps13 (by rw [Try.results13]) (by simp) ?_
 repeat' (first
 | refine W.seq ?_
 | refine W.block ?_
 | (refine W.regW (id := 3) ?_; refine RegW.goV tys_ok [] [] 3 rfl ?_; (conv => whnf); refine And.intro ⟨rfl, rfl⟩ ?_; (conv => whnf); refine And.intro rfl ?_; (conv => whnf); refine RegW.frz (t := 13) rfl rfl rfl ?_; refine RegW.finV tys_ok [] [3003, 3004] ?_; (conv => whnf))
 | (refine W.region tys_ok [] ?_; conv => whnf)
 | (refine W.drawAll tys_ok [] mixed rfl ?_; conv => whnf)
 | (refine W.ret ?_; conv => whnf)
 | (refine W.skip ?_; conv => whnf)
 | (refine W.exit ?_; conv => whnf)
 | (refine Both.mk ?_ ?_ <;> (conv => whnf))
 | (refine W.cond rfl (fun hb => ?_) (fun hb => ?_) <;> (try simp only [zr, zd, zm, minL, maxL, pickB, zA] at hb) <;> (try (first | (cases hb; done) | exact absurd hb (by decide) | (exfalso; omega) | ((simp_all; done)))))
 | (refine Or.inl (And.intro trivial ?_); (conv => whnf))
 | ((with_reducible refine And.intro ?_ ?_); exact zc; conv => whnf)
 | ((with_reducible refine And.intro (Side.out ?_) ?_); rotate_left; (conv => whnf))
 | ((first | refine retF1 ?_ | refine retF2 ?_ | refine subF.leaf ?_ | refine subF.side ?_) <;> (conv => whnf) <;> repeat' (first
 | exact trivial
 | (with_reducible rfl)
 | ((with_reducible refine And.intro ?_ ?_) <;> conv => whnf)
 | omega
 | rfl
 | (refine congrArg (SV.arr _) ?_)
 | (refine congrArg (Value.int _) ?_)
 | (refine congrArg Value.bool ?_)))); all_goals (try unfold Side)
 all_goals try (repeat' (first | exact zb | with_reducible refine And.intro ?_ ?_))
 refine W.loop (fun x : Nat => ⟨[(0, .lit (.int .i64 i)), (1, .lit (.int .i64 k)), (6, (.lit (.pointer none))), (14, .st false (.vec [(.lit (.pointer none)), (.sadr (.agg [.lit (.bool false), .lit (.bool false), .lit (.slice none 0 0), .lit (.slice none 0 0), .lit (.int .i64 0)]))])), (15, .lit (.int .i64 2)), (16, .lit (.int .i64 (x : Int)))], []⟩) (fun x => x ≤ 2) (fun x => 2 - x) (0) ?_ ?_
 · refine ⟨by decide, ?_⟩
   refine subF.ok ?_ <;> (conv => whnf) <;> repeat' (first
 | exact trivial
 | (with_reducible rfl)
 | ((with_reducible refine And.intro ?_ ?_) <;> conv => whnf)
 | omega
 | rfl
 | (refine congrArg (SV.arr _) ?_)
 | (refine congrArg (Value.int _) ?_)
 | (refine congrArg Value.bool ?_))
 rintro x hx
 try dsimp only at hx ⊢
 obtain rfl | rfl | rfl : x = 0 ∨ x = 1 ∨ x = 2 := by omega
 · repeat' (first
 | refine W.seq ?_
 | refine W.block ?_
 | (refine W.regionV (id := 5) tys_ok [] [3000] ?_; conv => whnf)
 | (refine W.region tys_ok [] ?_; conv => whnf)
 | (refine W.drawAll tys_ok [] mixed rfl ?_; conv => whnf)
 | (refine W.ret ?_; conv => whnf)
 | (refine W.skip ?_; conv => whnf)
 | (refine W.exit ?_; conv => whnf)
 | (refine call_at (al := false) (start_nr) rfl rfl rfl rfl ?_; conv => whnf)
 | (refine call_at (al := false) (deliver_nr) rfl rfl rfl rfl ?_; conv => whnf)
 | (refine call_at (al := false) (flight_nr) rfl rfl rfl rfl ?_; conv => whnf)
 | (refine call_at (al := false) (leader_nr) rfl rfl rfl rfl ?_; conv => whnf)
 | (refine call_at (al := false) (sent_nr) rfl rfl rfl rfl ?_; conv => whnf)
 | (refine call_at (al := false) (clone_nr) rfl rfl rfl rfl ?_; conv => whnf)
 | (refine W.cond rfl (fun hb => ?_) (fun hb => ?_) <;> (try simp only [zr, zd, zm, minL, maxL, pickB, zA] at hb) <;> (try (first | (cases hb; done) | exact absurd hb (by decide) | (exfalso; omega) | ((simp_all; done)))))
 | (refine Or.inl (And.intro trivial ?_); (conv => whnf))
 | ((with_reducible refine And.intro ?_ ?_); exact zc; conv => whnf)
 | ((with_reducible refine And.intro (Side.out ?_) ?_); rotate_left; (conv => whnf))
 | ((first | refine retF1 ?_ | refine retF2 ?_) <;> (conv => whnf) <;> repeat' (first
 | exact trivial
 | (with_reducible rfl)
 | ((with_reducible refine And.intro ?_ ?_) <;> conv => whnf)
 | omega
 | rfl
 | (refine congrArg (SV.arr _) ?_)
 | (refine congrArg (Value.int _) ?_)
 | (refine congrArg Value.bool ?_)))); all_goals (try unfold Side)
   all_goals try (repeat' (first | exact zb | with_reducible refine And.intro ?_ ?_))
   all_goals
    refine ⟨1, ⟨by decide, by decide⟩, ?_⟩
    refine subF.ok ?_ <;> (conv => whnf) <;> repeat' (first
 | exact trivial
 | (with_reducible rfl)
 | ((with_reducible refine And.intro ?_ ?_) <;> conv => whnf)
 | omega
 | rfl
 | (refine congrArg (SV.arr _) ?_)
 | (refine congrArg (Value.int _) ?_)
 | (refine congrArg Value.bool ?_))
 · repeat' (first
 | refine W.seq ?_
 | refine W.block ?_
 | (refine W.regionV (id := 5) tys_ok [] [3000] ?_; conv => whnf)
 | (refine W.region tys_ok [] ?_; conv => whnf)
 | (refine W.drawAll tys_ok [] mixed rfl ?_; conv => whnf)
 | (refine W.ret ?_; conv => whnf)
 | (refine W.skip ?_; conv => whnf)
 | (refine W.exit ?_; conv => whnf)
 | (refine call_at (al := false) (start_zr) rfl rfl rfl rfl ?_; conv => whnf)
 | (refine call_at (al := false) (deliver_zr) rfl rfl rfl rfl ?_; conv => whnf)
 | (refine call_at (al := false) (flight_zr) rfl rfl rfl rfl ?_; conv => whnf)
 | (refine call_at (al := false) (leader_zr) rfl rfl rfl rfl ?_; conv => whnf)
 | (refine call_at (al := false) (sent_zr) rfl rfl rfl rfl ?_; conv => whnf)
 | (refine call_at (al := false) (clone_zr) rfl rfl rfl rfl ?_; conv => whnf)
 | (refine W.cond rfl (fun hb => ?_) (fun hb => ?_) <;> (try simp only [zr, zd, zm, minL, maxL, pickB, zA] at hb) <;> (try (first | (cases hb; done) | exact absurd hb (by decide) | (exfalso; omega) | ((simp_all; done)))))
 | (refine Or.inl (And.intro trivial ?_); (conv => whnf))
 | ((with_reducible refine And.intro ?_ ?_); exact zc; conv => whnf)
 | ((with_reducible refine And.intro (Side.out ?_) ?_); rotate_left; (conv => whnf))
 | ((first | refine retF1 ?_ | refine retF2 ?_) <;> (conv => whnf) <;> repeat' (first
 | exact trivial
 | (with_reducible rfl)
 | ((with_reducible refine And.intro ?_ ?_) <;> conv => whnf)
 | omega
 | rfl
 | (refine congrArg (SV.arr _) ?_)
 | (refine congrArg (Value.int _) ?_)
 | (refine congrArg Value.bool ?_)))); all_goals (try unfold Side)
   all_goals try (repeat' (first | exact zb | with_reducible refine And.intro ?_ ?_))
   all_goals
    refine ⟨2, ⟨by decide, by decide⟩, ?_⟩
    refine subF.ok ?_ <;> (conv => whnf) <;> repeat' (first
 | exact trivial
 | (with_reducible rfl)
 | ((with_reducible refine And.intro ?_ ?_) <;> conv => whnf)
 | omega
 | rfl
 | (refine congrArg (SV.arr _) ?_)
 | (refine congrArg (Value.int _) ?_)
 | (refine congrArg Value.bool ?_))
 · repeat' (first
 | refine W.seq ?_
 | refine W.block ?_
 | (refine W.regW (id := 9) ?_; refine RegW.goV tys_ok [] [] 3 rfl ?_; (conv => whnf); refine And.intro ⟨rfl, rfl⟩ ?_; (conv => whnf); refine And.intro rfl ?_; (conv => whnf); refine RegW.frz (t := 56) rfl rfl rfl ?_; refine RegW.finV tys_ok [] [3003, 3004] ?_; (conv => whnf))
 | (refine W.region tys_ok [] ?_; conv => whnf)
 | (refine W.drawAll tys_ok [] mixed rfl ?_; conv => whnf)
 | (refine W.ret ?_; conv => whnf)
 | (refine W.skip ?_; conv => whnf)
 | (refine W.exit ?_; conv => whnf)
 | (refine Both.mk ?_ ?_ <;> (conv => whnf))
 | (refine W.cond rfl (fun hb => ?_) (fun hb => ?_) <;> (try simp only [zr, zd, zm, minL, maxL, pickB, zA] at hb) <;> (try (first | (cases hb; done) | exact absurd hb (by decide) | (exfalso; omega) | ((simp_all; done)))))
 | (refine Or.inl (And.intro trivial ?_); (conv => whnf))
 | ((with_reducible refine And.intro ?_ ?_); exact zc; conv => whnf)
 | ((with_reducible refine And.intro (Side.out ?_) ?_); rotate_left; (conv => whnf))
 | ((first | refine retF1 ?_ | refine retF2 ?_ | refine subF.leaf ?_ | refine subF.side ?_) <;> (conv => whnf) <;> repeat' (first
 | exact trivial
 | (with_reducible rfl)
 | ((with_reducible refine And.intro ?_ ?_) <;> conv => whnf)
 | omega
 | rfl
 | (refine congrArg (SV.arr _) ?_)
 | (refine congrArg (Value.int _) ?_)
 | (refine congrArg Value.bool ?_)))); all_goals (try unfold Side)
   all_goals try (repeat' (first | exact zb | with_reducible refine And.intro ?_ ?_))
   refine W.loop (fun x : Nat => ⟨[(0, .lit (.int .i64 i)), (1, .lit (.int .i64 k)), (57, .st false (.vec [(.lit (.pointer none)), (.sadr (.agg [.lit (.slice none 0 0), .lit (.slice none 0 0)]))])), (58, .lit (.int .i64 2)), (59, .lit (.int .i64 (x : Int)))], []⟩) (fun x => x ≤ 2) (fun x => 2 - x) (0) ?_ ?_
   · refine ⟨by decide, ?_⟩
     refine subF.ok ?_ <;> (conv => whnf) <;> repeat' (first
 | exact trivial
 | (with_reducible rfl)
 | ((with_reducible refine And.intro ?_ ?_) <;> conv => whnf)
 | omega
 | rfl
 | (refine congrArg (SV.arr _) ?_)
 | (refine congrArg (Value.int _) ?_)
 | (refine congrArg Value.bool ?_))
   rintro x hx
   try dsimp only at hx ⊢
   obtain rfl | rfl | rfl : x = 0 ∨ x = 1 ∨ x = 2 := by omega
   · repeat' (first
 | refine W.seq ?_
 | refine W.block ?_
 | (refine W.regionV (id := 11) tys_ok [] [3000] ?_; conv => whnf)
 | (refine W.region tys_ok [] ?_; conv => whnf)
 | (refine W.drawAll tys_ok [] mixed rfl ?_; conv => whnf)
 | (refine W.ret ?_; conv => whnf)
 | (refine W.skip ?_; conv => whnf)
 | (refine W.exit ?_; conv => whnf)
 | (refine call_at (al := false) (send_nw) rfl rfl rfl rfl ?_; conv => whnf)
 | (refine call_at (al := false) (idle_nw) rfl rfl rfl rfl ?_; conv => whnf)
 | (refine call_at (al := false) (deliver_nw) rfl rfl rfl rfl ?_; conv => whnf)
 | (refine call_at (al := false) (flight_nw) rfl rfl rfl rfl ?_; conv => whnf)
 | (refine call_at (al := false) (working_nw) rfl rfl rfl rfl ?_; conv => whnf)
 | (refine call_at (al := false) (parent_nw) rfl rfl rfl rfl ?_; conv => whnf)
 | (refine call_at (al := false) (owed_nw) rfl rfl rfl rfl ?_; conv => whnf)
 | (refine call_at (al := false) (ended_nw) rfl rfl rfl rfl ?_; conv => whnf)
 | (refine call_at (al := false) (clone_nw) rfl rfl rfl rfl ?_; conv => whnf)
 | (refine W.cond rfl (fun hb => ?_) (fun hb => ?_) <;> (try simp only [zr, zd, zm, minL, maxL, pickB, zA] at hb) <;> (try (first | (cases hb; done) | exact absurd hb (by decide) | (exfalso; omega) | ((simp_all; done)))))
 | (refine Or.inl (And.intro trivial ?_); (conv => whnf))
 | ((with_reducible refine And.intro ?_ ?_); exact zc; conv => whnf)
 | ((with_reducible refine And.intro (Side.out ?_) ?_); rotate_left; (conv => whnf))
 | ((first | refine retF1 ?_ | refine retF2 ?_) <;> (conv => whnf) <;> repeat' (first
 | exact trivial
 | (with_reducible rfl)
 | ((with_reducible refine And.intro ?_ ?_) <;> conv => whnf)
 | omega
 | rfl
 | (refine congrArg (SV.arr _) ?_)
 | (refine congrArg (Value.int _) ?_)
 | (refine congrArg Value.bool ?_)))); all_goals (try unfold Side)
     all_goals try (repeat' (first | exact zb | with_reducible refine And.intro ?_ ?_))
     all_goals
      refine ⟨1, ⟨by decide, by decide⟩, ?_⟩
      refine subF.ok ?_ <;> (conv => whnf) <;> repeat' (first
 | exact trivial
 | (with_reducible rfl)
 | ((with_reducible refine And.intro ?_ ?_) <;> conv => whnf)
 | omega
 | rfl
 | (refine congrArg (SV.arr _) ?_)
 | (refine congrArg (Value.int _) ?_)
 | (refine congrArg Value.bool ?_))
   · repeat' (first
 | refine W.seq ?_
 | refine W.block ?_
 | (refine W.regionV (id := 11) tys_ok [] [3000] ?_; conv => whnf)
 | (refine W.region tys_ok [] ?_; conv => whnf)
 | (refine W.drawAll tys_ok [] mixed rfl ?_; conv => whnf)
 | (refine W.ret ?_; conv => whnf)
 | (refine W.skip ?_; conv => whnf)
 | (refine W.exit ?_; conv => whnf)
 | (refine call_at (al := false) (send_zw) rfl rfl rfl rfl ?_; conv => whnf)
 | (refine call_at (al := false) (idle_zw) rfl rfl rfl rfl ?_; conv => whnf)
 | (refine call_at (al := false) (deliver_zw) rfl rfl rfl rfl ?_; conv => whnf)
 | (refine call_at (al := false) (flight_zw) rfl rfl rfl rfl ?_; conv => whnf)
 | (refine call_at (al := false) (working_zw) rfl rfl rfl rfl ?_; conv => whnf)
 | (refine call_at (al := false) (parent_zw) rfl rfl rfl rfl ?_; conv => whnf)
 | (refine call_at (al := false) (owed_zw) rfl rfl rfl rfl ?_; conv => whnf)
 | (refine call_at (al := false) (ended_zw) rfl rfl rfl rfl ?_; conv => whnf)
 | (refine call_at (al := false) (clone_zw) rfl rfl rfl rfl ?_; conv => whnf)
 | (refine W.cond rfl (fun hb => ?_) (fun hb => ?_) <;> (try simp only [zr, zd, zm, minL, maxL, pickB, zA] at hb) <;> (try (first | (cases hb; done) | exact absurd hb (by decide) | (exfalso; omega) | ((simp_all; done)))))
 | (refine Or.inl (And.intro trivial ?_); (conv => whnf))
 | ((with_reducible refine And.intro ?_ ?_); exact zc; conv => whnf)
 | ((with_reducible refine And.intro (Side.out ?_) ?_); rotate_left; (conv => whnf))
 | ((first | refine retF1 ?_ | refine retF2 ?_) <;> (conv => whnf) <;> repeat' (first
 | exact trivial
 | (with_reducible rfl)
 | ((with_reducible refine And.intro ?_ ?_) <;> conv => whnf)
 | omega
 | rfl
 | (refine congrArg (SV.arr _) ?_)
 | (refine congrArg (Value.int _) ?_)
 | (refine congrArg Value.bool ?_)))); all_goals (try unfold Side)
     all_goals try (repeat' (first | exact zb | with_reducible refine And.intro ?_ ?_))
     all_goals
      refine ⟨2, ⟨by decide, by decide⟩, ?_⟩
      refine subF.ok ?_ <;> (conv => whnf) <;> repeat' (first
 | exact trivial
 | (with_reducible rfl)
 | ((with_reducible refine And.intro ?_ ?_) <;> conv => whnf)
 | omega
 | rfl
 | (refine congrArg (SV.arr _) ?_)
 | (refine congrArg (Value.int _) ?_)
 | (refine congrArg Value.bool ?_))
   · repeat' (first
 | refine W.seq ?_
 | refine W.block ?_
 | (refine W.region tys_ok [] ?_; conv => whnf)
 | (refine W.drawAll tys_ok [] mixed rfl ?_; conv => whnf)
 | (refine W.ret ?_; conv => whnf)
 | (refine W.skip ?_; conv => whnf)
 | (refine W.exit ?_; conv => whnf)
 | (refine call_at (al := false) (c0) rfl rfl rfl rfl ?_; conv => whnf)
 | (refine W.cond rfl (fun hb => ?_) (fun hb => ?_) <;> (try simp only [zr, zd, zm, minL, maxL, pickB, zA] at hb) <;> (try (first | (cases hb; done) | exact absurd hb (by decide) | (exfalso; omega) | ((simp_all; done)))))
 | ((with_reducible refine And.intro ?_ ?_); exact zc; conv => whnf)
 | ((with_reducible refine And.intro (Side.out ?_) ?_); rotate_left; (conv => whnf))
 | ((first | refine retF1 ?_ | refine retF2 ?_) <;> (conv => whnf) <;> repeat' (first
 | exact trivial
 | (with_reducible rfl)
 | ((with_reducible refine And.intro ?_ ?_) <;> conv => whnf)
 | omega
 | rfl
 | (refine congrArg (SV.arr _) ?_)
 | (refine congrArg (Value.int _) ?_)
 | (refine congrArg Value.bool ?_)))); all_goals (try unfold Side)
     all_goals try (repeat' (first | exact zb | with_reducible refine And.intro ?_ ?_))
end Go.Proofs.Ytkjcnegkdlmapaa
