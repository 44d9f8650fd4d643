/- Joined of: K14 R19. No condition. -/
import Derived.Test.YtkjcnegkdlmapaaJ10
import Derived.Test.YtkjcnegkdlmapaaJ6
import Derived.Test.YtkjcnegkdlmapaaJ7
import Derived.Test.YtkjcnegkdlmapaaJ8
set_option linter.unusedVariables false
set_option linter.unusedSimpArgs false
namespace Go.Proofs.Ytkjcnegkdlmapaa
open Int renaming reduceToNat → zr, reduceTDiv → zd, reduceTMod → zm
open Go Go.Vc Go.Rg
def lr0 : Rn := rnew [7]
def lr1 : Rn := startK 0 lr0
def lr2 : Rn := rdelK true 0 lr1
def lr3 : Rn := rdelK true 0 lr2
def lw0 : Wk := begL 2
def lw1 : Wk := sendK 0 1 lw0
def lw2 : Wk := idleK 0 lw1
def lw3 : Wk := delK 0 lw2
def lw4 : Wk := idleK 1 lw3
def lw5 : Wk := delK 0 lw4
theorem lr0_ok : ROk 1 true lr0 := ROk.new (xs := [7]) (by decide) (by decide)
theorem lw0_ok : WOk 2 lw0 := WOk.beg (by decide) (by decide)
theorem s0 : startE 0 lr0 = 0 := by decide
theorem s1 : rdelE 0 lr1 = 0 := by decide
theorem s2 : rdelE 0 lr2 = 0 := by decide
theorem s3 : pL lr2.1 0 = 7 ∧ lr2.1.length = 1 := by decide
theorem s4 : lr3.2.2 = 2 := by decide
theorem q0 : sendE 0 1 lw0 = 0 := by decide
theorem q1 : idleE 0 lw1 = 0 := by decide
theorem q2 : endB lw2 = false := by decide
theorem q3 : delE 0 lw2 = 0 := by decide
theorem q4 : gp lw3.1 1 = 0 ∧ lw3.1.length = 2 := by decide
theorem q5 : idleE 1 lw3 = 0 := by decide
theorem q6 : delE 0 lw4 = 0 := by decide
theorem q7 : endB lw5 = true := by decide
theorem seven : ∀ i, i < [(7 : Int)].length → goodAt [7] i := fun i hi => by
 match i, hi with
 | 0, _ => exact ⟨by decide, by decide, by simp⟩
set_option maxHeartbeats 16000000 in
theorem lives_at : FnAt Try.prog false 16 [] (.lit (.bool true)) [] := by
 have k1 := lr0_ok.start (i := 0)
 have k2 := k1.del (i := 0)
 have t0 : lr0.2.2 ≤ 900000 := by decide
 have t1 : lr1.2.2 ≤ 900000 := by decide
 have t2 : lr2.2.2 ≤ 900000 := by decide
 have c0 := new_ok (xs := [7]) (pet := true) (by decide) (by decide) seven
 have c1 := start_ring (i := 0) (r2 := lr1) lr0_ok t0 s0 rfl
 have c2 := deliver_ring (i := 0) (r2 := lr2) k1 t1 s1 rfl
 have c3 := leader_in (pet := true) (r := lr2) (i := 0) (by rw [s3.2]; decide)
 rw [s3.1] at c3
 have c4 := deliver_ring (i := 0) (r2 := lr3) k2 t2 s2 rfl
 have c5 := sent_at (pet := true) (r := lr3)
 rw [s4] at c5
 have m1 := lw0_ok.send (a := 0) (b := 1)
 have m2 := m1.idle (i := 0)
 have m3 := m2.del (k := 0)
 have m4 := m3.idle (i := 1)
 have m5 := m4.del (k := 0)
 have d0 := begin_at (n := 2) (by decide) (by decide)
 have d1 := send_at (a := 0) (b := 1) (w2 := lw1) lw0_ok q0 rfl
 have d2 := idle_at (i := 0) (w2 := lw2) m1 q1 rfl
 have d3 := ended_at (hs := lw2.1) (fl := lw2.2) (b := false) (by rw [show lw2.1.length = 2 from m2.len]; decide) q2.symm
 have d4 := deliver_at (k := 0) (w2 := lw3) m2 q3 rfl
 have d5 := parent_in (hs := lw3.1) (fl := lw3.2) (i := 1) (by rw [q4.2]; decide)
 rw [q4.1] at d5
 have d6 := idle_at (i := 1) (w2 := lw4) m3 q5 rfl
 have d7 := deliver_at (k := 0) (w2 := lw5) m4 q6 rfl
 have d8 := ended_at (hs := lw5.1) (fl := lw5.2) (b := true) (by rw [show lw5.1.length = 2 from m5.len]; decide) q7.symm
 refine FnAt.of_body tys_ok Try.func16 (by rfl) rfl Try.ntmps16 (by rw [Try.results16]) (by simp) ?_
 repeat' (first
 | refine W.seq ?_
 | refine W.block ?_
 | (refine W.regionM (id := 1) tys_ok [6] [1] ?_; conv => whnf)
 | (refine W.regW (id := 2) ?_; refine RegW.cut tys_ok [6] [8,13,18,23,28,33,38] 0 ⟨[(1, .padr 8000 0), (2, (.lit (.int .i64 (0 : Int))))], [(8000, .box [.lit (.bool true), .lit (.bool true), .own 8001, .mown 8002, (.lit (.int .i64 ((lr0).2.2 : Int)))]), (8001, .row 105 PT true (lr0).1), (8002, .mat 80 91 NT true (lr0).2.1 none)]⟩ rfl ?_ ?_; (conv => whnf); rotate_left; refine RegW.cut tys_ok [6] [8,13,18,23,28,33,38] 11 ⟨[(1, .padr 8000 0), (20, .lit (.bool false))], [(8000, .box [.lit (.bool true), .lit (.bool true), .own 8001, .mown 8002, (.lit (.int .i64 ((lr1).2.2 : Int)))]), (8001, .row 105 PT true (lr1).1), (8002, .mat 80 91 NT true (lr1).2.1 none)]⟩ rfl ?_ ?_; (conv => whnf); rotate_left; refine RegW.cut tys_ok [6] [8,13,18,23,28,33,38] 16 ⟨[(1, .padr 8000 0), (25, .lit (.bool false))], [(8000, .box [.lit (.bool true), .lit (.bool true), .own 8001, .mown 8002, (.lit (.int .i64 ((lr2).2.2 : Int)))]), (8001, .row 105 PT true (lr2).1), (8002, .mat 80 91 NT true (lr2).2.1 none)]⟩ rfl ?_ ?_; (conv => whnf); rotate_left; refine RegW.cut tys_ok [6] [8,13,18,23,28,33,38] 21 ⟨[(1, .padr 8000 0), (30, .lit (.bool false))], [(8000, .box [.lit (.bool true), .lit (.bool true), .own 8001, .mown 8002, (.lit (.int .i64 ((lr2).2.2 : Int)))]), (8001, .row 105 PT true (lr2).1), (8002, .mat 80 91 NT true (lr2).2.1 none)]⟩ rfl ?_ ?_; (conv => whnf); rotate_left; refine RegW.cut tys_ok [6] [8,13,18,23,28,33,38] 26 ⟨[(1, .padr 8000 0), (35, .lit (.bool false))], [(8000, .box [.lit (.bool true), .lit (.bool true), .own 8001, .mown 8002, (.lit (.int .i64 ((lr3).2.2 : Int)))]), (8001, .row 105 PT true (lr3).1), (8002, .mat 80 91 NT true (lr3).2.1 none)]⟩ rfl ?_ ?_; (conv => whnf); rotate_left; refine RegW.fin tys_ok [6] [8,13,18,23,28,33,38] ?_; (conv => whnf))
 | (refine W.region tys_ok [6] ?_; conv => whnf)
 | (refine W.drawAll tys_ok [6] mixed rfl ?_; conv => whnf)
 | (refine W.ret ?_; conv => whnf)
 | (refine W.skip ?_; conv => whnf)
 | (refine W.exit ?_; conv => whnf)
 | (refine callM_at (c0) ?_; conv => whnf)
 | (refine Both.mk ?_ ?_ <;> (conv => whnf))
 | (refine W.cond rfl (fun hb => ?_) (fun hb => ?_) <;> (try simp only [zr, zd, zm, minL, maxL, pickB, zA] at hb) <;> (try (first | (cases hb; done) | exact absurd hb (by decide) | (exfalso; omega) | (omega))))
 | (refine Or.inl (And.intro ?_ ?_); exact zi; conv => whnf)
 | (refine Or.inr (And.intro ?_ ?_); exact zj; conv => whnf)
 | ((with_reducible refine And.intro ?_ ?_); exact zc; conv => whnf)
 | ((with_reducible refine And.intro (Side.out ?_) ?_); rotate_left; (conv => whnf))
 | ((first | refine retF1 ?_ | refine retF2 ?_ | refine subF.leaf ?_ | refine subF.side ?_) <;> (conv => whnf) <;> repeat' (first
 | exact trivial
 | (with_reducible rfl)
 | ((with_reducible refine And.intro ?_ ?_) <;> conv => whnf)
 | omega
 | rfl
 | (refine congrArg (SV.arr _) ?_)
 | (refine congrArg (Value.int _) ?_)
 | (refine congrArg Value.bool ?_)))); all_goals (try unfold Side)
 all_goals try (repeat' (first | exact zb | with_reducible refine And.intro ?_ ?_))
 · repeat' (first
 | refine W.seq ?_
 | refine W.block ?_
 | (refine W.regW (id := 999) ?_; refine RegW.cut tys_ok [] [1] 8 ⟨[(1, .padr 8000 0), (2, (.lit (.int .i64 (0 : Int))))], [(8000, .box [.lit (.bool true), .lit (.bool true), .own 8001, .mown 8002, (.lit (.int .i64 ((lr0).2.2 : Int)))]), (8001, .row 105 PT true (lr0).1), (8002, .mat 80 91 NT true (lr0).2.1 none)]⟩ rfl ?_ ?_; (conv => whnf); rotate_left; refine RegW.fin tys_ok [] [1] ?_; (conv => whnf))
 | (refine W.regionM (id := 4) tys_ok [] [0] ?_; conv => whnf)
 | (refine W.regW (id := 5) ?_; refine RegW.cut tys_ok [] [8,13,18,23,28,33,38,43] 0 ⟨[(3, .padr 43000 0), (4, (.lit (.int .i64 (0 : Int))))], [(43000, .box [.own 43001, .own 43002]), (43001, .row 96 HT true (lw0).1), (43002, .row 50 LT true (lw0).2)]⟩ rfl ?_ ?_; (conv => whnf); rotate_left; refine RegW.cut tys_ok [] [8,13,18,23,28,33,38,43] 11 ⟨[(3, .padr 43000 0), (55, .lit (.bool true))], [(43000, .box [.own 43001, .own 43002]), (43001, .row 96 HT true (lw1).1), (43002, .row 50 LT true (lw1).2)]⟩ rfl ?_ ?_; (conv => whnf); rotate_left; refine RegW.cut tys_ok [] [8,13,18,23,28,33,38,43] 16 ⟨[(3, .padr 43000 0), (60, .lit (.bool true))], [(43000, .box [.own 43001, .own 43002]), (43001, .row 96 HT true (lw2).1), (43002, .row 50 LT true (lw2).2)]⟩ rfl ?_ ?_; (conv => whnf); rotate_left; refine RegW.cut tys_ok [] [8,13,18,23,28,33,38,43] 21 ⟨[(3, .padr 43000 0), (65, .lit (.bool true))], [(43000, .box [.own 43001, .own 43002]), (43001, .row 96 HT true (lw2).1), (43002, .row 50 LT true (lw2).2)]⟩ rfl ?_ ?_; (conv => whnf); rotate_left; refine RegW.cut tys_ok [] [8,13,18,23,28,33,38,43] 26 ⟨[(3, .padr 43000 0), (70, .lit (.bool true))], [(43000, .box [.own 43001, .own 43002]), (43001, .row 96 HT true (lw3).1), (43002, .row 50 LT true (lw3).2)]⟩ rfl ?_ ?_; (conv => whnf); rotate_left; refine RegW.cut tys_ok [] [8,13,18,23,28,33,38,43] 31 ⟨[(3, .padr 43000 0), (75, .lit (.bool true))], [(43000, .box [.own 43001, .own 43002]), (43001, .row 96 HT true (lw3).1), (43002, .row 50 LT true (lw3).2)]⟩ rfl ?_ ?_; (conv => whnf); rotate_left; refine RegW.cut tys_ok [] [8,13,18,23,28,33,38,43] 36 ⟨[(3, .padr 43000 0), (80, .lit (.bool true))], [(43000, .box [.own 43001, .own 43002]), (43001, .row 96 HT true (lw4).1), (43002, .row 50 LT true (lw4).2)]⟩ rfl ?_ ?_; (conv => whnf); rotate_left; refine RegW.cut tys_ok [] [8,13,18,23,28,33,38,43] 41 ⟨[(3, .padr 43000 0), (85, .lit (.bool true))], [(43000, .box [.own 43001, .own 43002]), (43001, .row 96 HT true (lw5).1), (43002, .row 50 LT true (lw5).2)]⟩ rfl ?_ ?_; (conv => whnf); rotate_left; refine RegW.fin tys_ok [] [8,13,18,23,28,33,38,43] ?_; (conv => whnf))
 | (refine W.region tys_ok [] ?_; conv => whnf)
 | (refine W.drawAll tys_ok [] mixed rfl ?_; conv => whnf)
 | (refine W.ret ?_; conv => whnf)
 | (refine W.skip ?_; conv => whnf)
 | (refine W.exit ?_; conv => whnf)
 | (refine callM_at (c5) ?_; conv => whnf)
 | (refine callM_at (d0) ?_; conv => whnf)
 | (refine Both.mk ?_ ?_ <;> (conv => whnf))
 | (refine W.cond rfl (fun hb => ?_) (fun hb => ?_) <;> (try simp only [zr, zd, zm, minL, maxL, pickB, zA] at hb) <;> (try (first | (cases hb; done) | exact absurd hb (by decide) | (exfalso; omega) | (omega))))
 | (refine Or.inl (And.intro ?_ ?_); exact zi; conv => whnf)
 | (refine Or.inr (And.intro ?_ ?_); exact zj; conv => whnf)
 | ((with_reducible refine And.intro ?_ ?_); exact zc; conv => whnf)
 | ((with_reducible refine And.intro (Side.out ?_) ?_); rotate_left; (conv => whnf))
 | ((first | refine retF1 ?_ | refine retF2 ?_ | refine subF.leaf ?_ | refine subF.side ?_) <;> (conv => whnf) <;> repeat' (first
 | exact trivial
 | (with_reducible rfl)
 | ((with_reducible refine And.intro ?_ ?_) <;> conv => whnf)
 | omega
 | rfl
 | (refine congrArg (SV.arr _) ?_)
 | (refine congrArg (Value.int _) ?_)
 | (refine congrArg Value.bool ?_)))); all_goals (try unfold Side)
   all_goals try (repeat' (first | exact zb | with_reducible refine And.intro ?_ ?_))
   · repeat' (first
 | refine W.seq ?_
 | refine W.block ?_
 | (refine W.regW (id := 999) ?_; refine RegW.cut tys_ok [] [1] 8 ⟨[(1, .padr 8000 0), (2, (.lit (.int .i64 (0 : Int))))], [(8000, .box [.lit (.bool true), .lit (.bool true), .own 8001, .mown 8002, (.lit (.int .i64 ((lr0).2.2 : Int)))]), (8001, .row 105 PT true (lr0).1), (8002, .mat 80 91 NT true (lr0).2.1 none)]⟩ rfl ?_ ?_; (conv => whnf); rotate_left; refine RegW.fin tys_ok [] [1] ?_; (conv => whnf))
 | (refine W.region tys_ok [] ?_; conv => whnf)
 | (refine W.drawAll tys_ok [] mixed rfl ?_; conv => whnf)
 | (refine W.ret ?_; conv => whnf)
 | (refine W.skip ?_; conv => whnf)
 | (refine W.exit ?_; conv => whnf)
 | (refine callM_at (d8) ?_; conv => whnf)
 | (refine Both.mk ?_ ?_ <;> (conv => whnf))
 | (refine W.cond rfl (fun hb => ?_) (fun hb => ?_) <;> (try simp only [zr, zd, zm, minL, maxL, pickB, zA] at hb) <;> (try (first | (cases hb; done) | exact absurd hb (by decide) | (exfalso; omega) | (omega))))
 | (refine Or.inl (And.intro ?_ ?_); exact zi; conv => whnf)
 | (refine Or.inr (And.intro ?_ ?_); exact zj; conv => whnf)
 | ((with_reducible refine And.intro ?_ ?_); exact zc; conv => whnf)
 | ((with_reducible refine And.intro (Side.out ?_) ?_); rotate_left; (conv => whnf))
 | ((first | refine retF1 ?_ | refine retF2 ?_ | refine subF.leaf ?_ | refine subF.side ?_) <;> (conv => whnf) <;> repeat' (first
 | exact trivial
 | (with_reducible rfl)
 | ((with_reducible refine And.intro ?_ ?_) <;> conv => whnf)
 | omega
 | rfl
 | (refine congrArg (SV.arr _) ?_)
 | (refine congrArg (Value.int _) ?_)
 | (refine congrArg Value.bool ?_)))); all_goals (try unfold Side)
     all_goals try (repeat' (first | exact zb | with_reducible refine And.intro ?_ ?_))
   · repeat' (first
 | refine W.seq ?_
 | refine W.block ?_
 | (refine W.regW (id := 999) ?_; refine RegW.cut tys_ok [] [1] 8 ⟨[(1, .padr 8000 0), (2, (.lit (.int .i64 (0 : Int))))], [(8000, .box [.lit (.bool true), .lit (.bool true), .own 8001, .mown 8002, (.lit (.int .i64 ((lr0).2.2 : Int)))]), (8001, .row 105 PT true (lr0).1), (8002, .mat 80 91 NT true (lr0).2.1 none)]⟩ rfl ?_ ?_; (conv => whnf); rotate_left; refine RegW.fin tys_ok [] [1] ?_; (conv => whnf))
 | (refine W.region tys_ok [] ?_; conv => whnf)
 | (refine W.drawAll tys_ok [] mixed rfl ?_; conv => whnf)
 | (refine W.ret ?_; conv => whnf)
 | (refine W.skip ?_; conv => whnf)
 | (refine W.exit ?_; conv => whnf)
 | (refine callM_at (d1) ?_; conv => whnf)
 | (refine Both.mk ?_ ?_ <;> (conv => whnf))
 | (refine W.cond rfl (fun hb => ?_) (fun hb => ?_) <;> (try simp only [zr, zd, zm, minL, maxL, pickB, zA] at hb) <;> (try (first | (cases hb; done) | exact absurd hb (by decide) | (exfalso; omega) | (omega))))
 | (refine Or.inl (And.intro ?_ ?_); exact zi; conv => whnf)
 | (refine Or.inr (And.intro ?_ ?_); exact zj; conv => whnf)
 | ((with_reducible refine And.intro ?_ ?_); exact zc; conv => whnf)
 | ((with_reducible refine And.intro (Side.out ?_) ?_); rotate_left; (conv => whnf))
 | ((first | refine retF1 ?_ | refine retF2 ?_ | refine subF.leaf ?_ | refine subF.side ?_) <;> (conv => whnf) <;> repeat' (first
 | exact trivial
 | (with_reducible rfl)
 | ((with_reducible refine And.intro ?_ ?_) <;> conv => whnf)
 | omega
 | rfl
 | (refine congrArg (SV.arr _) ?_)
 | (refine congrArg (Value.int _) ?_)
 | (refine congrArg Value.bool ?_)))); all_goals (try unfold Side)
     all_goals try (repeat' (first | exact zb | with_reducible refine And.intro ?_ ?_))
   · repeat' (first
 | refine W.seq ?_
 | refine W.block ?_
 | (refine W.regW (id := 999) ?_; refine RegW.cut tys_ok [] [1] 8 ⟨[(1, .padr 8000 0), (2, (.lit (.int .i64 (0 : Int))))], [(8000, .box [.lit (.bool true), .lit (.bool true), .own 8001, .mown 8002, (.lit (.int .i64 ((lr0).2.2 : Int)))]), (8001, .row 105 PT true (lr0).1), (8002, .mat 80 91 NT true (lr0).2.1 none)]⟩ rfl ?_ ?_; (conv => whnf); rotate_left; refine RegW.fin tys_ok [] [1] ?_; (conv => whnf))
 | (refine W.region tys_ok [] ?_; conv => whnf)
 | (refine W.drawAll tys_ok [] mixed rfl ?_; conv => whnf)
 | (refine W.ret ?_; conv => whnf)
 | (refine W.skip ?_; conv => whnf)
 | (refine W.exit ?_; conv => whnf)
 | (refine callM_at (d2) ?_; conv => whnf)
 | (refine Both.mk ?_ ?_ <;> (conv => whnf))
 | (refine W.cond rfl (fun hb => ?_) (fun hb => ?_) <;> (try simp only [zr, zd, zm, minL, maxL, pickB, zA] at hb) <;> (try (first | (cases hb; done) | exact absurd hb (by decide) | (exfalso; omega) | (omega))))
 | (refine Or.inl (And.intro ?_ ?_); exact zi; conv => whnf)
 | (refine Or.inr (And.intro ?_ ?_); exact zj; conv => whnf)
 | ((with_reducible refine And.intro ?_ ?_); exact zc; conv => whnf)
 | ((with_reducible refine And.intro (Side.out ?_) ?_); rotate_left; (conv => whnf))
 | ((first | refine retF1 ?_ | refine retF2 ?_ | refine subF.leaf ?_ | refine subF.side ?_) <;> (conv => whnf) <;> repeat' (first
 | exact trivial
 | (with_reducible rfl)
 | ((with_reducible refine And.intro ?_ ?_) <;> conv => whnf)
 | omega
 | rfl
 | (refine congrArg (SV.arr _) ?_)
 | (refine congrArg (Value.int _) ?_)
 | (refine congrArg Value.bool ?_)))); all_goals (try unfold Side)
     all_goals try (repeat' (first | exact zb | with_reducible refine And.intro ?_ ?_))
   · repeat' (first
 | refine W.seq ?_
 | refine W.block ?_
 | (refine W.regW (id := 999) ?_; refine RegW.cut tys_ok [] [1] 8 ⟨[(1, .padr 8000 0), (2, (.lit (.int .i64 (0 : Int))))], [(8000, .box [.lit (.bool true), .lit (.bool true), .own 8001, .mown 8002, (.lit (.int .i64 ((lr0).2.2 : Int)))]), (8001, .row 105 PT true (lr0).1), (8002, .mat 80 91 NT true (lr0).2.1 none)]⟩ rfl ?_ ?_; (conv => whnf); rotate_left; refine RegW.fin tys_ok [] [1] ?_; (conv => whnf))
 | (refine W.region tys_ok [] ?_; conv => whnf)
 | (refine W.drawAll tys_ok [] mixed rfl ?_; conv => whnf)
 | (refine W.ret ?_; conv => whnf)
 | (refine W.skip ?_; conv => whnf)
 | (refine W.exit ?_; conv => whnf)
 | (refine callM_at (d3) ?_; conv => whnf)
 | (refine Both.mk ?_ ?_ <;> (conv => whnf))
 | (refine W.cond rfl (fun hb => ?_) (fun hb => ?_) <;> (try simp only [zr, zd, zm, minL, maxL, pickB, zA] at hb) <;> (try (first | (cases hb; done) | exact absurd hb (by decide) | (exfalso; omega) | (omega))))
 | (refine Or.inl (And.intro ?_ ?_); exact zi; conv => whnf)
 | (refine Or.inr (And.intro ?_ ?_); exact zj; conv => whnf)
 | ((with_reducible refine And.intro ?_ ?_); exact zc; conv => whnf)
 | ((with_reducible refine And.intro (Side.out ?_) ?_); rotate_left; (conv => whnf))
 | ((first | refine retF1 ?_ | refine retF2 ?_ | refine subF.leaf ?_ | refine subF.side ?_) <;> (conv => whnf) <;> repeat' (first
 | exact trivial
 | (with_reducible rfl)
 | ((with_reducible refine And.intro ?_ ?_) <;> conv => whnf)
 | omega
 | rfl
 | (refine congrArg (SV.arr _) ?_)
 | (refine congrArg (Value.int _) ?_)
 | (refine congrArg Value.bool ?_)))); all_goals (try unfold Side)
     all_goals try (repeat' (first | exact zb | with_reducible refine And.intro ?_ ?_))
   · repeat' (first
 | refine W.seq ?_
 | refine W.block ?_
 | (refine W.regW (id := 999) ?_; refine RegW.cut tys_ok [] [1] 8 ⟨[(1, .padr 8000 0), (2, (.lit (.int .i64 (0 : Int))))], [(8000, .box [.lit (.bool true), .lit (.bool true), .own 8001, .mown 8002, (.lit (.int .i64 ((lr0).2.2 : Int)))]), (8001, .row 105 PT true (lr0).1), (8002, .mat 80 91 NT true (lr0).2.1 none)]⟩ rfl ?_ ?_; (conv => whnf); rotate_left; refine RegW.fin tys_ok [] [1] ?_; (conv => whnf))
 | (refine W.region tys_ok [] ?_; conv => whnf)
 | (refine W.drawAll tys_ok [] mixed rfl ?_; conv => whnf)
 | (refine W.ret ?_; conv => whnf)
 | (refine W.skip ?_; conv => whnf)
 | (refine W.exit ?_; conv => whnf)
 | (refine callM_at (d4) ?_; conv => whnf)
 | (refine Both.mk ?_ ?_ <;> (conv => whnf))
 | (refine W.cond rfl (fun hb => ?_) (fun hb => ?_) <;> (try simp only [zr, zd, zm, minL, maxL, pickB, zA] at hb) <;> (try (first | (cases hb; done) | exact absurd hb (by decide) | (exfalso; omega) | (omega))))
 | (refine Or.inl (And.intro ?_ ?_); exact zi; conv => whnf)
 | (refine Or.inr (And.intro ?_ ?_); exact zj; conv => whnf)
 | ((with_reducible refine And.intro ?_ ?_); exact zc; conv => whnf)
 | ((with_reducible refine And.intro (Side.out ?_) ?_); rotate_left; (conv => whnf))
 | ((first | refine retF1 ?_ | refine retF2 ?_ | refine subF.leaf ?_ | refine subF.side ?_) <;> (conv => whnf) <;> repeat' (first
 | exact trivial
 | (with_reducible rfl)
 | ((with_reducible refine And.intro ?_ ?_) <;> conv => whnf)
 | omega
 | rfl
 | (refine congrArg (SV.arr _) ?_)
 | (refine congrArg (Value.int _) ?_)
 | (refine congrArg Value.bool ?_)))); all_goals (try unfold Side)
     all_goals try (repeat' (first | exact zb | with_reducible refine And.intro ?_ ?_))
   · repeat' (first
 | refine W.seq ?_
 | refine W.block ?_
 | (refine W.regW (id := 999) ?_; refine RegW.cut tys_ok [] [1] 8 ⟨[(1, .padr 8000 0), (2, (.lit (.int .i64 (0 : Int))))], [(8000, .box [.lit (.bool true), .lit (.bool true), .own 8001, .mown 8002, (.lit (.int .i64 ((lr0).2.2 : Int)))]), (8001, .row 105 PT true (lr0).1), (8002, .mat 80 91 NT true (lr0).2.1 none)]⟩ rfl ?_ ?_; (conv => whnf); rotate_left; refine RegW.fin tys_ok [] [1] ?_; (conv => whnf))
 | (refine W.region tys_ok [] ?_; conv => whnf)
 | (refine W.drawAll tys_ok [] mixed rfl ?_; conv => whnf)
 | (refine W.ret ?_; conv => whnf)
 | (refine W.skip ?_; conv => whnf)
 | (refine W.exit ?_; conv => whnf)
 | (refine callM_at (d5) ?_; conv => whnf)
 | (refine Both.mk ?_ ?_ <;> (conv => whnf))
 | (refine W.cond rfl (fun hb => ?_) (fun hb => ?_) <;> (try simp only [zr, zd, zm, minL, maxL, pickB, zA] at hb) <;> (try (first | (cases hb; done) | exact absurd hb (by decide) | (exfalso; omega) | (omega))))
 | (refine Or.inl (And.intro ?_ ?_); exact zi; conv => whnf)
 | (refine Or.inr (And.intro ?_ ?_); exact zj; conv => whnf)
 | ((with_reducible refine And.intro ?_ ?_); exact zc; conv => whnf)
 | ((with_reducible refine And.intro (Side.out ?_) ?_); rotate_left; (conv => whnf))
 | ((first | refine retF1 ?_ | refine retF2 ?_ | refine subF.leaf ?_ | refine subF.side ?_) <;> (conv => whnf) <;> repeat' (first
 | exact trivial
 | (with_reducible rfl)
 | ((with_reducible refine And.intro ?_ ?_) <;> conv => whnf)
 | omega
 | rfl
 | (refine congrArg (SV.arr _) ?_)
 | (refine congrArg (Value.int _) ?_)
 | (refine congrArg Value.bool ?_)))); all_goals (try unfold Side)
     all_goals try (repeat' (first | exact zb | with_reducible refine And.intro ?_ ?_))
   · repeat' (first
 | refine W.seq ?_
 | refine W.block ?_
 | (refine W.regW (id := 999) ?_; refine RegW.cut tys_ok [] [1] 8 ⟨[(1, .padr 8000 0), (2, (.lit (.int .i64 (0 : Int))))], [(8000, .box [.lit (.bool true), .lit (.bool true), .own 8001, .mown 8002, (.lit (.int .i64 ((lr0).2.2 : Int)))]), (8001, .row 105 PT true (lr0).1), (8002, .mat 80 91 NT true (lr0).2.1 none)]⟩ rfl ?_ ?_; (conv => whnf); rotate_left; refine RegW.fin tys_ok [] [1] ?_; (conv => whnf))
 | (refine W.region tys_ok [] ?_; conv => whnf)
 | (refine W.drawAll tys_ok [] mixed rfl ?_; conv => whnf)
 | (refine W.ret ?_; conv => whnf)
 | (refine W.skip ?_; conv => whnf)
 | (refine W.exit ?_; conv => whnf)
 | (refine callM_at (d6) ?_; conv => whnf)
 | (refine Both.mk ?_ ?_ <;> (conv => whnf))
 | (refine W.cond rfl (fun hb => ?_) (fun hb => ?_) <;> (try simp only [zr, zd, zm, minL, maxL, pickB, zA] at hb) <;> (try (first | (cases hb; done) | exact absurd hb (by decide) | (exfalso; omega) | (omega))))
 | (refine Or.inl (And.intro ?_ ?_); exact zi; conv => whnf)
 | (refine Or.inr (And.intro ?_ ?_); exact zj; conv => whnf)
 | ((with_reducible refine And.intro ?_ ?_); exact zc; conv => whnf)
 | ((with_reducible refine And.intro (Side.out ?_) ?_); rotate_left; (conv => whnf))
 | ((first | refine retF1 ?_ | refine retF2 ?_ | refine subF.leaf ?_ | refine subF.side ?_) <;> (conv => whnf) <;> repeat' (first
 | exact trivial
 | (with_reducible rfl)
 | ((with_reducible refine And.intro ?_ ?_) <;> conv => whnf)
 | omega
 | rfl
 | (refine congrArg (SV.arr _) ?_)
 | (refine congrArg (Value.int _) ?_)
 | (refine congrArg Value.bool ?_)))); all_goals (try unfold Side)
     all_goals try (repeat' (first | exact zb | with_reducible refine And.intro ?_ ?_))
   · repeat' (first
 | refine W.seq ?_
 | refine W.block ?_
 | (refine W.regW (id := 999) ?_; refine RegW.cut tys_ok [] [1] 8 ⟨[(1, .padr 8000 0), (2, (.lit (.int .i64 (0 : Int))))], [(8000, .box [.lit (.bool true), .lit (.bool true), .own 8001, .mown 8002, (.lit (.int .i64 ((lr0).2.2 : Int)))]), (8001, .row 105 PT true (lr0).1), (8002, .mat 80 91 NT true (lr0).2.1 none)]⟩ rfl ?_ ?_; (conv => whnf); rotate_left; refine RegW.fin tys_ok [] [1] ?_; (conv => whnf))
 | (refine W.region tys_ok [] ?_; conv => whnf)
 | (refine W.drawAll tys_ok [] mixed rfl ?_; conv => whnf)
 | (refine W.ret ?_; conv => whnf)
 | (refine W.skip ?_; conv => whnf)
 | (refine W.exit ?_; conv => whnf)
 | (refine callM_at (d7) ?_; conv => whnf)
 | (refine Both.mk ?_ ?_ <;> (conv => whnf))
 | (refine W.cond rfl (fun hb => ?_) (fun hb => ?_) <;> (try simp only [zr, zd, zm, minL, maxL, pickB, zA] at hb) <;> (try (first | (cases hb; done) | exact absurd hb (by decide) | (exfalso; omega) | (omega))))
 | (refine Or.inl (And.intro ?_ ?_); exact zi; conv => whnf)
 | (refine Or.inr (And.intro ?_ ?_); exact zj; conv => whnf)
 | ((with_reducible refine And.intro ?_ ?_); exact zc; conv => whnf)
 | ((with_reducible refine And.intro (Side.out ?_) ?_); rotate_left; (conv => whnf))
 | ((first | refine retF1 ?_ | refine retF2 ?_ | refine subF.leaf ?_ | refine subF.side ?_) <;> (conv => whnf) <;> repeat' (first
 | exact trivial
 | (with_reducible rfl)
 | ((with_reducible refine And.intro ?_ ?_) <;> conv => whnf)
 | omega
 | rfl
 | (refine congrArg (SV.arr _) ?_)
 | (refine congrArg (Value.int _) ?_)
 | (refine congrArg Value.bool ?_)))); all_goals (try unfold Side)
     all_goals try (repeat' (first | exact zb | with_reducible refine And.intro ?_ ?_))
 · repeat' (first
 | refine W.seq ?_
 | refine W.block ?_
 | (refine W.regW (id := 999) ?_; refine RegW.cut tys_ok [] [1] 8 ⟨[(1, .padr 8000 0), (2, (.lit (.int .i64 (0 : Int))))], [(8000, .box [.lit (.bool true), .lit (.bool true), .own 8001, .mown 8002, (.lit (.int .i64 ((lr0).2.2 : Int)))]), (8001, .row 105 PT true (lr0).1), (8002, .mat 80 91 NT true (lr0).2.1 none)]⟩ rfl ?_ ?_; (conv => whnf); rotate_left; refine RegW.fin tys_ok [] [1] ?_; (conv => whnf))
 | (refine W.region tys_ok [] ?_; conv => whnf)
 | (refine W.drawAll tys_ok [] mixed rfl ?_; conv => whnf)
 | (refine W.ret ?_; conv => whnf)
 | (refine W.skip ?_; conv => whnf)
 | (refine W.exit ?_; conv => whnf)
 | (refine callM_at (c1) ?_; conv => whnf)
 | (refine Both.mk ?_ ?_ <;> (conv => whnf))
 | (refine W.cond rfl (fun hb => ?_) (fun hb => ?_) <;> (try simp only [zr, zd, zm, minL, maxL, pickB, zA] at hb) <;> (try (first | (cases hb; done) | exact absurd hb (by decide) | (exfalso; omega) | (omega))))
 | (refine Or.inl (And.intro ?_ ?_); exact zi; conv => whnf)
 | (refine Or.inr (And.intro ?_ ?_); exact zj; conv => whnf)
 | ((with_reducible refine And.intro ?_ ?_); exact zc; conv => whnf)
 | ((with_reducible refine And.intro (Side.out ?_) ?_); rotate_left; (conv => whnf))
 | ((first | refine retF1 ?_ | refine retF2 ?_ | refine subF.leaf ?_ | refine subF.side ?_) <;> (conv => whnf) <;> repeat' (first
 | exact trivial
 | (with_reducible rfl)
 | ((with_reducible refine And.intro ?_ ?_) <;> conv => whnf)
 | omega
 | rfl
 | (refine congrArg (SV.arr _) ?_)
 | (refine congrArg (Value.int _) ?_)
 | (refine congrArg Value.bool ?_)))); all_goals (try unfold Side)
   all_goals try (repeat' (first | exact zb | with_reducible refine And.intro ?_ ?_))
 · repeat' (first
 | refine W.seq ?_
 | refine W.block ?_
 | (refine W.regW (id := 999) ?_; refine RegW.cut tys_ok [] [1] 8 ⟨[(1, .padr 8000 0), (2, (.lit (.int .i64 (0 : Int))))], [(8000, .box [.lit (.bool true), .lit (.bool true), .own 8001, .mown 8002, (.lit (.int .i64 ((lr0).2.2 : Int)))]), (8001, .row 105 PT true (lr0).1), (8002, .mat 80 91 NT true (lr0).2.1 none)]⟩ rfl ?_ ?_; (conv => whnf); rotate_left; refine RegW.fin tys_ok [] [1] ?_; (conv => whnf))
 | (refine W.region tys_ok [] ?_; conv => whnf)
 | (refine W.drawAll tys_ok [] mixed rfl ?_; conv => whnf)
 | (refine W.ret ?_; conv => whnf)
 | (refine W.skip ?_; conv => whnf)
 | (refine W.exit ?_; conv => whnf)
 | (refine callM_at (c2) ?_; conv => whnf)
 | (refine Both.mk ?_ ?_ <;> (conv => whnf))
 | (refine W.cond rfl (fun hb => ?_) (fun hb => ?_) <;> (try simp only [zr, zd, zm, minL, maxL, pickB, zA] at hb) <;> (try (first | (cases hb; done) | exact absurd hb (by decide) | (exfalso; omega) | (omega))))
 | (refine Or.inl (And.intro ?_ ?_); exact zi; conv => whnf)
 | (refine Or.inr (And.intro ?_ ?_); exact zj; conv => whnf)
 | ((with_reducible refine And.intro ?_ ?_); exact zc; conv => whnf)
 | ((with_reducible refine And.intro (Side.out ?_) ?_); rotate_left; (conv => whnf))
 | ((first | refine retF1 ?_ | refine retF2 ?_ | refine subF.leaf ?_ | refine subF.side ?_) <;> (conv => whnf) <;> repeat' (first
 | exact trivial
 | (with_reducible rfl)
 | ((with_reducible refine And.intro ?_ ?_) <;> conv => whnf)
 | omega
 | rfl
 | (refine congrArg (SV.arr _) ?_)
 | (refine congrArg (Value.int _) ?_)
 | (refine congrArg Value.bool ?_)))); all_goals (try unfold Side)
   all_goals try (repeat' (first | exact zb | with_reducible refine And.intro ?_ ?_))
 · repeat' (first
 | refine W.seq ?_
 | refine W.block ?_
 | (refine W.regW (id := 999) ?_; refine RegW.cut tys_ok [] [1] 8 ⟨[(1, .padr 8000 0), (2, (.lit (.int .i64 (0 : Int))))], [(8000, .box [.lit (.bool true), .lit (.bool true), .own 8001, .mown 8002, (.lit (.int .i64 ((lr0).2.2 : Int)))]), (8001, .row 105 PT true (lr0).1), (8002, .mat 80 91 NT true (lr0).2.1 none)]⟩ rfl ?_ ?_; (conv => whnf); rotate_left; refine RegW.fin tys_ok [] [1] ?_; (conv => whnf))
 | (refine W.region tys_ok [] ?_; conv => whnf)
 | (refine W.drawAll tys_ok [] mixed rfl ?_; conv => whnf)
 | (refine W.ret ?_; conv => whnf)
 | (refine W.skip ?_; conv => whnf)
 | (refine W.exit ?_; conv => whnf)
 | (refine callM_at (c3) ?_; conv => whnf)
 | (refine Both.mk ?_ ?_ <;> (conv => whnf))
 | (refine W.cond rfl (fun hb => ?_) (fun hb => ?_) <;> (try simp only [zr, zd, zm, minL, maxL, pickB, zA] at hb) <;> (try (first | (cases hb; done) | exact absurd hb (by decide) | (exfalso; omega) | (omega))))
 | (refine Or.inl (And.intro ?_ ?_); exact zi; conv => whnf)
 | (refine Or.inr (And.intro ?_ ?_); exact zj; conv => whnf)
 | ((with_reducible refine And.intro ?_ ?_); exact zc; conv => whnf)
 | ((with_reducible refine And.intro (Side.out ?_) ?_); rotate_left; (conv => whnf))
 | ((first | refine retF1 ?_ | refine retF2 ?_ | refine subF.leaf ?_ | refine subF.side ?_) <;> (conv => whnf) <;> repeat' (first
 | exact trivial
 | (with_reducible rfl)
 | ((with_reducible refine And.intro ?_ ?_) <;> conv => whnf)
 | omega
 | rfl
 | (refine congrArg (SV.arr _) ?_)
 | (refine congrArg (Value.int _) ?_)
 | (refine congrArg Value.bool ?_)))); all_goals (try unfold Side)
   all_goals try (repeat' (first | exact zb | with_reducible refine And.intro ?_ ?_))
 · repeat' (first
 | refine W.seq ?_
 | refine W.block ?_
 | (refine W.regW (id := 999) ?_; refine RegW.cut tys_ok [] [1] 8 ⟨[(1, .padr 8000 0), (2, (.lit (.int .i64 (0 : Int))))], [(8000, .box [.lit (.bool true), .lit (.bool true), .own 8001, .mown 8002, (.lit (.int .i64 ((lr0).2.2 : Int)))]), (8001, .row 105 PT true (lr0).1), (8002, .mat 80 91 NT true (lr0).2.1 none)]⟩ rfl ?_ ?_; (conv => whnf); rotate_left; refine RegW.fin tys_ok [] [1] ?_; (conv => whnf))
 | (refine W.region tys_ok [] ?_; conv => whnf)
 | (refine W.drawAll tys_ok [] mixed rfl ?_; conv => whnf)
 | (refine W.ret ?_; conv => whnf)
 | (refine W.skip ?_; conv => whnf)
 | (refine W.exit ?_; conv => whnf)
 | (refine callM_at (c4) ?_; conv => whnf)
 | (refine Both.mk ?_ ?_ <;> (conv => whnf))
 | (refine W.cond rfl (fun hb => ?_) (fun hb => ?_) <;> (try simp only [zr, zd, zm, minL, maxL, pickB, zA] at hb) <;> (try (first | (cases hb; done) | exact absurd hb (by decide) | (exfalso; omega) | (omega))))
 | (refine Or.inl (And.intro ?_ ?_); exact zi; conv => whnf)
 | (refine Or.inr (And.intro ?_ ?_); exact zj; conv => whnf)
 | ((with_reducible refine And.intro ?_ ?_); exact zc; conv => whnf)
 | ((with_reducible refine And.intro (Side.out ?_) ?_); rotate_left; (conv => whnf))
 | ((first | refine retF1 ?_ | refine retF2 ?_ | refine subF.leaf ?_ | refine subF.side ?_) <;> (conv => whnf) <;> repeat' (first
 | exact trivial
 | (with_reducible rfl)
 | ((with_reducible refine And.intro ?_ ?_) <;> conv => whnf)
 | omega
 | rfl
 | (refine congrArg (SV.arr _) ?_)
 | (refine congrArg (Value.int _) ?_)
 | (refine congrArg Value.bool ?_)))); all_goals (try unfold Side)
   all_goals try (repeat' (first | exact zb | with_reducible refine And.intro ?_ ?_))
open Go Go.Vc Go.Rg
variable {n : Nat} {pet : Bool} {r : Rn}
theorem cvD_len : (cvD r).1.length = r.1.length := by unfold cvD; rw [List.length_map]
theorem startE_cv {i : Int} : startDE i (cvD r) = startE i r := by
 unfold startDE startE
 rw [cvD_len]
 by_cases h : hasB r.1.length i = true
 · rw [if_pos h, if_pos h]
   obtain ⟨j, rfl, hj⟩ := has_nat h
   rw [Int.toNat_natCast]
   have e := cv_get hj
   have eB : wB (cvD r).1 j = pB r.1 j := by unfold wB cvD; rw [e]; rfl
   rw [eB]
 · rw [if_neg h, if_neg h]
theorem startK_cv {i : Int} : startDK i (cvD r) = cvD (startK i r) := by
 unfold startDK startK
 rw [startE_cv]
 by_cases h : startE i r = 0
 · rw [if_pos h, if_pos h]
   have h1 : hasB r.1.length i = true := by
    unfold startE at h
    by_cases c : hasB r.1.length i = true
    · exact c
    · rw [if_neg c] at h; cases h
   obtain ⟨j, rfl, hj⟩ := has_nat h1
   rw [Int.toNat_natCast]
   exact begin_cv hj
 · rw [if_neg h, if_neg h]
theorem rdelE_cv {i : Int} : rdelDE i (cvD r) = rdelE i r := by
 unfold rdelDE rdelE
 rw [cvD_len]; rfl
theorem rdelK_cv (h : ROk n pet r) {i : Int} : rdelDK pet i (cvD r) = cvD (rdelK pet i r) := by
 unfold rdelDK rdelK
 rw [rdelE_cv]
 by_cases h0 : rdelE i r = 0
 · rw [if_pos h0, if_pos h0]
   unfold rdelE at h0
   by_cases c : hasB r.1.length i = true
   · rw [if_pos c] at h0
     obtain ⟨j, rfl, hj⟩ := has_nat c
     rw [Int.toNat_natCast] at h0 ⊢
     refine del_cv h (by rw [← h.len]; exact hj) fun e => ?_
     rw [if_pos e] at h0; cases h0
   · rw [if_neg c] at h0; cases h0
 · rw [if_neg h0, if_neg h0]
theorem start_sent' {i : Int} : (startK i r).2.2 ≤ r.2.2 + 2 := by
 unfold startK
 split
 · show r.2.2 + 1 ≤ _; omega
 · omega
theorem del_sent' {i : Int} : (rdelK pet i r).2.2 ≤ r.2.2 + 2 := by
 unfold rdelK
 split
 · exact recv_sent
 · omega
end Go.Proofs.Ytkjcnegkdlmapaa
