/- Joined of: K14 R14. No condition. -/
import Derived.Test.YtkjcnegkdlmapaaJ12
import Derived.Test.YtkjcnegkdlmapaaJ8
import Derived.Test.YtkjcnegkdlmapaaJ10

namespace Go.Proofs.Ytkjcnegkdlmapaa
open Go Go.Vc Go.Rg
set_option linter.unusedVariables false
set_option linter.unusedSimpArgs false
def lr0 : Rn := rnew [7]
def lr1 : Rn := startK 0 lr0
def lr2 : Rn := rdelK true 0 lr1
def lr3 : Rn := rdelK true 0 lr2
def lw0 : Wk := begL 2
def lw1 : Wk := sendK 0 1 lw0
def lw2 : Wk := idleK 0 lw1
def lw3 : Wk := delK 0 lw2
def lw4 : Wk := idleK 1 lw3
def lw5 : Wk := delK 0 lw4
theorem lr0_ok : ROk 1 true lr0 := ROk.new (xs := [7]) (by decide) (by decide)
theorem lw0_ok : WOk 2 lw0 := WOk.beg (by decide) (by decide)
theorem s0 : startE 0 lr0 = 0 := by decide
theorem s1 : rdelE 0 lr1 = 0 := by decide
theorem s2 : rdelE 0 lr2 = 0 := by decide
theorem s3 : pL lr2.1 0 = 7 ∧ lr2.1.length = 1 := by decide
theorem s4 : lr3.2.2 = 2 := by decide
theorem q0 : sendE 0 1 lw0 = 0 := by decide
theorem q1 : idleE 0 lw1 = 0 := by decide
theorem q2 : endB lw2 = false := by decide
theorem q3 : delE 0 lw2 = 0 := by decide
theorem q4 : gp lw3.1 1 = 0 ∧ lw3.1.length = 2 := by decide
theorem q5 : idleE 1 lw3 = 0 := by decide
theorem q6 : delE 0 lw4 = 0 := by decide
theorem q7 : endB lw5 = true := by decide
theorem seven : ∀ i, i < [(7 : Int)].length → goodAt [7] i := fun i hi => by
  match i, hi with
  | 0, _ => exact ⟨by decide, by decide, by simp⟩
set_option maxHeartbeats 16000000 in
theorem lives_at : FnAt Try.prog false 16 [] (.lit (.bool true)) [] := by
  have k1 := lr0_ok.start (i := 0)
  have k2 := k1.del (i := 0)
  have t0 : lr0.2.2 ≤ 900000 := by decide
  have t1 : lr1.2.2 ≤ 900000 := by decide
  have t2 : lr2.2.2 ≤ 900000 := by decide
  have c0 := new_ok (xs := [7]) (pet := true) (by decide) (by decide) seven
  have c1 := start_ring (i := 0) (r2 := lr1) lr0_ok t0 s0 rfl
  have c2 := deliver_ring (i := 0) (r2 := lr2) k1 t1 s1 rfl
  have c3 := leader_in (pet := true) (r := lr2) (i := 0) (by rw [s3.2]; decide)
  rw [s3.1] at c3
  have c4 := deliver_ring (i := 0) (r2 := lr3) k2 t2 s2 rfl
  have c5 := sent_at (pet := true) (r := lr3)
  rw [s4] at c5
  have m1 := lw0_ok.send (a := 0) (b := 1)
  have m2 := m1.idle (i := 0)
  have m3 := m2.del (k := 0)
  have m4 := m3.idle (i := 1)
  have m5 := m4.del (k := 0)
  have d0 := begin_at (n := 2) (by decide) (by decide)
  have d1 := send_at (a := 0) (b := 1) (w2 := lw1) lw0_ok q0 rfl
  have d2 := idle_at (i := 0) (w2 := lw2) m1 q1 rfl
  have d3 := ended_at (hs := lw2.1) (fl := lw2.2) (b := false) (by rw [show lw2.1.length = 2 from m2.len]; decide) q2.symm
  have d4 := deliver_at (k := 0) (w2 := lw3) m2 q3 rfl
  have d5 := parent_in (hs := lw3.1) (fl := lw3.2) (i := 1) (by rw [q4.2]; decide)
  rw [q4.1] at d5
  have d6 := idle_at (i := 1) (w2 := lw4) m3 q5 rfl
  have d7 := deliver_at (k := 0) (w2 := lw5) m4 q6 rfl
  have d8 := ended_at (hs := lw5.1) (fl := lw5.2) (b := true) (by rw [show lw5.1.length = 2 from m5.len]; decide) q7.symm
  refine FnAt.of_body tys_ok Try.func16 (by rfl) rfl Try.ntmps16 (by rw [Try.results16]) (by simp) ?_
  
  repeat' (first
 | refine W.seq ?_
 | refine W.block ?_
 | (refine W.regionM (id := 1) tys_ok [6] [1] ?_; conv => whnf)
 | (refine W.regW (id := 2) ?_; refine RegW.cut tys_ok [6] [8,13,18,23,28,33,38] 0 ⟨[(1, .padr 8000 0), (2, (.lit (.int .i64 (0 : Int))))], [(8000, .box [.lit (.bool true), .lit (.bool true), .own 8001, .mown 8002, (.lit (.int .i64 ((lr0).2.2 : Int)))]), (8001, .row 105 PT true (lr0).1), (8002, .mat 80 91 NT true (lr0).2.1 none)]⟩ rfl ?_ ?_; (conv => whnf); rotate_left; refine RegW.cut tys_ok [6] [8,13,18,23,28,33,38] 11 ⟨[(1, .padr 8000 0), (20, .lit (.bool false))], [(8000, .box [.lit (.bool true), .lit (.bool true), .own 8001, .mown 8002, (.lit (.int .i64 ((lr1).2.2 : Int)))]), (8001, .row 105 PT true (lr1).1), (8002, .mat 80 91 NT true (lr1).2.1 none)]⟩ rfl ?_ ?_; (conv => whnf); rotate_left; refine RegW.cut tys_ok [6] [8,13,18,23,28,33,38] 16 ⟨[(1, .padr 8000 0), (25, .lit (.bool false))], [(8000, .box [.lit (.bool true), .lit (.bool true), .own 8001, .mown 8002, (.lit (.int .i64 ((lr2).2.2 : Int)))]), (8001, .row 105 PT true (lr2).1), (8002, .mat 80 91 NT true (lr2).2.1 none)]⟩ rfl ?_ ?_; (conv => whnf); rotate_left; refine RegW.cut tys_ok [6] [8,13,18,23,28,33,38] 21 ⟨[(1, .padr 8000 0), (30, .lit (.bool false))], [(8000, .box [.lit (.bool true), .lit (.bool true), .own 8001, .mown 8002, (.lit (.int .i64 ((lr2).2.2 : Int)))]), (8001, .row 105 PT true (lr2).1), (8002, .mat 80 91 NT true (lr2).2.1 none)]⟩ rfl ?_ ?_; (conv => whnf); rotate_left; refine RegW.cut tys_ok [6] [8,13,18,23,28,33,38] 26 ⟨[(1, .padr 8000 0), (35, .lit (.bool false))], [(8000, .box [.lit (.bool true), .lit (.bool true), .own 8001, .mown 8002, (.lit (.int .i64 ((lr3).2.2 : Int)))]), (8001, .row 105 PT true (lr3).1), (8002, .mat 80 91 NT true (lr3).2.1 none)]⟩ rfl ?_ ?_; (conv => whnf); rotate_left; refine RegW.fin tys_ok [6] [8,13,18,23,28,33,38] ?_; (conv => whnf))
 | (refine W.region tys_ok [6] ?_; conv => whnf)
 | (refine W.drawAll tys_ok [6] mixed rfl ?_; conv => whnf)
 | (refine W.ret ?_; conv => whnf)
 | (refine W.skip ?_; conv => whnf)
 | (refine W.exit ?_; conv => whnf)
 | (refine callM_at (c0) ?_; conv => whnf)
 | (refine Both.mk ?_ ?_ <;> (conv => whnf))
 | (refine W.cond rfl (fun hb => ?_) (fun hb => ?_) <;> (try simp only [Int.reduceToNat, Int.reduceTDiv, Int.reduceTMod, minL, maxL, pickB, zHB, zSH] at hb) <;> (try (first | (cases hb; done) | exact absurd hb (by decide) | (exfalso; omega) | (omega))))
 | (refine Or.inl (And.intro ?_ ?_); (focus (first | exact trivial | exact ⟨rfl, trivial⟩ | (refine ⟨?_, trivial⟩; dsimp only; simp only [Int.reduceToNat, Int.reduceTDiv, Int.reduceTMod, minL, maxL, pickB, zHB, zSH]; omega) | (refine ⟨?_, trivial⟩; dsimp only; (try simp only [Int.reduceToNat, Int.reduceTDiv, Int.reduceTMod, minL, maxL, pickB, zHB, zSH]); (simp_all; done)) | (refine ⟨?_, trivial⟩; dsimp only; (simp only [Int.reduceToNat, Int.reduceTDiv, Int.reduceTMod, minL, maxL, pickB, zHB, zSH]; done)) | (refine ⟨?_, trivial⟩; dsimp only; (simp; done)))); (conv => whnf))
 | (refine Or.inr (And.intro ?_ ?_); (focus (intro h; have h := h.1; dsimp only at h; first | (exact Bool.noConfusion h) | (simp only [Int.reduceToNat, Int.reduceTDiv, Int.reduceTMod, minL, maxL, pickB, zHB, zSH] at h; omega) | ((try simp only [Int.reduceToNat, Int.reduceTDiv, Int.reduceTMod, minL, maxL, pickB, zHB, zSH] at h); (simp_all; done)))); (conv => whnf))
 | ((with_reducible refine And.intro ?_ ?_); (focus (first | (with_reducible rfl) | omega | rfl | ((try simp only [Int.reduceToNat, Int.reduceTDiv, Int.reduceTMod, minL, maxL, pickB, zHB, zSH, InK, Path.imp, zL] at *); omega))); (conv => whnf))
 | ((with_reducible refine And.intro (Side.out ?_) ?_); rotate_left; (conv => whnf))
 | ((first | refine retF1 ?_ | refine retF2 ?_ | refine subF.leaf ?_ | refine subF.side ?_) <;> (conv => whnf) <;> repeat' (first
 | exact trivial
 | (with_reducible rfl)
 | ((with_reducible refine And.intro ?_ ?_) <;> conv => whnf)
 | omega
 | rfl
 | (refine congrArg (SV.arr _) ?_)
 | (refine congrArg (Value.int _) ?_)
 | (refine congrArg Value.bool ?_)))); all_goals (try unfold Side)
  all_goals try (repeat' (first | (with_reducible rfl) | (with_reducible refine And.intro ?_ ?_) | omega | rfl | exact Or.inl rfl | exact Or.inr rfl | exact of_decide_eq_true rfl | exact Path.imp_of (of_decide_eq_true rfl) | (focus ((try simp only [Int.reduceToNat, Int.reduceTDiv, Int.reduceTMod, minL, maxL, pickB, zHB, zSH, InK, Path.imp, zL] at *); omega)) | (refine app_le rfl ?_; omega)))
  · repeat' (first
 | refine W.seq ?_
 | refine W.block ?_
 | (refine W.regW (id := 999) ?_; refine RegW.cut tys_ok [] [1] 8 ⟨[(1, .padr 8000 0), (2, (.lit (.int .i64 (0 : Int))))], [(8000, .box [.lit (.bool true), .lit (.bool true), .own 8001, .mown 8002, (.lit (.int .i64 ((lr0).2.2 : Int)))]), (8001, .row 105 PT true (lr0).1), (8002, .mat 80 91 NT true (lr0).2.1 none)]⟩ rfl ?_ ?_; (conv => whnf); rotate_left; refine RegW.fin tys_ok [] [1] ?_; (conv => whnf))
 | (refine W.regionM (id := 4) tys_ok [] [0] ?_; conv => whnf)
 | (refine W.regW (id := 5) ?_; refine RegW.cut tys_ok [] [8,13,18,23,28,33,38,43] 0 ⟨[(3, .padr 43000 0), (4, (.lit (.int .i64 (0 : Int))))], [(43000, .box [.own 43001, .own 43002]), (43001, .row 96 HT true (lw0).1), (43002, .row 50 LT true (lw0).2)]⟩ rfl ?_ ?_; (conv => whnf); rotate_left; refine RegW.cut tys_ok [] [8,13,18,23,28,33,38,43] 11 ⟨[(3, .padr 43000 0), (55, .lit (.bool true))], [(43000, .box [.own 43001, .own 43002]), (43001, .row 96 HT true (lw1).1), (43002, .row 50 LT true (lw1).2)]⟩ rfl ?_ ?_; (conv => whnf); rotate_left; refine RegW.cut tys_ok [] [8,13,18,23,28,33,38,43] 16 ⟨[(3, .padr 43000 0), (60, .lit (.bool true))], [(43000, .box [.own 43001, .own 43002]), (43001, .row 96 HT true (lw2).1), (43002, .row 50 LT true (lw2).2)]⟩ rfl ?_ ?_; (conv => whnf); rotate_left; refine RegW.cut tys_ok [] [8,13,18,23,28,33,38,43] 21 ⟨[(3, .padr 43000 0), (65, .lit (.bool true))], [(43000, .box [.own 43001, .own 43002]), (43001, .row 96 HT true (lw2).1), (43002, .row 50 LT true (lw2).2)]⟩ rfl ?_ ?_; (conv => whnf); rotate_left; refine RegW.cut tys_ok [] [8,13,18,23,28,33,38,43] 26 ⟨[(3, .padr 43000 0), (70, .lit (.bool true))], [(43000, .box [.own 43001, .own 43002]), (43001, .row 96 HT true (lw3).1), (43002, .row 50 LT true (lw3).2)]⟩ rfl ?_ ?_; (conv => whnf); rotate_left; refine RegW.cut tys_ok [] [8,13,18,23,28,33,38,43] 31 ⟨[(3, .padr 43000 0), (75, .lit (.bool true))], [(43000, .box [.own 43001, .own 43002]), (43001, .row 96 HT true (lw3).1), (43002, .row 50 LT true (lw3).2)]⟩ rfl ?_ ?_; (conv => whnf); rotate_left; refine RegW.cut tys_ok [] [8,13,18,23,28,33,38,43] 36 ⟨[(3, .padr 43000 0), (80, .lit (.bool true))], [(43000, .box [.own 43001, .own 43002]), (43001, .row 96 HT true (lw4).1), (43002, .row 50 LT true (lw4).2)]⟩ rfl ?_ ?_; (conv => whnf); rotate_left; refine RegW.cut tys_ok [] [8,13,18,23,28,33,38,43] 41 ⟨[(3, .padr 43000 0), (85, .lit (.bool true))], [(43000, .box [.own 43001, .own 43002]), (43001, .row 96 HT true (lw5).1), (43002, .row 50 LT true (lw5).2)]⟩ rfl ?_ ?_; (conv => whnf); rotate_left; refine RegW.fin tys_ok [] [8,13,18,23,28,33,38,43] ?_; (conv => whnf))
 | (refine W.region tys_ok [] ?_; conv => whnf)
 | (refine W.drawAll tys_ok [] mixed rfl ?_; conv => whnf)
 | (refine W.ret ?_; conv => whnf)
 | (refine W.skip ?_; conv => whnf)
 | (refine W.exit ?_; conv => whnf)
 | (refine callM_at (c5) ?_; conv => whnf)
 | (refine callM_at (d0) ?_; conv => whnf)
 | (refine Both.mk ?_ ?_ <;> (conv => whnf))
 | (refine W.cond rfl (fun hb => ?_) (fun hb => ?_) <;> (try simp only [Int.reduceToNat, Int.reduceTDiv, Int.reduceTMod, minL, maxL, pickB, zHB, zSH] at hb) <;> (try (first | (cases hb; done) | exact absurd hb (by decide) | (exfalso; omega) | (omega))))
 | (refine Or.inl (And.intro ?_ ?_); (focus (first | exact trivial | exact ⟨rfl, trivial⟩ | (refine ⟨?_, trivial⟩; dsimp only; simp only [Int.reduceToNat, Int.reduceTDiv, Int.reduceTMod, minL, maxL, pickB, zHB, zSH]; omega) | (refine ⟨?_, trivial⟩; dsimp only; (try simp only [Int.reduceToNat, Int.reduceTDiv, Int.reduceTMod, minL, maxL, pickB, zHB, zSH]); (simp_all; done)) | (refine ⟨?_, trivial⟩; dsimp only; (simp only [Int.reduceToNat, Int.reduceTDiv, Int.reduceTMod, minL, maxL, pickB, zHB, zSH]; done)) | (refine ⟨?_, trivial⟩; dsimp only; (simp; done)))); (conv => whnf))
 | (refine Or.inr (And.intro ?_ ?_); (focus (intro h; have h := h.1; dsimp only at h; first | (exact Bool.noConfusion h) | (simp only [Int.reduceToNat, Int.reduceTDiv, Int.reduceTMod, minL, maxL, pickB, zHB, zSH] at h; omega) | ((try simp only [Int.reduceToNat, Int.reduceTDiv, Int.reduceTMod, minL, maxL, pickB, zHB, zSH] at h); (simp_all; done)))); (conv => whnf))
 | ((with_reducible refine And.intro ?_ ?_); (focus (first | (with_reducible rfl) | omega | rfl | ((try simp only [Int.reduceToNat, Int.reduceTDiv, Int.reduceTMod, minL, maxL, pickB, zHB, zSH, InK, Path.imp, zL] at *); omega))); (conv => whnf))
 | ((with_reducible refine And.intro (Side.out ?_) ?_); rotate_left; (conv => whnf))
 | ((first | refine retF1 ?_ | refine retF2 ?_ | refine subF.leaf ?_ | refine subF.side ?_) <;> (conv => whnf) <;> repeat' (first
 | exact trivial
 | (with_reducible rfl)
 | ((with_reducible refine And.intro ?_ ?_) <;> conv => whnf)
 | omega
 | rfl
 | (refine congrArg (SV.arr _) ?_)
 | (refine congrArg (Value.int _) ?_)
 | (refine congrArg Value.bool ?_)))); all_goals (try unfold Side)
    all_goals try (repeat' (first | (with_reducible rfl) | (with_reducible refine And.intro ?_ ?_) | omega | rfl | exact Or.inl rfl | exact Or.inr rfl | exact of_decide_eq_true rfl | exact Path.imp_of (of_decide_eq_true rfl) | (focus ((try simp only [Int.reduceToNat, Int.reduceTDiv, Int.reduceTMod, minL, maxL, pickB, zHB, zSH, InK, Path.imp, zL] at *); omega)) | (refine app_le rfl ?_; omega)))
    · repeat' (first
 | refine W.seq ?_
 | refine W.block ?_
 | (refine W.regW (id := 999) ?_; refine RegW.cut tys_ok [] [1] 8 ⟨[(1, .padr 8000 0), (2, (.lit (.int .i64 (0 : Int))))], [(8000, .box [.lit (.bool true), .lit (.bool true), .own 8001, .mown 8002, (.lit (.int .i64 ((lr0).2.2 : Int)))]), (8001, .row 105 PT true (lr0).1), (8002, .mat 80 91 NT true (lr0).2.1 none)]⟩ rfl ?_ ?_; (conv => whnf); rotate_left; refine RegW.fin tys_ok [] [1] ?_; (conv => whnf))
 | (refine W.region tys_ok [] ?_; conv => whnf)
 | (refine W.drawAll tys_ok [] mixed rfl ?_; conv => whnf)
 | (refine W.ret ?_; conv => whnf)
 | (refine W.skip ?_; conv => whnf)
 | (refine W.exit ?_; conv => whnf)
 | (refine callM_at (d8) ?_; conv => whnf)
 | (refine Both.mk ?_ ?_ <;> (conv => whnf))
 | (refine W.cond rfl (fun hb => ?_) (fun hb => ?_) <;> (try simp only [Int.reduceToNat, Int.reduceTDiv, Int.reduceTMod, minL, maxL, pickB, zHB, zSH] at hb) <;> (try (first | (cases hb; done) | exact absurd hb (by decide) | (exfalso; omega) | (omega))))
 | (refine Or.inl (And.intro ?_ ?_); (focus (first | exact trivial | exact ⟨rfl, trivial⟩ | (refine ⟨?_, trivial⟩; dsimp only; simp only [Int.reduceToNat, Int.reduceTDiv, Int.reduceTMod, minL, maxL, pickB, zHB, zSH]; omega) | (refine ⟨?_, trivial⟩; dsimp only; (try simp only [Int.reduceToNat, Int.reduceTDiv, Int.reduceTMod, minL, maxL, pickB, zHB, zSH]); (simp_all; done)) | (refine ⟨?_, trivial⟩; dsimp only; (simp only [Int.reduceToNat, Int.reduceTDiv, Int.reduceTMod, minL, maxL, pickB, zHB, zSH]; done)) | (refine ⟨?_, trivial⟩; dsimp only; (simp; done)))); (conv => whnf))
 | (refine Or.inr (And.intro ?_ ?_); (focus (intro h; have h := h.1; dsimp only at h; first | (exact Bool.noConfusion h) | (simp only [Int.reduceToNat, Int.reduceTDiv, Int.reduceTMod, minL, maxL, pickB, zHB, zSH] at h; omega) | ((try simp only [Int.reduceToNat, Int.reduceTDiv, Int.reduceTMod, minL, maxL, pickB, zHB, zSH] at h); (simp_all; done)))); (conv => whnf))
 | ((with_reducible refine And.intro ?_ ?_); (focus (first | (with_reducible rfl) | omega | rfl | ((try simp only [Int.reduceToNat, Int.reduceTDiv, Int.reduceTMod, minL, maxL, pickB, zHB, zSH, InK, Path.imp, zL] at *); omega))); (conv => whnf))
 | ((with_reducible refine And.intro (Side.out ?_) ?_); rotate_left; (conv => whnf))
 | ((first | refine retF1 ?_ | refine retF2 ?_ | refine subF.leaf ?_ | refine subF.side ?_) <;> (conv => whnf) <;> repeat' (first
 | exact trivial
 | (with_reducible rfl)
 | ((with_reducible refine And.intro ?_ ?_) <;> conv => whnf)
 | omega
 | rfl
 | (refine congrArg (SV.arr _) ?_)
 | (refine congrArg (Value.int _) ?_)
 | (refine congrArg Value.bool ?_)))); all_goals (try unfold Side)
      all_goals try (repeat' (first | (with_reducible rfl) | (with_reducible refine And.intro ?_ ?_) | omega | rfl | exact Or.inl rfl | exact Or.inr rfl | exact of_decide_eq_true rfl | exact Path.imp_of (of_decide_eq_true rfl) | (focus ((try simp only [Int.reduceToNat, Int.reduceTDiv, Int.reduceTMod, minL, maxL, pickB, zHB, zSH, InK, Path.imp, zL] at *); omega)) | (refine app_le rfl ?_; omega)))
    · repeat' (first
 | refine W.seq ?_
 | refine W.block ?_
 | (refine W.regW (id := 999) ?_; refine RegW.cut tys_ok [] [1] 8 ⟨[(1, .padr 8000 0), (2, (.lit (.int .i64 (0 : Int))))], [(8000, .box [.lit (.bool true), .lit (.bool true), .own 8001, .mown 8002, (.lit (.int .i64 ((lr0).2.2 : Int)))]), (8001, .row 105 PT true (lr0).1), (8002, .mat 80 91 NT true (lr0).2.1 none)]⟩ rfl ?_ ?_; (conv => whnf); rotate_left; refine RegW.fin tys_ok [] [1] ?_; (conv => whnf))
 | (refine W.region tys_ok [] ?_; conv => whnf)
 | (refine W.drawAll tys_ok [] mixed rfl ?_; conv => whnf)
 | (refine W.ret ?_; conv => whnf)
 | (refine W.skip ?_; conv => whnf)
 | (refine W.exit ?_; conv => whnf)
 | (refine callM_at (d1) ?_; conv => whnf)
 | (refine Both.mk ?_ ?_ <;> (conv => whnf))
 | (refine W.cond rfl (fun hb => ?_) (fun hb => ?_) <;> (try simp only [Int.reduceToNat, Int.reduceTDiv, Int.reduceTMod, minL, maxL, pickB, zHB, zSH] at hb) <;> (try (first | (cases hb; done) | exact absurd hb (by decide) | (exfalso; omega) | (omega))))
 | (refine Or.inl (And.intro ?_ ?_); (focus (first | exact trivial | exact ⟨rfl, trivial⟩ | (refine ⟨?_, trivial⟩; dsimp only; simp only [Int.reduceToNat, Int.reduceTDiv, Int.reduceTMod, minL, maxL, pickB, zHB, zSH]; omega) | (refine ⟨?_, trivial⟩; dsimp only; (try simp only [Int.reduceToNat, Int.reduceTDiv, Int.reduceTMod, minL, maxL, pickB, zHB, zSH]); (simp_all; done)) | (refine ⟨?_, trivial⟩; dsimp only; (simp only [Int.reduceToNat, Int.reduceTDiv, Int.reduceTMod, minL, maxL, pickB, zHB, zSH]; done)) | (refine ⟨?_, trivial⟩; dsimp only; (simp; done)))); (conv => whnf))
 | (refine Or.inr (And.intro ?_ ?_); (focus (intro h; have h := h.1; dsimp only at h; first | (exact Bool.noConfusion h) | (simp only [Int.reduceToNat, Int.reduceTDiv, Int.reduceTMod, minL, maxL, pickB, zHB, zSH] at h; omega) | ((try simp only [Int.reduceToNat, Int.reduceTDiv, Int.reduceTMod, minL, maxL, pickB, zHB, zSH] at h); (simp_all; done)))); (conv => whnf))
 | ((with_reducible refine And.intro ?_ ?_); (focus (first | (with_reducible rfl) | omega | rfl | ((try simp only [Int.reduceToNat, Int.reduceTDiv, Int.reduceTMod, minL, maxL, pickB, zHB, zSH, InK, Path.imp, zL] at *); omega))); (conv => whnf))
 | ((with_reducible refine And.intro (Side.out ?_) ?_); rotate_left; (conv => whnf))
 | ((first | refine retF1 ?_ | refine retF2 ?_ | refine subF.leaf ?_ | refine subF.side ?_) <;> (conv => whnf) <;> repeat' (first
 | exact trivial
 | (with_reducible rfl)
 | ((with_reducible refine And.intro ?_ ?_) <;> conv => whnf)
 | omega
 | rfl
 | (refine congrArg (SV.arr _) ?_)
 | (refine congrArg (Value.int _) ?_)
 | (refine congrArg Value.bool ?_)))); all_goals (try unfold Side)
      all_goals try (repeat' (first | (with_reducible rfl) | (with_reducible refine And.intro ?_ ?_) | omega | rfl | exact Or.inl rfl | exact Or.inr rfl | exact of_decide_eq_true rfl | exact Path.imp_of (of_decide_eq_true rfl) | (focus ((try simp only [Int.reduceToNat, Int.reduceTDiv, Int.reduceTMod, minL, maxL, pickB, zHB, zSH, InK, Path.imp, zL] at *); omega)) | (refine app_le rfl ?_; omega)))
    · repeat' (first
 | refine W.seq ?_
 | refine W.block ?_
 | (refine W.regW (id := 999) ?_; refine RegW.cut tys_ok [] [1] 8 ⟨[(1, .padr 8000 0), (2, (.lit (.int .i64 (0 : Int))))], [(8000, .box [.lit (.bool true), .lit (.bool true), .own 8001, .mown 8002, (.lit (.int .i64 ((lr0).2.2 : Int)))]), (8001, .row 105 PT true (lr0).1), (8002, .mat 80 91 NT true (lr0).2.1 none)]⟩ rfl ?_ ?_; (conv => whnf); rotate_left; refine RegW.fin tys_ok [] [1] ?_; (conv => whnf))
 | (refine W.region tys_ok [] ?_; conv => whnf)
 | (refine W.drawAll tys_ok [] mixed rfl ?_; conv => whnf)
 | (refine W.ret ?_; conv => whnf)
 | (refine W.skip ?_; conv => whnf)
 | (refine W.exit ?_; conv => whnf)
 | (refine callM_at (d2) ?_; conv => whnf)
 | (refine Both.mk ?_ ?_ <;> (conv => whnf))
 | (refine W.cond rfl (fun hb => ?_) (fun hb => ?_) <;> (try simp only [Int.reduceToNat, Int.reduceTDiv, Int.reduceTMod, minL, maxL, pickB, zHB, zSH] at hb) <;> (try (first | (cases hb; done) | exact absurd hb (by decide) | (exfalso; omega) | (omega))))
 | (refine Or.inl (And.intro ?_ ?_); (focus (first | exact trivial | exact ⟨rfl, trivial⟩ | (refine ⟨?_, trivial⟩; dsimp only; simp only [Int.reduceToNat, Int.reduceTDiv, Int.reduceTMod, minL, maxL, pickB, zHB, zSH]; omega) | (refine ⟨?_, trivial⟩; dsimp only; (try simp only [Int.reduceToNat, Int.reduceTDiv, Int.reduceTMod, minL, maxL, pickB, zHB, zSH]); (simp_all; done)) | (refine ⟨?_, trivial⟩; dsimp only; (simp only [Int.reduceToNat, Int.reduceTDiv, Int.reduceTMod, minL, maxL, pickB, zHB, zSH]; done)) | (refine ⟨?_, trivial⟩; dsimp only; (simp; done)))); (conv => whnf))
 | (refine Or.inr (And.intro ?_ ?_); (focus (intro h; have h := h.1; dsimp only at h; first | (exact Bool.noConfusion h) | (simp only [Int.reduceToNat, Int.reduceTDiv, Int.reduceTMod, minL, maxL, pickB, zHB, zSH] at h; omega) | ((try simp only [Int.reduceToNat, Int.reduceTDiv, Int.reduceTMod, minL, maxL, pickB, zHB, zSH] at h); (simp_all; done)))); (conv => whnf))
 | ((with_reducible refine And.intro ?_ ?_); (focus (first | (with_reducible rfl) | omega | rfl | ((try simp only [Int.reduceToNat, Int.reduceTDiv, Int.reduceTMod, minL, maxL, pickB, zHB, zSH, InK, Path.imp, zL] at *); omega))); (conv => whnf))
 | ((with_reducible refine And.intro (Side.out ?_) ?_); rotate_left; (conv => whnf))
 | ((first | refine retF1 ?_ | refine retF2 ?_ | refine subF.leaf ?_ | refine subF.side ?_) <;> (conv => whnf) <;> repeat' (first
 | exact trivial
 | (with_reducible rfl)
 | ((with_reducible refine And.intro ?_ ?_) <;> conv => whnf)
 | omega
 | rfl
 | (refine congrArg (SV.arr _) ?_)
 | (refine congrArg (Value.int _) ?_)
 | (refine congrArg Value.bool ?_)))); all_goals (try unfold Side)
      all_goals try (repeat' (first | (with_reducible rfl) | (with_reducible refine And.intro ?_ ?_) | omega | rfl | exact Or.inl rfl | exact Or.inr rfl | exact of_decide_eq_true rfl | exact Path.imp_of (of_decide_eq_true rfl) | (focus ((try simp only [Int.reduceToNat, Int.reduceTDiv, Int.reduceTMod, minL, maxL, pickB, zHB, zSH, InK, Path.imp, zL] at *); omega)) | (refine app_le rfl ?_; omega)))
    · repeat' (first
 | refine W.seq ?_
 | refine W.block ?_
 | (refine W.regW (id := 999) ?_; refine RegW.cut tys_ok [] [1] 8 ⟨[(1, .padr 8000 0), (2, (.lit (.int .i64 (0 : Int))))], [(8000, .box [.lit (.bool true), .lit (.bool true), .own 8001, .mown 8002, (.lit (.int .i64 ((lr0).2.2 : Int)))]), (8001, .row 105 PT true (lr0).1), (8002, .mat 80 91 NT true (lr0).2.1 none)]⟩ rfl ?_ ?_; (conv => whnf); rotate_left; refine RegW.fin tys_ok [] [1] ?_; (conv => whnf))
 | (refine W.region tys_ok [] ?_; conv => whnf)
 | (refine W.drawAll tys_ok [] mixed rfl ?_; conv => whnf)
 | (refine W.ret ?_; conv => whnf)
 | (refine W.skip ?_; conv => whnf)
 | (refine W.exit ?_; conv => whnf)
 | (refine callM_at (d3) ?_; conv => whnf)
 | (refine Both.mk ?_ ?_ <;> (conv => whnf))
 | (refine W.cond rfl (fun hb => ?_) (fun hb => ?_) <;> (try simp only [Int.reduceToNat, Int.reduceTDiv, Int.reduceTMod, minL, maxL, pickB, zHB, zSH] at hb) <;> (try (first | (cases hb; done) | exact absurd hb (by decide) | (exfalso; omega) | (omega))))
 | (refine Or.inl (And.intro ?_ ?_); (focus (first | exact trivial | exact ⟨rfl, trivial⟩ | (refine ⟨?_, trivial⟩; dsimp only; simp only [Int.reduceToNat, Int.reduceTDiv, Int.reduceTMod, minL, maxL, pickB, zHB, zSH]; omega) | (refine ⟨?_, trivial⟩; dsimp only; (try simp only [Int.reduceToNat, Int.reduceTDiv, Int.reduceTMod, minL, maxL, pickB, zHB, zSH]); (simp_all; done)) | (refine ⟨?_, trivial⟩; dsimp only; (simp only [Int.reduceToNat, Int.reduceTDiv, Int.reduceTMod, minL, maxL, pickB, zHB, zSH]; done)) | (refine ⟨?_, trivial⟩; dsimp only; (simp; done)))); (conv => whnf))
 | (refine Or.inr (And.intro ?_ ?_); (focus (intro h; have h := h.1; dsimp only at h; first | (exact Bool.noConfusion h) | (simp only [Int.reduceToNat, Int.reduceTDiv, Int.reduceTMod, minL, maxL, pickB, zHB, zSH] at h; omega) | ((try simp only [Int.reduceToNat, Int.reduceTDiv, Int.reduceTMod, minL, maxL, pickB, zHB, zSH] at h); (simp_all; done)))); (conv => whnf))
 | ((with_reducible refine And.intro ?_ ?_); (focus (first | (with_reducible rfl) | omega | rfl | ((try simp only [Int.reduceToNat, Int.reduceTDiv, Int.reduceTMod, minL, maxL, pickB, zHB, zSH, InK, Path.imp, zL] at *); omega))); (conv => whnf))
 | ((with_reducible refine And.intro (Side.out ?_) ?_); rotate_left; (conv => whnf))
 | ((first | refine retF1 ?_ | refine retF2 ?_ | refine subF.leaf ?_ | refine subF.side ?_) <;> (conv => whnf) <;> repeat' (first
 | exact trivial
 | (with_reducible rfl)
 | ((with_reducible refine And.intro ?_ ?_) <;> conv => whnf)
 | omega
 | rfl
 | (refine congrArg (SV.arr _) ?_)
 | (refine congrArg (Value.int _) ?_)
 | (refine congrArg Value.bool ?_)))); all_goals (try unfold Side)
      all_goals try (repeat' (first | (with_reducible rfl) | (with_reducible refine And.intro ?_ ?_) | omega | rfl | exact Or.inl rfl | exact Or.inr rfl | exact of_decide_eq_true rfl | exact Path.imp_of (of_decide_eq_true rfl) | (focus ((try simp only [Int.reduceToNat, Int.reduceTDiv, Int.reduceTMod, minL, maxL, pickB, zHB, zSH, InK, Path.imp, zL] at *); omega)) | (refine app_le rfl ?_; omega)))
    · repeat' (first
 | refine W.seq ?_
 | refine W.block ?_
 | (refine W.regW (id := 999) ?_; refine RegW.cut tys_ok [] [1] 8 ⟨[(1, .padr 8000 0), (2, (.lit (.int .i64 (0 : Int))))], [(8000, .box [.lit (.bool true), .lit (.bool true), .own 8001, .mown 8002, (.lit (.int .i64 ((lr0).2.2 : Int)))]), (8001, .row 105 PT true (lr0).1), (8002, .mat 80 91 NT true (lr0).2.1 none)]⟩ rfl ?_ ?_; (conv => whnf); rotate_left; refine RegW.fin tys_ok [] [1] ?_; (conv => whnf))
 | (refine W.region tys_ok [] ?_; conv => whnf)
 | (refine W.drawAll tys_ok [] mixed rfl ?_; conv => whnf)
 | (refine W.ret ?_; conv => whnf)
 | (refine W.skip ?_; conv => whnf)
 | (refine W.exit ?_; conv => whnf)
 | (refine callM_at (d4) ?_; conv => whnf)
 | (refine Both.mk ?_ ?_ <;> (conv => whnf))
 | (refine W.cond rfl (fun hb => ?_) (fun hb => ?_) <;> (try simp only [Int.reduceToNat, Int.reduceTDiv, Int.reduceTMod, minL, maxL, pickB, zHB, zSH] at hb) <;> (try (first | (cases hb; done) | exact absurd hb (by decide) | (exfalso; omega) | (omega))))
 | (refine Or.inl (And.intro ?_ ?_); (focus (first | exact trivial | exact ⟨rfl, trivial⟩ | (refine ⟨?_, trivial⟩; dsimp only; simp only [Int.reduceToNat, Int.reduceTDiv, Int.reduceTMod, minL, maxL, pickB, zHB, zSH]; omega) | (refine ⟨?_, trivial⟩; dsimp only; (try simp only [Int.reduceToNat, Int.reduceTDiv, Int.reduceTMod, minL, maxL, pickB, zHB, zSH]); (simp_all; done)) | (refine ⟨?_, trivial⟩; dsimp only; (simp only [Int.reduceToNat, Int.reduceTDiv, Int.reduceTMod, minL, maxL, pickB, zHB, zSH]; done)) | (refine ⟨?_, trivial⟩; dsimp only; (simp; done)))); (conv => whnf))
 | (refine Or.inr (And.intro ?_ ?_); (focus (intro h; have h := h.1; dsimp only at h; first | (exact Bool.noConfusion h) | (simp only [Int.reduceToNat, Int.reduceTDiv, Int.reduceTMod, minL, maxL, pickB, zHB, zSH] at h; omega) | ((try simp only [Int.reduceToNat, Int.reduceTDiv, Int.reduceTMod, minL, maxL, pickB, zHB, zSH] at h); (simp_all; done)))); (conv => whnf))
 | ((with_reducible refine And.intro ?_ ?_); (focus (first | (with_reducible rfl) | omega | rfl | ((try simp only [Int.reduceToNat, Int.reduceTDiv, Int.reduceTMod, minL, maxL, pickB, zHB, zSH, InK, Path.imp, zL] at *); omega))); (conv => whnf))
 | ((with_reducible refine And.intro (Side.out ?_) ?_); rotate_left; (conv => whnf))
 | ((first | refine retF1 ?_ | refine retF2 ?_ | refine subF.leaf ?_ | refine subF.side ?_) <;> (conv => whnf) <;> repeat' (first
 | exact trivial
 | (with_reducible rfl)
 | ((with_reducible refine And.intro ?_ ?_) <;> conv => whnf)
 | omega
 | rfl
 | (refine congrArg (SV.arr _) ?_)
 | (refine congrArg (Value.int _) ?_)
 | (refine congrArg Value.bool ?_)))); all_goals (try unfold Side)
      all_goals try (repeat' (first | (with_reducible rfl) | (with_reducible refine And.intro ?_ ?_) | omega | rfl | exact Or.inl rfl | exact Or.inr rfl | exact of_decide_eq_true rfl | exact Path.imp_of (of_decide_eq_true rfl) | (focus ((try simp only [Int.reduceToNat, Int.reduceTDiv, Int.reduceTMod, minL, maxL, pickB, zHB, zSH, InK, Path.imp, zL] at *); omega)) | (refine app_le rfl ?_; omega)))
    · repeat' (first
 | refine W.seq ?_
 | refine W.block ?_
 | (refine W.regW (id := 999) ?_; refine RegW.cut tys_ok [] [1] 8 ⟨[(1, .padr 8000 0), (2, (.lit (.int .i64 (0 : Int))))], [(8000, .box [.lit (.bool true), .lit (.bool true), .own 8001, .mown 8002, (.lit (.int .i64 ((lr0).2.2 : Int)))]), (8001, .row 105 PT true (lr0).1), (8002, .mat 80 91 NT true (lr0).2.1 none)]⟩ rfl ?_ ?_; (conv => whnf); rotate_left; refine RegW.fin tys_ok [] [1] ?_; (conv => whnf))
 | (refine W.region tys_ok [] ?_; conv => whnf)
 | (refine W.drawAll tys_ok [] mixed rfl ?_; conv => whnf)
 | (refine W.ret ?_; conv => whnf)
 | (refine W.skip ?_; conv => whnf)
 | (refine W.exit ?_; conv => whnf)
 | (refine callM_at (d5) ?_; conv => whnf)
 | (refine Both.mk ?_ ?_ <;> (conv => whnf))
 | (refine W.cond rfl (fun hb => ?_) (fun hb => ?_) <;> (try simp only [Int.reduceToNat, Int.reduceTDiv, Int.reduceTMod, minL, maxL, pickB, zHB, zSH] at hb) <;> (try (first | (cases hb; done) | exact absurd hb (by decide) | (exfalso; omega) | (omega))))
 | (refine Or.inl (And.intro ?_ ?_); (focus (first | exact trivial | exact ⟨rfl, trivial⟩ | (refine ⟨?_, trivial⟩; dsimp only; simp only [Int.reduceToNat, Int.reduceTDiv, Int.reduceTMod, minL, maxL, pickB, zHB, zSH]; omega) | (refine ⟨?_, trivial⟩; dsimp only; (try simp only [Int.reduceToNat, Int.reduceTDiv, Int.reduceTMod, minL, maxL, pickB, zHB, zSH]); (simp_all; done)) | (refine ⟨?_, trivial⟩; dsimp only; (simp only [Int.reduceToNat, Int.reduceTDiv, Int.reduceTMod, minL, maxL, pickB, zHB, zSH]; done)) | (refine ⟨?_, trivial⟩; dsimp only; (simp; done)))); (conv => whnf))
 | (refine Or.inr (And.intro ?_ ?_); (focus (intro h; have h := h.1; dsimp only at h; first | (exact Bool.noConfusion h) | (simp only [Int.reduceToNat, Int.reduceTDiv, Int.reduceTMod, minL, maxL, pickB, zHB, zSH] at h; omega) | ((try simp only [Int.reduceToNat, Int.reduceTDiv, Int.reduceTMod, minL, maxL, pickB, zHB, zSH] at h); (simp_all; done)))); (conv => whnf))
 | ((with_reducible refine And.intro ?_ ?_); (focus (first | (with_reducible rfl) | omega | rfl | ((try simp only [Int.reduceToNat, Int.reduceTDiv, Int.reduceTMod, minL, maxL, pickB, zHB, zSH, InK, Path.imp, zL] at *); omega))); (conv => whnf))
 | ((with_reducible refine And.intro (Side.out ?_) ?_); rotate_left; (conv => whnf))
 | ((first | refine retF1 ?_ | refine retF2 ?_ | refine subF.leaf ?_ | refine subF.side ?_) <;> (conv => whnf) <;> repeat' (first
 | exact trivial
 | (with_reducible rfl)
 | ((with_reducible refine And.intro ?_ ?_) <;> conv => whnf)
 | omega
 | rfl
 | (refine congrArg (SV.arr _) ?_)
 | (refine congrArg (Value.int _) ?_)
 | (refine congrArg Value.bool ?_)))); all_goals (try unfold Side)
      all_goals try (repeat' (first | (with_reducible rfl) | (with_reducible refine And.intro ?_ ?_) | omega | rfl | exact Or.inl rfl | exact Or.inr rfl | exact of_decide_eq_true rfl | exact Path.imp_of (of_decide_eq_true rfl) | (focus ((try simp only [Int.reduceToNat, Int.reduceTDiv, Int.reduceTMod, minL, maxL, pickB, zHB, zSH, InK, Path.imp, zL] at *); omega)) | (refine app_le rfl ?_; omega)))
    · repeat' (first
 | refine W.seq ?_
 | refine W.block ?_
 | (refine W.regW (id := 999) ?_; refine RegW.cut tys_ok [] [1] 8 ⟨[(1, .padr 8000 0), (2, (.lit (.int .i64 (0 : Int))))], [(8000, .box [.lit (.bool true), .lit (.bool true), .own 8001, .mown 8002, (.lit (.int .i64 ((lr0).2.2 : Int)))]), (8001, .row 105 PT true (lr0).1), (8002, .mat 80 91 NT true (lr0).2.1 none)]⟩ rfl ?_ ?_; (conv => whnf); rotate_left; refine RegW.fin tys_ok [] [1] ?_; (conv => whnf))
 | (refine W.region tys_ok [] ?_; conv => whnf)
 | (refine W.drawAll tys_ok [] mixed rfl ?_; conv => whnf)
 | (refine W.ret ?_; conv => whnf)
 | (refine W.skip ?_; conv => whnf)
 | (refine W.exit ?_; conv => whnf)
 | (refine callM_at (d6) ?_; conv => whnf)
 | (refine Both.mk ?_ ?_ <;> (conv => whnf))
 | (refine W.cond rfl (fun hb => ?_) (fun hb => ?_) <;> (try simp only [Int.reduceToNat, Int.reduceTDiv, Int.reduceTMod, minL, maxL, pickB, zHB, zSH] at hb) <;> (try (first | (cases hb; done) | exact absurd hb (by decide) | (exfalso; omega) | (omega))))
 | (refine Or.inl (And.intro ?_ ?_); (focus (first | exact trivial | exact ⟨rfl, trivial⟩ | (refine ⟨?_, trivial⟩; dsimp only; simp only [Int.reduceToNat, Int.reduceTDiv, Int.reduceTMod, minL, maxL, pickB, zHB, zSH]; omega) | (refine ⟨?_, trivial⟩; dsimp only; (try simp only [Int.reduceToNat, Int.reduceTDiv, Int.reduceTMod, minL, maxL, pickB, zHB, zSH]); (simp_all; done)) | (refine ⟨?_, trivial⟩; dsimp only; (simp only [Int.reduceToNat, Int.reduceTDiv, Int.reduceTMod, minL, maxL, pickB, zHB, zSH]; done)) | (refine ⟨?_, trivial⟩; dsimp only; (simp; done)))); (conv => whnf))
 | (refine Or.inr (And.intro ?_ ?_); (focus (intro h; have h := h.1; dsimp only at h; first | (exact Bool.noConfusion h) | (simp only [Int.reduceToNat, Int.reduceTDiv, Int.reduceTMod, minL, maxL, pickB, zHB, zSH] at h; omega) | ((try simp only [Int.reduceToNat, Int.reduceTDiv, Int.reduceTMod, minL, maxL, pickB, zHB, zSH] at h); (simp_all; done)))); (conv => whnf))
 | ((with_reducible refine And.intro ?_ ?_); (focus (first | (with_reducible rfl) | omega | rfl | ((try simp only [Int.reduceToNat, Int.reduceTDiv, Int.reduceTMod, minL, maxL, pickB, zHB, zSH, InK, Path.imp, zL] at *); omega))); (conv => whnf))
 | ((with_reducible refine And.intro (Side.out ?_) ?_); rotate_left; (conv => whnf))
 | ((first | refine retF1 ?_ | refine retF2 ?_ | refine subF.leaf ?_ | refine subF.side ?_) <;> (conv => whnf) <;> repeat' (first
 | exact trivial
 | (with_reducible rfl)
 | ((with_reducible refine And.intro ?_ ?_) <;> conv => whnf)
 | omega
 | rfl
 | (refine congrArg (SV.arr _) ?_)
 | (refine congrArg (Value.int _) ?_)
 | (refine congrArg Value.bool ?_)))); all_goals (try unfold Side)
      all_goals try (repeat' (first | (with_reducible rfl) | (with_reducible refine And.intro ?_ ?_) | omega | rfl | exact Or.inl rfl | exact Or.inr rfl | exact of_decide_eq_true rfl | exact Path.imp_of (of_decide_eq_true rfl) | (focus ((try simp only [Int.reduceToNat, Int.reduceTDiv, Int.reduceTMod, minL, maxL, pickB, zHB, zSH, InK, Path.imp, zL] at *); omega)) | (refine app_le rfl ?_; omega)))
    · repeat' (first
 | refine W.seq ?_
 | refine W.block ?_
 | (refine W.regW (id := 999) ?_; refine RegW.cut tys_ok [] [1] 8 ⟨[(1, .padr 8000 0), (2, (.lit (.int .i64 (0 : Int))))], [(8000, .box [.lit (.bool true), .lit (.bool true), .own 8001, .mown 8002, (.lit (.int .i64 ((lr0).2.2 : Int)))]), (8001, .row 105 PT true (lr0).1), (8002, .mat 80 91 NT true (lr0).2.1 none)]⟩ rfl ?_ ?_; (conv => whnf); rotate_left; refine RegW.fin tys_ok [] [1] ?_; (conv => whnf))
 | (refine W.region tys_ok [] ?_; conv => whnf)
 | (refine W.drawAll tys_ok [] mixed rfl ?_; conv => whnf)
 | (refine W.ret ?_; conv => whnf)
 | (refine W.skip ?_; conv => whnf)
 | (refine W.exit ?_; conv => whnf)
 | (refine callM_at (d7) ?_; conv => whnf)
 | (refine Both.mk ?_ ?_ <;> (conv => whnf))
 | (refine W.cond rfl (fun hb => ?_) (fun hb => ?_) <;> (try simp only [Int.reduceToNat, Int.reduceTDiv, Int.reduceTMod, minL, maxL, pickB, zHB, zSH] at hb) <;> (try (first | (cases hb; done) | exact absurd hb (by decide) | (exfalso; omega) | (omega))))
 | (refine Or.inl (And.intro ?_ ?_); (focus (first | exact trivial | exact ⟨rfl, trivial⟩ | (refine ⟨?_, trivial⟩; dsimp only; simp only [Int.reduceToNat, Int.reduceTDiv, Int.reduceTMod, minL, maxL, pickB, zHB, zSH]; omega) | (refine ⟨?_, trivial⟩; dsimp only; (try simp only [Int.reduceToNat, Int.reduceTDiv, Int.reduceTMod, minL, maxL, pickB, zHB, zSH]); (simp_all; done)) | (refine ⟨?_, trivial⟩; dsimp only; (simp only [Int.reduceToNat, Int.reduceTDiv, Int.reduceTMod, minL, maxL, pickB, zHB, zSH]; done)) | (refine ⟨?_, trivial⟩; dsimp only; (simp; done)))); (conv => whnf))
 | (refine Or.inr (And.intro ?_ ?_); (focus (intro h; have h := h.1; dsimp only at h; first | (exact Bool.noConfusion h) | (simp only [Int.reduceToNat, Int.reduceTDiv, Int.reduceTMod, minL, maxL, pickB, zHB, zSH] at h; omega) | ((try simp only [Int.reduceToNat, Int.reduceTDiv, Int.reduceTMod, minL, maxL, pickB, zHB, zSH] at h); (simp_all; done)))); (conv => whnf))
 | ((with_reducible refine And.intro ?_ ?_); (focus (first | (with_reducible rfl) | omega | rfl | ((try simp only [Int.reduceToNat, Int.reduceTDiv, Int.reduceTMod, minL, maxL, pickB, zHB, zSH, InK, Path.imp, zL] at *); omega))); (conv => whnf))
 | ((with_reducible refine And.intro (Side.out ?_) ?_); rotate_left; (conv => whnf))
 | ((first | refine retF1 ?_ | refine retF2 ?_ | refine subF.leaf ?_ | refine subF.side ?_) <;> (conv => whnf) <;> repeat' (first
 | exact trivial
 | (with_reducible rfl)
 | ((with_reducible refine And.intro ?_ ?_) <;> conv => whnf)
 | omega
 | rfl
 | (refine congrArg (SV.arr _) ?_)
 | (refine congrArg (Value.int _) ?_)
 | (refine congrArg Value.bool ?_)))); all_goals (try unfold Side)
      all_goals try (repeat' (first | (with_reducible rfl) | (with_reducible refine And.intro ?_ ?_) | omega | rfl | exact Or.inl rfl | exact Or.inr rfl | exact of_decide_eq_true rfl | exact Path.imp_of (of_decide_eq_true rfl) | (focus ((try simp only [Int.reduceToNat, Int.reduceTDiv, Int.reduceTMod, minL, maxL, pickB, zHB, zSH, InK, Path.imp, zL] at *); omega)) | (refine app_le rfl ?_; omega)))
  · repeat' (first
 | refine W.seq ?_
 | refine W.block ?_
 | (refine W.regW (id := 999) ?_; refine RegW.cut tys_ok [] [1] 8 ⟨[(1, .padr 8000 0), (2, (.lit (.int .i64 (0 : Int))))], [(8000, .box [.lit (.bool true), .lit (.bool true), .own 8001, .mown 8002, (.lit (.int .i64 ((lr0).2.2 : Int)))]), (8001, .row 105 PT true (lr0).1), (8002, .mat 80 91 NT true (lr0).2.1 none)]⟩ rfl ?_ ?_; (conv => whnf); rotate_left; refine RegW.fin tys_ok [] [1] ?_; (conv => whnf))
 | (refine W.region tys_ok [] ?_; conv => whnf)
 | (refine W.drawAll tys_ok [] mixed rfl ?_; conv => whnf)
 | (refine W.ret ?_; conv => whnf)
 | (refine W.skip ?_; conv => whnf)
 | (refine W.exit ?_; conv => whnf)
 | (refine callM_at (c1) ?_; conv => whnf)
 | (refine Both.mk ?_ ?_ <;> (conv => whnf))
 | (refine W.cond rfl (fun hb => ?_) (fun hb => ?_) <;> (try simp only [Int.reduceToNat, Int.reduceTDiv, Int.reduceTMod, minL, maxL, pickB, zHB, zSH] at hb) <;> (try (first | (cases hb; done) | exact absurd hb (by decide) | (exfalso; omega) | (omega))))
 | (refine Or.inl (And.intro ?_ ?_); (focus (first | exact trivial | exact ⟨rfl, trivial⟩ | (refine ⟨?_, trivial⟩; dsimp only; simp only [Int.reduceToNat, Int.reduceTDiv, Int.reduceTMod, minL, maxL, pickB, zHB, zSH]; omega) | (refine ⟨?_, trivial⟩; dsimp only; (try simp only [Int.reduceToNat, Int.reduceTDiv, Int.reduceTMod, minL, maxL, pickB, zHB, zSH]); (simp_all; done)) | (refine ⟨?_, trivial⟩; dsimp only; (simp only [Int.reduceToNat, Int.reduceTDiv, Int.reduceTMod, minL, maxL, pickB, zHB, zSH]; done)) | (refine ⟨?_, trivial⟩; dsimp only; (simp; done)))); (conv => whnf))
 | (refine Or.inr (And.intro ?_ ?_); (focus (intro h; have h := h.1; dsimp only at h; first | (exact Bool.noConfusion h) | (simp only [Int.reduceToNat, Int.reduceTDiv, Int.reduceTMod, minL, maxL, pickB, zHB, zSH] at h; omega) | ((try simp only [Int.reduceToNat, Int.reduceTDiv, Int.reduceTMod, minL, maxL, pickB, zHB, zSH] at h); (simp_all; done)))); (conv => whnf))
 | ((with_reducible refine And.intro ?_ ?_); (focus (first | (with_reducible rfl) | omega | rfl | ((try simp only [Int.reduceToNat, Int.reduceTDiv, Int.reduceTMod, minL, maxL, pickB, zHB, zSH, InK, Path.imp, zL] at *); omega))); (conv => whnf))
 | ((with_reducible refine And.intro (Side.out ?_) ?_); rotate_left; (conv => whnf))
 | ((first | refine retF1 ?_ | refine retF2 ?_ | refine subF.leaf ?_ | refine subF.side ?_) <;> (conv => whnf) <;> repeat' (first
 | exact trivial
 | (with_reducible rfl)
 | ((with_reducible refine And.intro ?_ ?_) <;> conv => whnf)
 | omega
 | rfl
 | (refine congrArg (SV.arr _) ?_)
 | (refine congrArg (Value.int _) ?_)
 | (refine congrArg Value.bool ?_)))); all_goals (try unfold Side)
    all_goals try (repeat' (first | (with_reducible rfl) | (with_reducible refine And.intro ?_ ?_) | omega | rfl | exact Or.inl rfl | exact Or.inr rfl | exact of_decide_eq_true rfl | exact Path.imp_of (of_decide_eq_true rfl) | (focus ((try simp only [Int.reduceToNat, Int.reduceTDiv, Int.reduceTMod, minL, maxL, pickB, zHB, zSH, InK, Path.imp, zL] at *); omega)) | (refine app_le rfl ?_; omega)))
  · repeat' (first
 | refine W.seq ?_
 | refine W.block ?_
 | (refine W.regW (id := 999) ?_; refine RegW.cut tys_ok [] [1] 8 ⟨[(1, .padr 8000 0), (2, (.lit (.int .i64 (0 : Int))))], [(8000, .box [.lit (.bool true), .lit (.bool true), .own 8001, .mown 8002, (.lit (.int .i64 ((lr0).2.2 : Int)))]), (8001, .row 105 PT true (lr0).1), (8002, .mat 80 91 NT true (lr0).2.1 none)]⟩ rfl ?_ ?_; (conv => whnf); rotate_left; refine RegW.fin tys_ok [] [1] ?_; (conv => whnf))
 | (refine W.region tys_ok [] ?_; conv => whnf)
 | (refine W.drawAll tys_ok [] mixed rfl ?_; conv => whnf)
 | (refine W.ret ?_; conv => whnf)
 | (refine W.skip ?_; conv => whnf)
 | (refine W.exit ?_; conv => whnf)
 | (refine callM_at (c2) ?_; conv => whnf)
 | (refine Both.mk ?_ ?_ <;> (conv => whnf))
 | (refine W.cond rfl (fun hb => ?_) (fun hb => ?_) <;> (try simp only [Int.reduceToNat, Int.reduceTDiv, Int.reduceTMod, minL, maxL, pickB, zHB, zSH] at hb) <;> (try (first | (cases hb; done) | exact absurd hb (by decide) | (exfalso; omega) | (omega))))
 | (refine Or.inl (And.intro ?_ ?_); (focus (first | exact trivial | exact ⟨rfl, trivial⟩ | (refine ⟨?_, trivial⟩; dsimp only; simp only [Int.reduceToNat, Int.reduceTDiv, Int.reduceTMod, minL, maxL, pickB, zHB, zSH]; omega) | (refine ⟨?_, trivial⟩; dsimp only; (try simp only [Int.reduceToNat, Int.reduceTDiv, Int.reduceTMod, minL, maxL, pickB, zHB, zSH]); (simp_all; done)) | (refine ⟨?_, trivial⟩; dsimp only; (simp only [Int.reduceToNat, Int.reduceTDiv, Int.reduceTMod, minL, maxL, pickB, zHB, zSH]; done)) | (refine ⟨?_, trivial⟩; dsimp only; (simp; done)))); (conv => whnf))
 | (refine Or.inr (And.intro ?_ ?_); (focus (intro h; have h := h.1; dsimp only at h; first | (exact Bool.noConfusion h) | (simp only [Int.reduceToNat, Int.reduceTDiv, Int.reduceTMod, minL, maxL, pickB, zHB, zSH] at h; omega) | ((try simp only [Int.reduceToNat, Int.reduceTDiv, Int.reduceTMod, minL, maxL, pickB, zHB, zSH] at h); (simp_all; done)))); (conv => whnf))
 | ((with_reducible refine And.intro ?_ ?_); (focus (first | (with_reducible rfl) | omega | rfl | ((try simp only [Int.reduceToNat, Int.reduceTDiv, Int.reduceTMod, minL, maxL, pickB, zHB, zSH, InK, Path.imp, zL] at *); omega))); (conv => whnf))
 | ((with_reducible refine And.intro (Side.out ?_) ?_); rotate_left; (conv => whnf))
 | ((first | refine retF1 ?_ | refine retF2 ?_ | refine subF.leaf ?_ | refine subF.side ?_) <;> (conv => whnf) <;> repeat' (first
 | exact trivial
 | (with_reducible rfl)
 | ((with_reducible refine And.intro ?_ ?_) <;> conv => whnf)
 | omega
 | rfl
 | (refine congrArg (SV.arr _) ?_)
 | (refine congrArg (Value.int _) ?_)
 | (refine congrArg Value.bool ?_)))); all_goals (try unfold Side)
    all_goals try (repeat' (first | (with_reducible rfl) | (with_reducible refine And.intro ?_ ?_) | omega | rfl | exact Or.inl rfl | exact Or.inr rfl | exact of_decide_eq_true rfl | exact Path.imp_of (of_decide_eq_true rfl) | (focus ((try simp only [Int.reduceToNat, Int.reduceTDiv, Int.reduceTMod, minL, maxL, pickB, zHB, zSH, InK, Path.imp, zL] at *); omega)) | (refine app_le rfl ?_; omega)))
  · repeat' (first
 | refine W.seq ?_
 | refine W.block ?_
 | (refine W.regW (id := 999) ?_; refine RegW.cut tys_ok [] [1] 8 ⟨[(1, .padr 8000 0), (2, (.lit (.int .i64 (0 : Int))))], [(8000, .box [.lit (.bool true), .lit (.bool true), .own 8001, .mown 8002, (.lit (.int .i64 ((lr0).2.2 : Int)))]), (8001, .row 105 PT true (lr0).1), (8002, .mat 80 91 NT true (lr0).2.1 none)]⟩ rfl ?_ ?_; (conv => whnf); rotate_left; refine RegW.fin tys_ok [] [1] ?_; (conv => whnf))
 | (refine W.region tys_ok [] ?_; conv => whnf)
 | (refine W.drawAll tys_ok [] mixed rfl ?_; conv => whnf)
 | (refine W.ret ?_; conv => whnf)
 | (refine W.skip ?_; conv => whnf)
 | (refine W.exit ?_; conv => whnf)
 | (refine callM_at (c3) ?_; conv => whnf)
 | (refine Both.mk ?_ ?_ <;> (conv => whnf))
 | (refine W.cond rfl (fun hb => ?_) (fun hb => ?_) <;> (try simp only [Int.reduceToNat, Int.reduceTDiv, Int.reduceTMod, minL, maxL, pickB, zHB, zSH] at hb) <;> (try (first | (cases hb; done) | exact absurd hb (by decide) | (exfalso; omega) | (omega))))
 | (refine Or.inl (And.intro ?_ ?_); (focus (first | exact trivial | exact ⟨rfl, trivial⟩ | (refine ⟨?_, trivial⟩; dsimp only; simp only [Int.reduceToNat, Int.reduceTDiv, Int.reduceTMod, minL, maxL, pickB, zHB, zSH]; omega) | (refine ⟨?_, trivial⟩; dsimp only; (try simp only [Int.reduceToNat, Int.reduceTDiv, Int.reduceTMod, minL, maxL, pickB, zHB, zSH]); (simp_all; done)) | (refine ⟨?_, trivial⟩; dsimp only; (simp only [Int.reduceToNat, Int.reduceTDiv, Int.reduceTMod, minL, maxL, pickB, zHB, zSH]; done)) | (refine ⟨?_, trivial⟩; dsimp only; (simp; done)))); (conv => whnf))
 | (refine Or.inr (And.intro ?_ ?_); (focus (intro h; have h := h.1; dsimp only at h; first | (exact Bool.noConfusion h) | (simp only [Int.reduceToNat, Int.reduceTDiv, Int.reduceTMod, minL, maxL, pickB, zHB, zSH] at h; omega) | ((try simp only [Int.reduceToNat, Int.reduceTDiv, Int.reduceTMod, minL, maxL, pickB, zHB, zSH] at h); (simp_all; done)))); (conv => whnf))
 | ((with_reducible refine And.intro ?_ ?_); (focus (first | (with_reducible rfl) | omega | rfl | ((try simp only [Int.reduceToNat, Int.reduceTDiv, Int.reduceTMod, minL, maxL, pickB, zHB, zSH, InK, Path.imp, zL] at *); omega))); (conv => whnf))
 | ((with_reducible refine And.intro (Side.out ?_) ?_); rotate_left; (conv => whnf))
 | ((first | refine retF1 ?_ | refine retF2 ?_ | refine subF.leaf ?_ | refine subF.side ?_) <;> (conv => whnf) <;> repeat' (first
 | exact trivial
 | (with_reducible rfl)
 | ((with_reducible refine And.intro ?_ ?_) <;> conv => whnf)
 | omega
 | rfl
 | (refine congrArg (SV.arr _) ?_)
 | (refine congrArg (Value.int _) ?_)
 | (refine congrArg Value.bool ?_)))); all_goals (try unfold Side)
    all_goals try (repeat' (first | (with_reducible rfl) | (with_reducible refine And.intro ?_ ?_) | omega | rfl | exact Or.inl rfl | exact Or.inr rfl | exact of_decide_eq_true rfl | exact Path.imp_of (of_decide_eq_true rfl) | (focus ((try simp only [Int.reduceToNat, Int.reduceTDiv, Int.reduceTMod, minL, maxL, pickB, zHB, zSH, InK, Path.imp, zL] at *); omega)) | (refine app_le rfl ?_; omega)))
  · repeat' (first
 | refine W.seq ?_
 | refine W.block ?_
 | (refine W.regW (id := 999) ?_; refine RegW.cut tys_ok [] [1] 8 ⟨[(1, .padr 8000 0), (2, (.lit (.int .i64 (0 : Int))))], [(8000, .box [.lit (.bool true), .lit (.bool true), .own 8001, .mown 8002, (.lit (.int .i64 ((lr0).2.2 : Int)))]), (8001, .row 105 PT true (lr0).1), (8002, .mat 80 91 NT true (lr0).2.1 none)]⟩ rfl ?_ ?_; (conv => whnf); rotate_left; refine RegW.fin tys_ok [] [1] ?_; (conv => whnf))
 | (refine W.region tys_ok [] ?_; conv => whnf)
 | (refine W.drawAll tys_ok [] mixed rfl ?_; conv => whnf)
 | (refine W.ret ?_; conv => whnf)
 | (refine W.skip ?_; conv => whnf)
 | (refine W.exit ?_; conv => whnf)
 | (refine callM_at (c4) ?_; conv => whnf)
 | (refine Both.mk ?_ ?_ <;> (conv => whnf))
 | (refine W.cond rfl (fun hb => ?_) (fun hb => ?_) <;> (try simp only [Int.reduceToNat, Int.reduceTDiv, Int.reduceTMod, minL, maxL, pickB, zHB, zSH] at hb) <;> (try (first | (cases hb; done) | exact absurd hb (by decide) | (exfalso; omega) | (omega))))
 | (refine Or.inl (And.intro ?_ ?_); (focus (first | exact trivial | exact ⟨rfl, trivial⟩ | (refine ⟨?_, trivial⟩; dsimp only; simp only [Int.reduceToNat, Int.reduceTDiv, Int.reduceTMod, minL, maxL, pickB, zHB, zSH]; omega) | (refine ⟨?_, trivial⟩; dsimp only; (try simp only [Int.reduceToNat, Int.reduceTDiv, Int.reduceTMod, minL, maxL, pickB, zHB, zSH]); (simp_all; done)) | (refine ⟨?_, trivial⟩; dsimp only; (simp only [Int.reduceToNat, Int.reduceTDiv, Int.reduceTMod, minL, maxL, pickB, zHB, zSH]; done)) | (refine ⟨?_, trivial⟩; dsimp only; (simp; done)))); (conv => whnf))
 | (refine Or.inr (And.intro ?_ ?_); (focus (intro h; have h := h.1; dsimp only at h; first | (exact Bool.noConfusion h) | (simp only [Int.reduceToNat, Int.reduceTDiv, Int.reduceTMod, minL, maxL, pickB, zHB, zSH] at h; omega) | ((try simp only [Int.reduceToNat, Int.reduceTDiv, Int.reduceTMod, minL, maxL, pickB, zHB, zSH] at h); (simp_all; done)))); (conv => whnf))
 | ((with_reducible refine And.intro ?_ ?_); (focus (first | (with_reducible rfl) | omega | rfl | ((try simp only [Int.reduceToNat, Int.reduceTDiv, Int.reduceTMod, minL, maxL, pickB, zHB, zSH, InK, Path.imp, zL] at *); omega))); (conv => whnf))
 | ((with_reducible refine And.intro (Side.out ?_) ?_); rotate_left; (conv => whnf))
 | ((first | refine retF1 ?_ | refine retF2 ?_ | refine subF.leaf ?_ | refine subF.side ?_) <;> (conv => whnf) <;> repeat' (first
 | exact trivial
 | (with_reducible rfl)
 | ((with_reducible refine And.intro ?_ ?_) <;> conv => whnf)
 | omega
 | rfl
 | (refine congrArg (SV.arr _) ?_)
 | (refine congrArg (Value.int _) ?_)
 | (refine congrArg Value.bool ?_)))); all_goals (try unfold Side)
    all_goals try (repeat' (first | (with_reducible rfl) | (with_reducible refine And.intro ?_ ?_) | omega | rfl | exact Or.inl rfl | exact Or.inr rfl | exact of_decide_eq_true rfl | exact Path.imp_of (of_decide_eq_true rfl) | (focus ((try simp only [Int.reduceToNat, Int.reduceTDiv, Int.reduceTMod, minL, maxL, pickB, zHB, zSH, InK, Path.imp, zL] at *); omega)) | (refine app_le rfl ?_; omega)))
end Go.Proofs.Ytkjcnegkdlmapaa
namespace Go.Proofs.Ytkjcnegkdlmapaa
open Go Go.Vc Go.Rg
set_option linter.unusedVariables false
set_option linter.unusedSimpArgs false
theorem getM {l : List Int} {i : Nat} (h : i < l.length) : l.getD i 0 ∈ l := by
  rw [List.getD_eq_getElem?_getD, List.getElem?_eq_getElem h]; exact List.getElem_mem h
theorem smw_wf {y : List Int} (h : (Ty.sl (.int .u16)).wf y) : smw y := by
  have h1 : y.length ≤ maxLen := h.1
  have e1 : maxLen = 9223372036854775807 := rfl
  refine ⟨by omega, fun i => ?_⟩
  have h2 : ∀ z ∈ y, (Ty.int .u16).wf z := h.2
  by_cases hi : i < y.length
  · exact wf_u16 (h2 _ (getM hi))
  · have : y.getD i 0 = 0 := by simp [List.getD, List.getElem?_eq_none (Nat.le_of_not_lt hi)]
    rw [this]; decide
theorem smo_wf {y : List Int} (h : (Ty.sl (.int .u8)).wf y) : smo y := fun i => by
  have h2 : ∀ z ∈ y, (Ty.int .u8).wf z := h.2
  by_cases hi : i < y.length
  · exact wf_u8 (h2 _ (getM hi))
  · have : y.getD i 0 = 0 := by simp [List.getD, List.getElem?_eq_none (Nat.le_of_not_lt hi)]
    rw [this]; decide
theorem elect_end {l os : List Int} (pet : Bool) (h : Nb l) (ho : smo os) : ∃ (R : Nat) (c : Ct), 2 ^ R ≤ l.length ∧ fin pet l.length R c ∧ (c.1 + c.2.1 + c.2.2 ≤ 100 ∧ 0 ≤ c.1 ∧ 0 ≤ c.2.1 ∧ 0 ≤ c.2.2) ∧
    FnAt Try.prog false 15 [.arr (.int .i64) l, .lit (.bool pet), .arr (.int .u8) os] (.tup [.strct [(.lit (.int .i64 (0 : Int))), (.lit (.int .i64 (c.1 : Int))), (.lit (.int .i64 (c.2.1 : Int))), (.lit (.int .i64 (c.2.2 : Int)))], .lit (.bool true)]) [] := by
  obtain ⟨m0, R, hl⟩ := h.el
  have hfl : fstE l.length os < l.length := by
    unfold fstE
    split
    · exact Nat.mod_lt _ h.l0
    · exact h.l0
  obtain ⟨hE, _⟩ := h.begin (pet := pet) hl hfl
  obtain ⟨K, hK⟩ : ∃ K : Nat, K = 100 := ⟨_, rfl⟩
  refine ⟨R, _, hl.rr, sim_fin hl h.l0 (os := os) (f := K) (t := 0) hE (by rw [hK]; decide), ?_, elect_at h hl ho (by omega) rfl⟩
  exact sim_bd hl h.l0 hE
theorem RingPeterson_at {x os : List Int} (hx : smw x) (ho : smo os) : FnAt Try.prog false 5 [.arr (.int .u16) x, .arr (.int .u8) os] (.lit (.bool true)) [] := by
  obtain ⟨l, hl⟩ : ∃ l, l = nbl (nbs x x.length) := ⟨_, rfl⟩
  have hn : Nb l := by rw [hl]; exact nbl_ok (nbs_ok _)
  have h1 := hn.l1
  have c0 := numbers_at hx hl
  obtain ⟨R, c, hR, hf, b1, e1⟩ := elect_end true hn ho
  obtain ⟨f3, _, f⟩ := hf
  have f4 := f rfl
  have hll : @List.length (Ty.int .i64).T l = l.length := rfl
  have c3 := lives_at
  refine FnAt.of_body tys_ok Try.func5 (by rfl) rfl Try.ntmps5 (by rw [Try.results5]) (by simp) ?_
  
  repeat' (first
 | refine W.seq ?_
 | refine W.block ?_
 | (refine W.region tys_ok [10, 11] ?_; conv => whnf)
 | (refine W.drawAll tys_ok [10, 11] mixed rfl ?_; conv => whnf)
 | (refine W.ret ?_; conv => whnf)
 | (refine W.skip ?_; conv => whnf)
 | (refine W.exit ?_; conv => whnf)
 | (refine call_at (al := false) (c0) rfl rfl rfl rfl ?_; conv => whnf)
 | (refine call_at (al := false) (e1) rfl rfl rfl rfl ?_; conv => whnf)
 | (refine call_at (al := false) (c3) rfl rfl rfl rfl ?_; conv => whnf)
 | (refine W.cond rfl (fun hb => ?_) (fun hb => ?_) <;> (try simp only [Int.reduceToNat, Int.reduceTDiv, Int.reduceTMod, minL, maxL, pickB, zHB, zSH] at hb) <;> (try (first | (cases hb; done) | exact absurd hb (by decide) | (exfalso; omega) | (omega))))
 | ((with_reducible refine And.intro ?_ ?_); (focus (first | (with_reducible rfl) | omega | rfl | ((try simp only [Int.reduceToNat, Int.reduceTDiv, Int.reduceTMod, minL, maxL, pickB, zHB, zSH, InK, Path.imp, zL] at *); omega))); (conv => whnf))
 | ((with_reducible refine And.intro (Side.out ?_) ?_); rotate_left; (conv => whnf))
 | ((first | refine retF1 ?_ | refine retF2 ?_) <;> (conv => whnf) <;> repeat' (first
 | exact trivial
 | (with_reducible rfl)
 | ((with_reducible refine And.intro ?_ ?_) <;> conv => whnf)
 | omega
 | rfl
 | (refine congrArg (SV.arr _) ?_)
 | (refine congrArg (Value.int _) ?_)
 | (refine congrArg Value.bool ?_)))); all_goals (try unfold Side)
  all_goals try (repeat' (first | (with_reducible rfl) | (with_reducible refine And.intro ?_ ?_) | omega | rfl | exact Or.inl rfl | exact Or.inr rfl | exact of_decide_eq_true rfl | exact Path.imp_of (of_decide_eq_true rfl) | (focus ((try simp only [Int.reduceToNat, Int.reduceTDiv, Int.reduceTMod, minL, maxL, pickB, zHB, zSH, InK, Path.imp, zL] at *); omega)) | (refine app_le rfl ?_; omega)))
  refine W.loop (fun k : Nat => ⟨[(6, .padr 7000 0), (7, .lit (.bool true)), (8, (.lit (.int .i64 (l.length : Int)))), (9, (.lit (.int .i64 (k : Int))))], [(7000, .box [(.lit (.int .i64 (0 : Int))), (.lit (.int .i64 (c.1 : Int))), (.lit (.int .i64 (c.2.1 : Int))), (.lit (.int .i64 (c.2.2 : Int)))])]⟩) (fun k => 2 ^ k ≤ l.length ∧ k ≤ 3) (fun k => 4 - k) (0) ?_ ?_
  · refine ⟨⟨hn.l0, by decide⟩, ?_⟩
    refine subF.ok ?_ <;> (conv => whnf) <;> repeat' (first
 | exact trivial
 | (with_reducible rfl)
 | ((with_reducible refine And.intro ?_ ?_) <;> conv => whnf)
 | omega
 | rfl
 | (refine congrArg (SV.arr _) ?_)
 | (refine congrArg (Value.int _) ?_)
 | (refine congrArg Value.bool ?_))
  · rintro k ⟨hk, hk3⟩
    have k4 : k = 0 ∨ k = 1 ∨ k = 2 ∨ k = 3 := by omega
    have hs : 0 ≤ (k : Int) ∧ (k : Int).toNat ≤ IntKind.i64.bits ∧ InK .i64 (2 * 2 ^ (k : Int).toNat) := by
      rcases k4 with e | e | e | e <;> subst e <;> exact ⟨by decide, by decide, by decide, by decide⟩
    have hup : (2 : Int) * 2 ^ (k : Int).toNat ≤ l.length → 2 ^ (k + 1) ≤ l.length ∧ k + 1 ≤ 3 := fun h => by
      rcases k4 with e | e | e | e
      · subst e
        have e2 : (2 : Int) * 2 ^ ((0 : Nat) : Int).toNat = 2 := by decide
        rw [e2] at h
        exact ⟨by show 2 ≤ _; omega, by decide⟩
      · subst e
        have e2 : (2 : Int) * 2 ^ ((1 : Nat) : Int).toNat = 4 := by decide
        rw [e2] at h
        exact ⟨by show 4 ≤ _; omega, by decide⟩
      · subst e
        have e2 : (2 : Int) * 2 ^ ((2 : Nat) : Int).toNat = 8 := by decide
        rw [e2] at h
        exact ⟨by show 8 ≤ _; omega, by decide⟩
      · subst e
        have e2 : (2 : Int) * 2 ^ ((3 : Nat) : Int).toNat = 16 := by decide
        rw [e2] at h
        omega
    have hdn : ¬ (2 : Int) * 2 ^ (k : Int).toNat ≤ l.length → c.1 + c.2.1 ≤ 2 * (l.length : Int) * ((k : Int) + 1) := fun h => by
      have hRk : R ≤ k := Classical.byContradiction fun hc => by
        have h1 : 2 ^ (k + 1) ≤ 2 ^ R := Nat.pow_le_pow_right (by decide) (by omega)
        refine h ?_
        have h2 : 2 ^ (k + 1) ≤ l.length := Nat.le_trans h1 hR
        rw [Nat.pow_succ] at h2
        rw [Int.toNat_natCast]
        have h3 : ((2 ^ k * 2 : Nat) : Int) ≤ (l.length : Int) := by exact_mod_cast h2
        rw [Int.natCast_mul, Int.natCast_pow] at h3
        rw [Int.mul_comm]
        exact h3
      rw [f4, Int.mul_comm 2 (l.length : Int), Int.mul_assoc]
      exact Int.mul_le_mul_of_nonneg_left (by omega) (by omega)
    have hin : InK .i64 (2 * (l.length : Int) * ((k : Int) + 1)) := by
      have h1 : 2 * (l.length : Int) * ((k : Int) + 1) ≤ 20 * 4 := Int.mul_le_mul (by omega) (by omega) (by omega) (by omega)
      have h2 : 0 ≤ 2 * (l.length : Int) * ((k : Int) + 1) := Int.mul_nonneg (by omega) (by omega)
      exact ⟨by omega, by omega⟩
    repeat' (first
 | refine W.seq ?_
 | refine W.block ?_
 | (refine W.region tys_ok [] ?_; conv => whnf)
 | (refine W.drawAll tys_ok [] mixed rfl ?_; conv => whnf)
 | (refine W.ret ?_; conv => whnf)
 | (refine W.skip ?_; conv => whnf)
 | (refine W.exit ?_; conv => whnf)
 | (refine call_at (al := false) (c3) rfl rfl rfl rfl ?_; conv => whnf)
 | (refine W.cond rfl (fun hb => ?_) (fun hb => ?_) <;> (try simp only [Int.reduceToNat, Int.reduceTDiv, Int.reduceTMod, minL, maxL, pickB, zHB, zSH] at hb) <;> (try (first | (cases hb; done) | exact absurd hb (by decide) | (exfalso; omega) | (omega))))
 | ((with_reducible refine And.intro ?_ ?_); (focus (first | (with_reducible rfl) | omega | rfl | ((try simp only [Int.reduceToNat, Int.reduceTDiv, Int.reduceTMod, minL, maxL, pickB, zHB, zSH, InK, Path.imp, zL] at *); omega))); (conv => whnf))
 | ((with_reducible refine And.intro (Side.out ?_) ?_); rotate_left; (conv => whnf))
 | ((first | refine retF1 ?_ | refine retF2 ?_) <;> (conv => whnf) <;> repeat' (first
 | exact trivial
 | (with_reducible rfl)
 | ((with_reducible refine And.intro ?_ ?_) <;> conv => whnf)
 | omega
 | rfl
 | (refine congrArg (SV.arr _) ?_)
 | (refine congrArg (Value.int _) ?_)
 | (refine congrArg Value.bool ?_)))); all_goals (try unfold Side)
    all_goals try (repeat' (first | (with_reducible rfl) | (with_reducible refine And.intro ?_ ?_) | omega | rfl | exact Or.inl rfl | exact Or.inr rfl | exact of_decide_eq_true rfl | exact Path.imp_of (of_decide_eq_true rfl) | (focus ((try simp only [Int.reduceToNat, Int.reduceTDiv, Int.reduceTMod, minL, maxL, pickB, zHB, zSH, InK, Path.imp, zL] at *); omega)) | (refine app_le rfl ?_; omega)))
    all_goals first | exact Path.imp_of hs | exact Path.imp_of hin | (simp only [pickB]; rw [decide_eq_true (hdn hb), decide_eq_true f3]; rfl) | skip
    all_goals
      refine ⟨k + 1, ⟨hup hb, by omega⟩, ?_⟩
      refine subF.ok ?_ <;> (conv => whnf) <;> repeat' (first
 | exact trivial
 | (with_reducible rfl)
 | ((with_reducible refine And.intro ?_ ?_) <;> conv => whnf)
 | omega
 | rfl
 | (refine congrArg (SV.arr _) ?_)
 | (refine congrArg (Value.int _) ?_)
 | (refine congrArg Value.bool ?_))
end Go.Proofs.Ytkjcnegkdlmapaa

