/- Joined of: K12 K16 R20 Vc42 Re1 Re2 Re3. No condition. -/
import Derived.Test.YtkjcnegkdlmapaaJ10
import Derived.Test.YtkjcnegkdlmapaaJ6
import Derived.Test.YtkjcnegkdlmapaaJ11
import Derived.Test.YtkjcnegkdlmapaaJ5
set_option linter.unusedVariables false
set_option linter.unusedSimpArgs false
namespace Go.Proofs.Ytkjcnegkdlmapaa
open Int renaming reduceToNat → zr, reduceTDiv → zd, reduceTMod → zm
open Go Go.Vc Go.Rg
variable {hs : List Hd} {fl : List Lt}
theorem cmp_same (x : Lt) : (!(decide (x.1 = x.1) && (decide (x.2.1 = x.2.1) && (x.2.2.1 == x.2.2.1 && true)))) = false := by simp
theorem pick_same (a : Bool) (b c : Int) (x y : Operand) : (pickB (pickB (a != a) (Operand.const (Value.bool true)) x true !decide (b = b)) (Operand.const (Value.bool true)) y true !decide (c = c)) = false := by simp [pickB]
set_option maxHeartbeats 16000000 in
theorem works_at (h0 : 0 < hs.length) (hn : hs.length ≤ 1000) (hfl : fl.length ≤ 1000) : FnM Try.prog 18 [.padr 1000000000 0, .padr 1000000003 0] [(1000000000, .box [.own 1000000001, .own 1000000002]), (1000000001, .row 96 HT true (hs)), (1000000002, .row 50 LT true (fl)), (1000000003, .box [.own 1000000004, .own 1000000005]), (1000000004, .row 93 HT true (hs)), (1000000005, .row 50 LT true (fl))] (.lit (.bool true)) [(1000000000, .box [.own 1000000001, .own 1000000002]), (1000000001, .row 96 HT true (hs)), (1000000002, .row 50 LT true (fl)), (1000000003, .box [.own 1000000004, .own 1000000005]), (1000000004, .row 93 HT true (hs)), (1000000005, .row 50 LT true (fl))] := by
 have hl : @List.length HT.T hs = hs.length := rfl
 have hlf : @List.length LT.T fl = fl.length := rfl
 have c1 := flight_at (fl := fl) h0 hfl
 have c2 := ended_at (hs := hs) (fl := fl) (b := endB (hs, fl)) h0 rfl
 have c3 := rended_at (hs := hs) (fl := fl) (b := endB (hs, fl)) h0 rfl
 have d1 := working_out (hs := hs) (fl := fl) (i := -1) h0 (has_no (by omega))
 have d2 := parent_out (hs := hs) (fl := fl) (i := -1) h0 (has_no (by omega))
 have d3 := owed_out (hs := hs) (fl := fl) (i := -1) h0 (has_no (by omega))
 have d4 := working_out (hs := hs) (fl := fl) (i := (hs.length : Int)) h0 (has_no (by omega))
 have d5 := parent_out (hs := hs) (fl := fl) (i := (hs.length : Int)) h0 (has_no (by omega))
 have d6 := owed_out (hs := hs) (fl := fl) (i := (hs.length : Int)) h0 (has_no (by omega))
 refine FnM.of_body tys_ok Try.func18 (by rfl) rfl Try.ntmps18 (by rw [Try.results18]) (by simp) ?_
 repeat' (first
 | refine W.seq ?_
 | refine W.block ?_
 | (refine W.regionM (id := 1) tys_ok [] [1] ?_; conv => whnf)
 | (refine W.regionM (id := 2) tys_ok [] [10,12] ?_; conv => whnf)
 | (refine W.region tys_ok [] ?_; conv => whnf)
 | (refine W.drawAll tys_ok [] mixed rfl ?_; conv => whnf)
 | (refine W.ret ?_; conv => whnf)
 | (refine W.skip ?_; conv => whnf)
 | (refine W.exit ?_; conv => whnf)
 | (refine callM_at (c1) ?_; conv => whnf)
 | (refine callM_at (c2) ?_; conv => whnf)
 | (refine callM_at (c3) ?_; conv => whnf)
 | (refine W.cond rfl (fun hb => ?_) (fun hb => ?_) <;> (try simp only [zr, zd, zm, minL, maxL, pickB, zA] at hb) <;> (try (first | (cases hb; done) | exact absurd hb (by decide) | (exfalso; omega) | (omega) | ((simp at hb; done)))))
 | (refine Or.inl (And.intro ?_ ?_); exact zi; conv => whnf)
 | (refine Or.inr (And.intro ?_ ?_); exact zj; conv => whnf)
 | ((with_reducible refine And.intro ?_ ?_); exact zc; conv => whnf)
 | ((with_reducible refine And.intro (Side.out ?_) ?_); rotate_left; (conv => whnf))
 | ((first | refine retM1 ?_ | refine retM2 ?_) <;> (conv => whnf) <;> repeat' (first
 | exact trivial
 | (with_reducible rfl)
 | ((with_reducible refine And.intro ?_ ?_) <;> conv => whnf)
 | omega
 | rfl
 | (refine congrArg (SV.arr _) ?_)
 | (refine congrArg (Value.int _) ?_)
 | (refine congrArg Value.bool ?_)))); all_goals (try unfold Side)
 all_goals try (repeat' (first | exact zb | with_reducible refine And.intro ?_ ?_))
 refine W.loop (fun i : Nat => ⟨[(0, .padr 1000000000 0), (1, .padr 1000000003 0), (5, .own 7000), (6, .lit (.int .i64 (i)))], [(7000, .row 50 LT true fl), (1000000000, .box [.own 1000000001, .own 1000000002]), (1000000001, .row 96 HT true (hs)), (1000000002, .row 50 LT true (fl)), (1000000003, .box [.own 1000000004, .own 1000000005]), (1000000004, .row 93 HT true (hs)), (1000000005, .row 50 LT true (fl))]⟩) (fun i => i ≤ fl.length) (fun i => fl.length - i) (0) ?_ ?_
 · refine ⟨Nat.zero_le _, ?_⟩
   refine subF.ok ?_ <;> (conv => whnf) <;> repeat' (first
 | exact trivial
 | (with_reducible rfl)
 | ((with_reducible refine And.intro ?_ ?_) <;> conv => whnf)
 | omega
 | rfl
 | (refine congrArg (SV.arr _) ?_)
 | (refine congrArg (Value.int _) ?_)
 | (refine congrArg Value.bool ?_))
 · intro i hi
   by_cases hil : i < fl.length
   · repeat' (first
 | refine W.seq ?_
 | refine W.block ?_
 | (refine W.drawPhTo (id := 7) tys_ok [] mixed [0, 0, 3, 4, 0, 16, 32, 64, 0, 384, 512, 1032] [([0, 1, 2, 4, 5, 6, 8], 4, 2047), ([11], 0, 4095)] ⟨[(0, .padr 1000000000 0), (1, .padr 1000000003 0), (5, .own 7000), (6, .lit (.int .i64 (i))), (44, .lit (.bool false))], [(7000, .row 50 LT true fl), (1000000000, .box [.own 1000000001, .own 1000000002]), (1000000001, .row 96 HT true (hs)), (1000000002, .row 50 LT true (fl)), (1000000003, .box [.own 1000000004, .own 1000000005]), (1000000004, .row 93 HT true (hs)), (1000000005, .row 50 LT true (fl))]⟩ (by decide +kernel) ?_ ?_ <;> (conv => whnf))
 | (refine W.region tys_ok [] ?_; conv => whnf)
 | (refine W.drawAll tys_ok [] mixed rfl ?_; conv => whnf)
 | (refine W.ret ?_; conv => whnf)
 | (refine W.skip ?_; conv => whnf)
 | (refine W.exit ?_; conv => whnf)
 | (refine Both.mk ?_ ?_ <;> (conv => whnf))
 | (refine W.cond rfl (fun hb => ?_) (fun hb => ?_) <;> (try simp only [zr, zd, zm, minL, maxL, pickB, zA] at hb) <;> (try (first | (cases hb; done) | exact absurd hb (by decide) | (exfalso; omega) | (omega) | ((simp at hb; done)))))
 | ((with_reducible refine And.intro ?_ ?_); exact zc; conv => whnf)
 | ((with_reducible refine And.intro (Side.out ?_) ?_); rotate_left; (conv => whnf))
 | ((first | refine retM1 ?_ | refine retM2 ?_ | refine subF.leaf ?_ | refine subF.side ?_) <;> (conv => whnf) <;> repeat' (first
 | exact trivial
 | (with_reducible rfl)
 | ((with_reducible refine And.intro ?_ ?_) <;> conv => whnf)
 | omega
 | rfl
 | (refine congrArg (SV.arr _) ?_)
 | (refine congrArg (Value.int _) ?_)
 | (refine congrArg Value.bool ?_)))); all_goals (try unfold Side)
     all_goals try (repeat' (first | exact zb | with_reducible refine And.intro ?_ ?_))
     all_goals first | exact cmp_same _ | skip
     refine ⟨i + 1, ⟨by omega, by omega⟩, ?_⟩
     refine subF.ok ?_ <;> (conv => whnf) <;> repeat' (first
 | exact trivial
 | (with_reducible rfl)
 | ((with_reducible refine And.intro ?_ ?_) <;> conv => whnf)
 | omega
 | rfl
 | (refine congrArg (SV.arr _) ?_)
 | (refine congrArg (Value.int _) ?_)
 | (refine congrArg Value.bool ?_))
   · repeat' (first
 | refine W.seq ?_
 | refine W.block ?_
 | (refine W.region tys_ok [] ?_; conv => whnf)
 | (refine W.drawAll tys_ok [] mixed rfl ?_; conv => whnf)
 | (refine W.ret ?_; conv => whnf)
 | (refine W.skip ?_; conv => whnf)
 | (refine W.exit ?_; conv => whnf)
 | (refine W.cond rfl (fun hb => ?_) (fun hb => ?_) <;> (try simp only [zr, zd, zm, minL, maxL, pickB, zA] at hb) <;> (try (first | (cases hb; done) | exact absurd hb (by decide) | (exfalso; omega) | (omega))))
 | ((with_reducible refine And.intro ?_ ?_); exact zc; conv => whnf)
 | ((with_reducible refine And.intro (Side.out ?_) ?_); rotate_left; (conv => whnf))
 | ((first | refine retM1 ?_ | refine retM2 ?_) <;> (conv => whnf) <;> repeat' (first
 | exact trivial
 | (with_reducible rfl)
 | ((with_reducible refine And.intro ?_ ?_) <;> conv => whnf)
 | omega
 | rfl
 | (refine congrArg (SV.arr _) ?_)
 | (refine congrArg (Value.int _) ?_)
 | (refine congrArg Value.bool ?_)))); all_goals (try unfold Side)
     all_goals try (repeat' (first | exact zb | with_reducible refine And.intro ?_ ?_))
     refine W.loop (fun i : Nat => ⟨[(0, .padr 1000000000 0), (1, .padr 1000000003 0), (7, .lit (.int .i64 (i)))], [(1000000000, .box [.own 1000000001, .own 1000000002]), (1000000001, .row 96 HT true (hs)), (1000000002, .row 50 LT true (fl)), (1000000003, .box [.own 1000000004, .own 1000000005]), (1000000004, .row 93 HT true (hs)), (1000000005, .row 50 LT true (fl))]⟩) (fun i => i ≤ hs.length) (fun i => hs.length - i) (0) ?_ ?_
     · refine ⟨Nat.zero_le _, ?_⟩
       refine subF.ok ?_ <;> (conv => whnf) <;> repeat' (first
 | exact trivial
 | (with_reducible rfl)
 | ((with_reducible refine And.intro ?_ ?_) <;> conv => whnf)
 | omega
 | rfl
 | (refine congrArg (SV.arr _) ?_)
 | (refine congrArg (Value.int _) ?_)
 | (refine congrArg Value.bool ?_))
     · intro i hi2
       by_cases hi3 : i < hs.length
       · have g1 := working_in (hs := hs) (fl := fl) (i := i) hi3
         have g2 := parent_in (hs := hs) (fl := fl) (i := i) hi3
         have g3 := owed_in (hs := hs) (fl := fl) (i := i) hi3
         repeat' (first
 | refine W.seq ?_
 | refine W.block ?_
 | (refine W.resub (x := Code.region 13 _ _) (Γ' := ⟨[(0, .padr 1000000000 0), (1, .padr 1000000003 0), (7, .lit (.int .i64 (i))), (8, .padr 9000 0)], [(1000000000, .box [.own 1000000001, .own 1000000002]), (1000000001, .row 96 HT true (hs)), (1000000002, .row 50 LT true (fl)), (1000000003, .box [.own 1000000004, .own 1000000005]), (1000000004, .row 93 HT true (hs)), (1000000005, .row 50 LT true (fl)), (9000, .box [.lit (.bool (gw hs i)), .lit (.bool (ge hs i)), (.lit (.int .i64 (gp hs i : Int))), (.lit (.int .i64 (go hs i : Int)))])]⟩) ?_ ?_; rotate_left; refine W.drawMTo (id := 13) tys_ok [] [2, 9, 17] mixed [0, 0, 3, 0, 8, 20, 36, 64, 64, 448, 64, 1088, 2624, 4160, 8704, 16384, 16384, 114688, 16384, 278528, 671744, 1064960] [([0, 1, 3], 2, 31), ([5, 6, 7, 8, 10], 2, 4095), ([12, 13, 14, 15, 16, 18], 2, 1048575), ([20, 21], 0, 4194303)] ⟨[(0, .padr 1000000000 0), (1, .padr 1000000003 0), (7, .lit (.int .i64 (i))), (82, .lit (.bool false))], [(1000000000, .box [.own 1000000001, .own 1000000002]), (1000000001, .row 96 HT true (hs)), (1000000002, .row 50 LT true (fl)), (1000000003, .box [.own 1000000004, .own 1000000005]), (1000000004, .row 93 HT true (hs)), (1000000005, .row 50 LT true (fl))]⟩ (by decide +kernel) ?_ ?_; (conv => whnf); rotate_left; (conv => whnf))
 | (refine W.region tys_ok [] ?_; conv => whnf)
 | (refine W.drawAll tys_ok [] mixed rfl ?_; conv => whnf)
 | (refine W.ret ?_; conv => whnf)
 | (refine W.skip ?_; conv => whnf)
 | (refine W.exit ?_; conv => whnf)
 | (refine callM_at (g1) ?_; conv => whnf)
 | (refine callM_at (g2) ?_; conv => whnf)
 | (refine callM_at (g3) ?_; conv => whnf)
 | (refine Both.mk ?_ ?_ <;> (conv => whnf))
 | (refine W.cond rfl (fun hb => ?_) (fun hb => ?_) <;> (try simp only [zr, zd, zm, minL, maxL, pickB, zA] at hb) <;> (try (first | (cases hb; done) | exact absurd hb (by decide) | (exfalso; omega) | (omega) | ((simp at hb; done)))))
 | (refine Or.inl (And.intro ?_ ?_); exact zi; conv => whnf)
 | (refine Or.inr (And.intro ?_ ?_); exact zj; conv => whnf)
 | ((with_reducible refine And.intro ?_ ?_); exact zc; conv => whnf)
 | ((with_reducible refine And.intro (Side.out ?_) ?_); rotate_left; (conv => whnf))
 | ((first | refine retM1 ?_ | refine retM2 ?_ | refine subF.leaf ?_ | refine subF.side ?_) <;> (conv => whnf) <;> repeat' (first
 | exact trivial
 | (with_reducible rfl)
 | ((with_reducible refine And.intro ?_ ?_) <;> conv => whnf)
 | omega
 | rfl
 | (refine congrArg (SV.arr _) ?_)
 | (refine congrArg (Value.int _) ?_)
 | (refine congrArg Value.bool ?_)))); all_goals (try unfold Side)
         all_goals try (repeat' (first | exact zb | with_reducible refine And.intro ?_ ?_))
         all_goals first | exact pick_same _ _ _ _ _ | skip
         refine ⟨i + 1, ⟨by omega, by omega⟩, ?_⟩
         refine subF.ok ?_ <;> (conv => whnf) <;> repeat' (first
 | exact trivial
 | (with_reducible rfl)
 | ((with_reducible refine And.intro ?_ ?_) <;> conv => whnf)
 | omega
 | rfl
 | (refine congrArg (SV.arr _) ?_)
 | (refine congrArg (Value.int _) ?_)
 | (refine congrArg Value.bool ?_))
       · repeat' (first
 | refine W.seq ?_
 | refine W.block ?_
 | (refine W.regW (id := 16) ?_; refine RegW.cut tys_ok [] [1,5,10,16,22,28] 8 ⟨[(0, .padr 1000000000 0), (1, .padr 1000000003 0), (9, (.lit (.int .i64 (hs.length : Int)))), (95, .lit (.bool true))], [(1000000000, .box [.own 1000000001, .own 1000000002]), (1000000001, .row 96 HT true (hs)), (1000000002, .row 50 LT true (fl)), (1000000003, .box [.own 1000000004, .own 1000000005]), (1000000004, .row 93 HT true (hs)), (1000000005, .row 50 LT true (fl))]⟩ rfl ?_ ?_; (conv => whnf); rotate_left; refine RegW.cut tys_ok [] [1,5,10,16,22,28] 13 ⟨[(0, .padr 1000000000 0), (1, .padr 1000000003 0), (9, (.lit (.int .i64 (hs.length : Int)))), (100, .lit (.bool true))], [(1000000000, .box [.own 1000000001, .own 1000000002]), (1000000001, .row 96 HT true (hs)), (1000000002, .row 50 LT true (fl)), (1000000003, .box [.own 1000000004, .own 1000000005]), (1000000004, .row 93 HT true (hs)), (1000000005, .row 50 LT true (fl))]⟩ rfl ?_ ?_; (conv => whnf); rotate_left; refine RegW.cut tys_ok [] [1,5,10,16,22,28] 19 ⟨[(0, .padr 1000000000 0), (1, .padr 1000000003 0), (9, (.lit (.int .i64 (hs.length : Int)))), (106, .lit (.bool true))], [(1000000000, .box [.own 1000000001, .own 1000000002]), (1000000001, .row 96 HT true (hs)), (1000000002, .row 50 LT true (fl)), (1000000003, .box [.own 1000000004, .own 1000000005]), (1000000004, .row 93 HT true (hs)), (1000000005, .row 50 LT true (fl))]⟩ rfl ?_ ?_; (conv => whnf); rotate_left; refine RegW.cut tys_ok [] [1,5,10,16,22,28] 25 ⟨[(0, .padr 1000000000 0), (1, .padr 1000000003 0), (9, (.lit (.int .i64 (hs.length : Int)))), (112, .lit (.bool true))], [(1000000000, .box [.own 1000000001, .own 1000000002]), (1000000001, .row 96 HT true (hs)), (1000000002, .row 50 LT true (fl)), (1000000003, .box [.own 1000000004, .own 1000000005]), (1000000004, .row 93 HT true (hs)), (1000000005, .row 50 LT true (fl))]⟩ rfl ?_ ?_; (conv => whnf); rotate_left; refine RegW.fin tys_ok [] [1,5,10,16,22,28] ?_; (conv => whnf))
 | (refine W.region tys_ok [] ?_; conv => whnf)
 | (refine W.drawAll tys_ok [] mixed rfl ?_; conv => whnf)
 | (refine W.ret ?_; conv => whnf)
 | (refine W.skip ?_; conv => whnf)
 | (refine W.exit ?_; conv => whnf)
 | (refine Both.mk ?_ ?_ <;> (conv => whnf))
 | (refine W.cond rfl (fun hb => ?_) (fun hb => ?_) <;> (try simp only [zr, zd, zm, minL, maxL, pickB, zA] at hb) <;> (try (first | (cases hb; done) | exact absurd hb (by decide) | (exfalso; omega) | (omega))))
 | (refine Or.inl (And.intro ?_ ?_); exact zi; conv => whnf)
 | (refine Or.inr (And.intro ?_ ?_); exact zj; conv => whnf)
 | ((with_reducible refine And.intro ?_ ?_); exact zc; conv => whnf)
 | ((with_reducible refine And.intro (Side.out ?_) ?_); rotate_left; (conv => whnf))
 | ((first | refine retM1 ?_ | refine retM2 ?_ | refine subF.leaf ?_ | refine subF.side ?_) <;> (conv => whnf) <;> repeat' (first
 | exact trivial
 | (with_reducible rfl)
 | ((with_reducible refine And.intro ?_ ?_) <;> conv => whnf)
 | omega
 | rfl
 | (refine congrArg (SV.arr _) ?_)
 | (refine congrArg (Value.int _) ?_)
 | (refine congrArg Value.bool ?_)))); all_goals (try unfold Side)
         · repeat' (first
 | refine W.seq ?_
 | refine W.block ?_
 | (refine W.regW (id := 999) ?_; refine RegW.cut tys_ok [] [1] 8 ⟨[(0, .padr 1000000000 0), (1, .padr 1000000003 0), (9, (.lit (.int .i64 (hs.length : Int))))], [(1000000000, .box [.own 1000000001, .own 1000000002]), (1000000001, .row 96 HT true (hs)), (1000000002, .row 50 LT true (fl)), (1000000003, .box [.own 1000000004, .own 1000000005]), (1000000004, .row 93 HT true (hs)), (1000000005, .row 50 LT true (fl))]⟩ rfl ?_ ?_; (conv => whnf); rotate_left; refine RegW.fin tys_ok [] [1] ?_; (conv => whnf))
 | (refine W.region tys_ok [] ?_; conv => whnf)
 | (refine W.drawAll tys_ok [] mixed rfl ?_; conv => whnf)
 | (refine W.ret ?_; conv => whnf)
 | (refine W.skip ?_; conv => whnf)
 | (refine W.exit ?_; conv => whnf)
 | (refine callM_at (d6) ?_; conv => whnf)
 | (refine Both.mk ?_ ?_ <;> (conv => whnf))
 | (refine W.cond rfl (fun hb => ?_) (fun hb => ?_) <;> (try simp only [zr, zd, zm, minL, maxL, pickB, zA] at hb) <;> (try (first | (cases hb; done) | exact absurd hb (by decide) | (exfalso; omega) | (omega))))
 | (refine Or.inl (And.intro ?_ ?_); exact zi; conv => whnf)
 | (refine Or.inr (And.intro ?_ ?_); exact zj; conv => whnf)
 | ((with_reducible refine And.intro ?_ ?_); exact zc; conv => whnf)
 | ((with_reducible refine And.intro (Side.out ?_) ?_); rotate_left; (conv => whnf))
 | ((first | refine retM1 ?_ | refine retM2 ?_ | refine subF.leaf ?_ | refine subF.side ?_) <;> (conv => whnf) <;> repeat' (first
 | exact trivial
 | (with_reducible rfl)
 | ((with_reducible refine And.intro ?_ ?_) <;> conv => whnf)
 | omega
 | rfl
 | (refine congrArg (SV.arr _) ?_)
 | (refine congrArg (Value.int _) ?_)
 | (refine congrArg Value.bool ?_)))); all_goals (try unfold Side)
           all_goals try (repeat' (first | exact zb | with_reducible refine And.intro ?_ ?_))
         · repeat' (first
 | refine W.seq ?_
 | refine W.block ?_
 | (refine W.regW (id := 999) ?_; refine RegW.cut tys_ok [] [1] 8 ⟨[(0, .padr 1000000000 0), (1, .padr 1000000003 0), (9, (.lit (.int .i64 (hs.length : Int))))], [(1000000000, .box [.own 1000000001, .own 1000000002]), (1000000001, .row 96 HT true (hs)), (1000000002, .row 50 LT true (fl)), (1000000003, .box [.own 1000000004, .own 1000000005]), (1000000004, .row 93 HT true (hs)), (1000000005, .row 50 LT true (fl))]⟩ rfl ?_ ?_; (conv => whnf); rotate_left; refine RegW.fin tys_ok [] [1] ?_; (conv => whnf))
 | (refine W.region tys_ok [] ?_; conv => whnf)
 | (refine W.drawAll tys_ok [] mixed rfl ?_; conv => whnf)
 | (refine W.ret ?_; conv => whnf)
 | (refine W.skip ?_; conv => whnf)
 | (refine W.exit ?_; conv => whnf)
 | (refine callM_at (d1) ?_; conv => whnf)
 | (refine callM_at (d2) ?_; conv => whnf)
 | (refine Both.mk ?_ ?_ <;> (conv => whnf))
 | (refine W.cond rfl (fun hb => ?_) (fun hb => ?_) <;> (try simp only [zr, zd, zm, minL, maxL, pickB, zA] at hb) <;> (try (first | (cases hb; done) | exact absurd hb (by decide) | (exfalso; omega) | (omega))))
 | (refine Or.inl (And.intro ?_ ?_); exact zi; conv => whnf)
 | (refine Or.inr (And.intro ?_ ?_); exact zj; conv => whnf)
 | ((with_reducible refine And.intro ?_ ?_); exact zc; conv => whnf)
 | ((with_reducible refine And.intro (Side.out ?_) ?_); rotate_left; (conv => whnf))
 | ((first | refine retM1 ?_ | refine retM2 ?_ | refine subF.leaf ?_ | refine subF.side ?_) <;> (conv => whnf) <;> repeat' (first
 | exact trivial
 | (with_reducible rfl)
 | ((with_reducible refine And.intro ?_ ?_) <;> conv => whnf)
 | omega
 | rfl
 | (refine congrArg (SV.arr _) ?_)
 | (refine congrArg (Value.int _) ?_)
 | (refine congrArg Value.bool ?_)))); all_goals (try unfold Side)
           all_goals try (repeat' (first | exact zb | with_reducible refine And.intro ?_ ?_))
         · repeat' (first
 | refine W.seq ?_
 | refine W.block ?_
 | (refine W.regW (id := 999) ?_; refine RegW.cut tys_ok [] [1] 8 ⟨[(0, .padr 1000000000 0), (1, .padr 1000000003 0), (9, (.lit (.int .i64 (hs.length : Int))))], [(1000000000, .box [.own 1000000001, .own 1000000002]), (1000000001, .row 96 HT true (hs)), (1000000002, .row 50 LT true (fl)), (1000000003, .box [.own 1000000004, .own 1000000005]), (1000000004, .row 93 HT true (hs)), (1000000005, .row 50 LT true (fl))]⟩ rfl ?_ ?_; (conv => whnf); rotate_left; refine RegW.fin tys_ok [] [1] ?_; (conv => whnf))
 | (refine W.region tys_ok [] ?_; conv => whnf)
 | (refine W.drawAll tys_ok [] mixed rfl ?_; conv => whnf)
 | (refine W.ret ?_; conv => whnf)
 | (refine W.skip ?_; conv => whnf)
 | (refine W.exit ?_; conv => whnf)
 | (refine callM_at (d3) ?_; conv => whnf)
 | (refine Both.mk ?_ ?_ <;> (conv => whnf))
 | (refine W.cond rfl (fun hb => ?_) (fun hb => ?_) <;> (try simp only [zr, zd, zm, minL, maxL, pickB, zA] at hb) <;> (try (first | (cases hb; done) | exact absurd hb (by decide) | (exfalso; omega) | (omega))))
 | (refine Or.inl (And.intro ?_ ?_); exact zi; conv => whnf)
 | (refine Or.inr (And.intro ?_ ?_); exact zj; conv => whnf)
 | ((with_reducible refine And.intro ?_ ?_); exact zc; conv => whnf)
 | ((with_reducible refine And.intro (Side.out ?_) ?_); rotate_left; (conv => whnf))
 | ((first | refine retM1 ?_ | refine retM2 ?_ | refine subF.leaf ?_ | refine subF.side ?_) <;> (conv => whnf) <;> repeat' (first
 | exact trivial
 | (with_reducible rfl)
 | ((with_reducible refine And.intro ?_ ?_) <;> conv => whnf)
 | omega
 | rfl
 | (refine congrArg (SV.arr _) ?_)
 | (refine congrArg (Value.int _) ?_)
 | (refine congrArg Value.bool ?_)))); all_goals (try unfold Side)
           all_goals try (repeat' (first | exact zb | with_reducible refine And.intro ?_ ?_))
         · repeat' (first
 | refine W.seq ?_
 | refine W.block ?_
 | (refine W.regW (id := 999) ?_; refine RegW.cut tys_ok [] [1] 8 ⟨[(0, .padr 1000000000 0), (1, .padr 1000000003 0), (9, (.lit (.int .i64 (hs.length : Int))))], [(1000000000, .box [.own 1000000001, .own 1000000002]), (1000000001, .row 96 HT true (hs)), (1000000002, .row 50 LT true (fl)), (1000000003, .box [.own 1000000004, .own 1000000005]), (1000000004, .row 93 HT true (hs)), (1000000005, .row 50 LT true (fl))]⟩ rfl ?_ ?_; (conv => whnf); rotate_left; refine RegW.fin tys_ok [] [1] ?_; (conv => whnf))
 | (refine W.region tys_ok [] ?_; conv => whnf)
 | (refine W.drawAll tys_ok [] mixed rfl ?_; conv => whnf)
 | (refine W.ret ?_; conv => whnf)
 | (refine W.skip ?_; conv => whnf)
 | (refine W.exit ?_; conv => whnf)
 | (refine callM_at (d4) ?_; conv => whnf)
 | (refine Both.mk ?_ ?_ <;> (conv => whnf))
 | (refine W.cond rfl (fun hb => ?_) (fun hb => ?_) <;> (try simp only [zr, zd, zm, minL, maxL, pickB, zA] at hb) <;> (try (first | (cases hb; done) | exact absurd hb (by decide) | (exfalso; omega) | (omega))))
 | (refine Or.inl (And.intro ?_ ?_); exact zi; conv => whnf)
 | (refine Or.inr (And.intro ?_ ?_); exact zj; conv => whnf)
 | ((with_reducible refine And.intro ?_ ?_); exact zc; conv => whnf)
 | ((with_reducible refine And.intro (Side.out ?_) ?_); rotate_left; (conv => whnf))
 | ((first | refine retM1 ?_ | refine retM2 ?_ | refine subF.leaf ?_ | refine subF.side ?_) <;> (conv => whnf) <;> repeat' (first
 | exact trivial
 | (with_reducible rfl)
 | ((with_reducible refine And.intro ?_ ?_) <;> conv => whnf)
 | omega
 | rfl
 | (refine congrArg (SV.arr _) ?_)
 | (refine congrArg (Value.int _) ?_)
 | (refine congrArg Value.bool ?_)))); all_goals (try unfold Side)
           all_goals try (repeat' (first | exact zb | with_reducible refine And.intro ?_ ?_))
         · repeat' (first
 | refine W.seq ?_
 | refine W.block ?_
 | (refine W.regW (id := 999) ?_; refine RegW.cut tys_ok [] [1] 8 ⟨[(0, .padr 1000000000 0), (1, .padr 1000000003 0), (9, (.lit (.int .i64 (hs.length : Int))))], [(1000000000, .box [.own 1000000001, .own 1000000002]), (1000000001, .row 96 HT true (hs)), (1000000002, .row 50 LT true (fl)), (1000000003, .box [.own 1000000004, .own 1000000005]), (1000000004, .row 93 HT true (hs)), (1000000005, .row 50 LT true (fl))]⟩ rfl ?_ ?_; (conv => whnf); rotate_left; refine RegW.fin tys_ok [] [1] ?_; (conv => whnf))
 | (refine W.region tys_ok [] ?_; conv => whnf)
 | (refine W.drawAll tys_ok [] mixed rfl ?_; conv => whnf)
 | (refine W.ret ?_; conv => whnf)
 | (refine W.skip ?_; conv => whnf)
 | (refine W.exit ?_; conv => whnf)
 | (refine callM_at (d5) ?_; conv => whnf)
 | (refine Both.mk ?_ ?_ <;> (conv => whnf))
 | (refine W.cond rfl (fun hb => ?_) (fun hb => ?_) <;> (try simp only [zr, zd, zm, minL, maxL, pickB, zA] at hb) <;> (try (first | (cases hb; done) | exact absurd hb (by decide) | (exfalso; omega) | (omega))))
 | (refine Or.inl (And.intro ?_ ?_); exact zi; conv => whnf)
 | (refine Or.inr (And.intro ?_ ?_); exact zj; conv => whnf)
 | ((with_reducible refine And.intro ?_ ?_); exact zc; conv => whnf)
 | ((with_reducible refine And.intro (Side.out ?_) ?_); rotate_left; (conv => whnf))
 | ((first | refine retM1 ?_ | refine retM2 ?_ | refine subF.leaf ?_ | refine subF.side ?_) <;> (conv => whnf) <;> repeat' (first
 | exact trivial
 | (with_reducible rfl)
 | ((with_reducible refine And.intro ?_ ?_) <;> conv => whnf)
 | omega
 | rfl
 | (refine congrArg (SV.arr _) ?_)
 | (refine congrArg (Value.int _) ?_)
 | (refine congrArg Value.bool ?_)))); all_goals (try unfold Side)
           all_goals try (repeat' (first | exact zb | with_reducible refine And.intro ?_ ?_))
open Go Go.Vc Go.Rg
abbrev U3 : Ty := .cons (.int .u8) (.cons (.int .u8) (.cons (.int .u8) .nil))
abbrev Tr3 := Int × Int × Int × Unit
@[reducible] def R0 : Tr3 := (0, 0, 0, ())
def sm3 (y : List Tr3) : Prop := ∀ i, (0 ≤ (y.getD i R0).1 ∧ (y.getD i R0).1 ≤ 255) ∧ (0 ≤ (y.getD i R0).2.1 ∧ (y.getD i R0).2.1 ≤ 255) ∧ 0 ≤ (y.getD i R0).2.2.1 ∧ (y.getD i R0).2.2.1 ≤ 255
theorem over_at {hs : List Hd} {fl : List Lt} (h0 : 0 < hs.length) (hn : hs.length ≤ 1000) (hfl : fl.length ≤ 1000) (hq : ∀ i, i < hs.length → gw hs i = false ∧ gp hs i = -1 ∧ go hs i = 0) (hf : ∀ k, k < fl.length → (fl.getD k L0).2.2.1 = true) :
  FnM Try.prog 23 [.padr 1000000000 0, (.lit (.int .i64 (hs.length : Int)))] [(1000000000, .box [.own 1000000001, .own 1000000002]), (1000000001, .row 96 HT true (hs)), (1000000002, .row 50 LT true (fl))] (.lit (.bool true)) [(1000000000, .box [.own 1000000001, .own 1000000002]), (1000000001, .row 96 HT true (hs)), (1000000002, .row 50 LT true (fl))] := by
 have hl : @List.length HT.T hs = hs.length := rfl
 have hlf : @List.length LT.T fl = fl.length := rfl
 have c1 := flight_at (fl := fl) h0 hfl
 refine FnM.of_body tys_ok Try.func23 (by rfl) rfl Try.ntmps23 (by rw [Try.results23]) (by simp) ?_
 repeat' (first
 | refine W.seq ?_
 | refine W.block ?_
 | (refine W.region tys_ok [] ?_; conv => whnf)
 | (refine W.drawAll tys_ok [] mixed rfl ?_; conv => whnf)
 | (refine W.ret ?_; conv => whnf)
 | (refine W.skip ?_; conv => whnf)
 | (refine W.exit ?_; conv => whnf)
 | (refine W.cond rfl (fun hb => ?_) (fun hb => ?_) <;> (try simp only [zr, zd, zm, minL, maxL, pickB, zA] at hb) <;> (try (first | (cases hb; done) | exact absurd hb (by decide) | (exfalso; omega) | (omega))))
 | ((with_reducible refine And.intro ?_ ?_); exact zc; conv => whnf)
 | ((with_reducible refine And.intro (Side.out ?_) ?_); rotate_left; (conv => whnf))
 | ((first | refine retM1 ?_ | refine retM2 ?_) <;> (conv => whnf) <;> repeat' (first
 | exact trivial
 | (with_reducible rfl)
 | ((with_reducible refine And.intro ?_ ?_) <;> conv => whnf)
 | omega
 | rfl
 | (refine congrArg (SV.arr _) ?_)
 | (refine congrArg (Value.int _) ?_)
 | (refine congrArg Value.bool ?_)))); all_goals (try unfold Side)
 all_goals try (repeat' (first | exact zb | with_reducible refine And.intro ?_ ?_))
 refine W.loop (fun i : Nat => ⟨[(0, .padr 1000000000 0), (1, (.lit (.int .i64 (hs.length : Int)))), (5, (.lit (.int .i64 (i : Int))))], [(1000000000, .box [.own 1000000001, .own 1000000002]), (1000000001, .row 96 HT true (hs)), (1000000002, .row 50 LT true (fl))]⟩) (fun i => i ≤ hs.length) (fun i => hs.length - i) (0) ?_ ?_
 · refine ⟨Nat.zero_le _, ?_⟩
   refine subF.ok ?_ <;> (conv => whnf) <;> repeat' (first
 | exact trivial
 | (with_reducible rfl)
 | ((with_reducible refine And.intro ?_ ?_) <;> conv => whnf)
 | omega
 | rfl
 | (refine congrArg (SV.arr _) ?_)
 | (refine congrArg (Value.int _) ?_)
 | (refine congrArg Value.bool ?_))
 · intro i hi
   by_cases hil : i < hs.length
   · obtain ⟨q1, q2, q3⟩ := hq i hil
     have g1 := working_in (hs := hs) (fl := fl) (i := i) hil
     have g2 := parent_in (hs := hs) (fl := fl) (i := i) hil
     have g3 := owed_in (hs := hs) (fl := fl) (i := i) hil
     rw [q1] at g1
     rw [q2] at g2
     rw [q3] at g3
     repeat' (first
 | refine W.seq ?_
 | refine W.block ?_
 | (refine W.regionM (id := 4) tys_ok [] [2,6,12] ?_; conv => whnf)
 | (refine W.region tys_ok [] ?_; conv => whnf)
 | (refine W.drawAll tys_ok [] mixed rfl ?_; conv => whnf)
 | (refine W.ret ?_; conv => whnf)
 | (refine W.skip ?_; conv => whnf)
 | (refine W.exit ?_; conv => whnf)
 | (refine callM_at (g1) ?_; conv => whnf)
 | (refine callM_at (g2) ?_; conv => whnf)
 | (refine callM_at (g3) ?_; conv => whnf)
 | (refine W.cond rfl (fun hb => ?_) (fun hb => ?_) <;> (try simp only [zr, zd, zm, minL, maxL, pickB, zA] at hb) <;> (try (first | (cases hb; done) | exact absurd hb (by decide) | (exfalso; omega) | (omega) | ((simp [pickB] at hb; done)))))
 | (refine Or.inl (And.intro ?_ ?_); exact zi; conv => whnf)
 | (refine Or.inr (And.intro ?_ ?_); exact zj; conv => whnf)
 | ((with_reducible refine And.intro ?_ ?_); exact zc; conv => whnf)
 | ((with_reducible refine And.intro (Side.out ?_) ?_); rotate_left; (conv => whnf))
 | ((first | refine retM1 ?_ | refine retM2 ?_) <;> (conv => whnf) <;> repeat' (first
 | exact trivial
 | (with_reducible rfl)
 | ((with_reducible refine And.intro ?_ ?_) <;> conv => whnf)
 | omega
 | rfl
 | (refine congrArg (SV.arr _) ?_)
 | (refine congrArg (Value.int _) ?_)
 | (refine congrArg Value.bool ?_)))); all_goals (try unfold Side)
     all_goals try (repeat' (first | exact zb | with_reducible refine And.intro ?_ ?_))
     refine ⟨i + 1, ⟨by omega, by omega⟩, ?_⟩
     refine subF.ok ?_ <;> (conv => whnf) <;> repeat' (first
 | exact trivial
 | (with_reducible rfl)
 | ((with_reducible refine And.intro ?_ ?_) <;> conv => whnf)
 | omega
 | rfl
 | (refine congrArg (SV.arr _) ?_)
 | (refine congrArg (Value.int _) ?_)
 | (refine congrArg Value.bool ?_))
   · repeat' (first
 | refine W.seq ?_
 | refine W.block ?_
 | (refine W.regionM (id := 6) tys_ok [] [1] ?_; conv => whnf)
 | (refine W.region tys_ok [] ?_; conv => whnf)
 | (refine W.drawAll tys_ok [] mixed rfl ?_; conv => whnf)
 | (refine W.ret ?_; conv => whnf)
 | (refine W.skip ?_; conv => whnf)
 | (refine W.exit ?_; conv => whnf)
 | (refine callM_at (c1) ?_; conv => whnf)
 | (refine W.cond rfl (fun hb => ?_) (fun hb => ?_) <;> (try simp only [zr, zd, zm, minL, maxL, pickB, zA] at hb) <;> (try (first | (cases hb; done) | exact absurd hb (by decide) | (exfalso; omega) | (omega))))
 | (refine Or.inl (And.intro trivial ?_); (conv => whnf))
 | ((with_reducible refine And.intro ?_ ?_); exact zc; conv => whnf)
 | ((with_reducible refine And.intro (Side.out ?_) ?_); rotate_left; (conv => whnf))
 | ((first | refine retM1 ?_ | refine retM2 ?_) <;> (conv => whnf) <;> repeat' (first
 | exact trivial
 | (with_reducible rfl)
 | ((with_reducible refine And.intro ?_ ?_) <;> conv => whnf)
 | omega
 | rfl
 | (refine congrArg (SV.arr _) ?_)
 | (refine congrArg (Value.int _) ?_)
 | (refine congrArg Value.bool ?_)))); all_goals (try unfold Side)
     all_goals try (repeat' (first | exact zb | with_reducible refine And.intro ?_ ?_))
     refine W.loop (fun i : Nat => ⟨[(0, .padr 1000000000 0), (6, .own 9000), (7, (.lit (.int .i64 (i : Int))))], [(1000000000, .box [.own 1000000001, .own 1000000002]), (1000000001, .row 96 HT true (hs)), (1000000002, .row 50 LT true (fl)), (9000, .row 50 LT true fl)]⟩) (fun i => i ≤ fl.length) (fun i => fl.length - i) (0) ?_ ?_
     · refine ⟨Nat.zero_le _, ?_⟩
       refine subF.ok ?_ <;> (conv => whnf) <;> repeat' (first
 | exact trivial
 | (with_reducible rfl)
 | ((with_reducible refine And.intro ?_ ?_) <;> conv => whnf)
 | omega
 | rfl
 | (refine congrArg (SV.arr _) ?_)
 | (refine congrArg (Value.int _) ?_)
 | (refine congrArg Value.bool ?_))
     · intro i hi2
       by_cases hi3 : i < fl.length
       · have q := hf i hi3
         repeat' (first
 | refine W.seq ?_
 | refine W.block ?_
 | (refine W.region tys_ok [] ?_; conv => whnf)
 | (refine W.drawAll tys_ok [] mixed rfl ?_; conv => whnf)
 | (refine W.ret ?_; conv => whnf)
 | (refine W.skip ?_; conv => whnf)
 | (refine W.exit ?_; conv => whnf)
 | (refine W.cond rfl (fun hb => ?_) (fun hb => ?_) <;> (try simp only [zr, zd, zm, minL, maxL, pickB, zA] at hb) <;> (try (first | (cases hb; done) | exact absurd hb (by decide) | (exfalso; omega) | (omega) | ((simp_all; done)))))
 | ((with_reducible refine And.intro ?_ ?_); exact zc; conv => whnf)
 | ((with_reducible refine And.intro (Side.out ?_) ?_); rotate_left; (conv => whnf))
 | ((first | refine retM1 ?_ | refine retM2 ?_) <;> (conv => whnf) <;> repeat' (first
 | exact trivial
 | (with_reducible rfl)
 | ((with_reducible refine And.intro ?_ ?_) <;> conv => whnf)
 | omega
 | rfl
 | (refine congrArg (SV.arr _) ?_)
 | (refine congrArg (Value.int _) ?_)
 | (refine congrArg Value.bool ?_)))); all_goals (try unfold Side)
         all_goals try (repeat' (first | exact zb | with_reducible refine And.intro ?_ ?_))
         refine ⟨i + 1, ⟨by omega, by omega⟩, ?_⟩
         refine subF.ok ?_ <;> (conv => whnf) <;> repeat' (first
 | exact trivial
 | (with_reducible rfl)
 | ((with_reducible refine And.intro ?_ ?_) <;> conv => whnf)
 | omega
 | rfl
 | (refine congrArg (SV.arr _) ?_)
 | (refine congrArg (Value.int _) ?_)
 | (refine congrArg Value.bool ?_))
       · repeat' (first
 | refine W.seq ?_
 | refine W.block ?_
 | (refine W.region tys_ok [] ?_; conv => whnf)
 | (refine W.drawAll tys_ok [] mixed rfl ?_; conv => whnf)
 | (refine W.ret ?_; conv => whnf)
 | (refine W.skip ?_; conv => whnf)
 | (refine W.exit ?_; conv => whnf)
 | (refine W.cond rfl (fun hb => ?_) (fun hb => ?_) <;> (try simp only [zr, zd, zm, minL, maxL, pickB, zA] at hb) <;> (try (first | (cases hb; done) | exact absurd hb (by decide) | (exfalso; omega) | (omega))))
 | ((with_reducible refine And.intro ?_ ?_); exact zc; conv => whnf)
 | ((with_reducible refine And.intro (Side.out ?_) ?_); rotate_left; (conv => whnf))
 | ((first | refine retM1 ?_ | refine retM2 ?_) <;> (conv => whnf) <;> repeat' (first
 | exact trivial
 | (with_reducible rfl)
 | ((with_reducible refine And.intro ?_ ?_) <;> conv => whnf)
 | omega
 | rfl
 | (refine congrArg (SV.arr _) ?_)
 | (refine congrArg (Value.int _) ?_)
 | (refine congrArg Value.bool ?_)))); all_goals (try unfold Side)
         all_goals try (repeat' (first | exact zb | with_reducible refine And.intro ?_ ?_))
open Int renaming reduceToNat → zr, reduceTDiv → zd, reduceTMod → zm
open Go Go.Vc Go.Rg
variable {n : Nat} {pet : Bool} {r : Rn}
def stp (pet : Bool) (n : Nat) (x : Tr3) (r : Rn) : Rn := if x.1.tmod 4 = 0 then startK (x.2.1.tmod n) r else rdelK pet (x.2.1.tmod n) r
def stpN (pet : Bool) (n : Nat) (l : List Tr3) : Nat → Rn → Rn
 | 0, r => r
 | k + 1, r => stp pet n (l.getD k R0) (stpN pet n l k r)
theorem stp_ok (h : ROk n pet r) {x : Tr3} : ROk n pet (stp pet n x r) ∧ (stp pet n x r).2.2 ≤ r.2.2 + 2 := by
 unfold stp
 split
 · exact ⟨h.start, start_sent'⟩
 · exact ⟨h.del, del_sent'⟩
theorem stpN_ok (h : ROk n pet r) {l : List Tr3} : ∀ k, ROk n pet (stpN pet n l k r) ∧ (stpN pet n l k r).2.2 ≤ r.2.2 + 2 * k
 | 0 => ⟨h, by rw [stpN]; omega⟩
 | k + 1 => by
  obtain ⟨h1, h2⟩ := stpN_ok h (l := l) k
  obtain ⟨h3, h4⟩ := stp_ok h1 (x := l.getD k R0)
  rw [stpN]
  exact ⟨h3, by omega⟩
set_option maxHeartbeats 4000000 in
theorem clonew_at {d : Dn} (h1 : d.1.length ≤ 1000) (h2 : d.2.1.length ≤ 1000) : FnM Try.prog 44 [.padr 1000000000 0] [(1000000000, .box [.lit (.bool pet), .own 1000000001, .own 1000000002, (.lit (.int .i64 ((d).2.2 : Int)))]), (1000000001, .row 111 WT true (d).1), (1000000002, .row 80 (.sl NT) true (d).2.1)] (.padr 0 0) [(1000000000, .box [.lit (.bool pet), .own 1000000001, .own 1000000002, (.lit (.int .i64 ((d).2.2 : Int)))]), (1000000001, .row 111 WT true (d).1), (1000000002, .row 80 (.sl NT) true (d).2.1), (0, .box [.lit (.bool pet), .own 1, .own 2, (.lit (.int .i64 ((d).2.2 : Int)))]), (1, .row 111 WT true (d).1), (2, .row 80 (.sl NT) true (d).2.1)] := by
 have f1 : ([] : List We).length + d.1.length ≤ 4294967296 := by rw [List.length_nil]; omega
 have f2 : ([] : List (List Nt)).length + d.2.1.length ≤ 4294967296 := by rw [List.length_nil]; omega
 refine FnM.of_body tys_ok Try.func44 (by rfl) rfl Try.ntmps44 (by rw [Try.results44]) (by simp) ?_
 repeat' (first
 | refine W.seq ?_
 | refine W.block ?_
 | (refine W.region tys_ok [] ?_; conv => whnf)
 | (refine W.drawAll tys_ok [] mixed rfl ?_; conv => whnf)
 | (refine W.ret ?_; conv => whnf)
 | (refine W.skip ?_; conv => whnf)
 | (refine W.exit ?_; conv => whnf)
 | (refine W.cond rfl (fun hb => ?_) (fun hb => ?_) <;> (try simp only [zr, zd, zm, minL, maxL, pickB, zA] at hb) <;> (try (first | (cases hb; done) | exact absurd hb (by decide) | (exfalso; omega) | (omega))))
 | ((with_reducible refine And.intro ?_ ?_); exact zc; conv => whnf)
 | ((with_reducible refine And.intro (Side.out ?_) ?_); rotate_left; (conv => whnf))
 | ((first | refine retM1 ?_ | refine retM2 ?_) <;> (conv => whnf) <;> repeat' (first
 | exact trivial
 | (with_reducible rfl)
 | ((with_reducible refine And.intro ?_ ?_) <;> conv => whnf)
 | omega
 | rfl
 | (refine congrArg (SV.arr _) ?_)
 | (refine congrArg (Value.int _) ?_)
 | (refine congrArg Value.bool ?_)))); all_goals (try unfold Side)
 all_goals first | exact f1 | exact f2 | skip
 all_goals try (repeat' (first | exact zb | with_reducible refine And.intro ?_ ?_))
set_option maxHeartbeats 8000000 in
theorem step_at {acts : List U3.T} (h : ROk n pet r) (hs : r.2.2 ≤ 800000) (ha : sm3 acts) {r2 : Rn} (hr : r2 = stpN pet n acts (min acts.length 60) r) : FnM Try.prog 43 [.padr 1000000000 0, .padr 1000000003 0, .st false (.arr U3 acts)] [(1000000000, .box [.lit (.bool true), .lit (.bool pet), .own 1000000001, .mown 5, (.lit (.int .i64 ((r).2.2 : Int)))]), (1000000001, .row 105 PT true (r).1), (5, .mat 80 91 NT true (r).2.1 none), (1000000003, .box [.lit (.bool pet), .own 1000000004, .own 1000000005, (.lit (.int .i64 ((r).2.2 : Int)))]), (1000000004, .row 111 WT true ((r).1.map cv)), (1000000005, .row 80 (.sl NT) true (r).2.1)] (.tup []) [(1000000000, .box [.lit (.bool true), .lit (.bool pet), .own 1000000001, .mown 5, (.lit (.int .i64 ((r2).2.2 : Int)))]), (1000000001, .row 105 PT true (r2).1), (5, .mat 80 91 NT true (r2).2.1 none), (1000000003, .box [.lit (.bool pet), .own 1000000004, .own 1000000005, (.lit (.int .i64 ((r2).2.2 : Int)))]), (1000000004, .row 111 WT true ((r2).1.map cv)), (1000000005, .row 80 (.sl NT) true (r2).2.1)] := by
 have hla : @List.length U3.T acts = acts.length := rfl
 refine FnM.of_body tys_ok Try.func43 (by rfl) rfl Try.ntmps43 (by rw [Try.results43]) (by simp) ?_
 repeat' (first
 | refine W.seq ?_
 | refine W.block ?_
 | (refine W.region tys_ok [] ?_; conv => whnf)
 | (refine W.drawAll tys_ok [] mixed rfl ?_; conv => whnf)
 | (refine W.ret ?_; conv => whnf)
 | (refine W.skip ?_; conv => whnf)
 | (refine W.exit ?_; conv => whnf)
 | (refine W.cond rfl (fun hb => ?_) (fun hb => ?_) <;> (try simp only [zr, zd, zm, minL, maxL, pickB, zA] at hb) <;> (try (first | (cases hb; done) | exact absurd hb (by decide) | (exfalso; omega) | (omega))))
 | ((with_reducible refine And.intro ?_ ?_); exact zc; conv => whnf)
 | ((with_reducible refine And.intro (Side.out ?_) ?_); rotate_left; (conv => whnf))
 | ((first | refine retM1 ?_ | refine retM2 ?_) <;> (conv => whnf) <;> repeat' (first
 | exact trivial
 | (with_reducible rfl)
 | ((with_reducible refine And.intro ?_ ?_) <;> conv => whnf)
 | omega
 | rfl
 | (refine congrArg (SV.arr _) ?_)
 | (refine congrArg (Value.int _) ?_)
 | (refine congrArg Value.bool ?_)))); all_goals (try unfold Side)
 all_goals try (repeat' (first | exact zb | with_reducible refine And.intro ?_ ?_))
 refine W.loop (fun p : Nat × Rn => ⟨[(0, .padr 1000000000 0), (1, .padr 1000000003 0), (2, .st false (.arr U3 acts)), (6, (.lit (.int .i64 (p.1 : Int))))], [(1000000000, .box [.lit (.bool true), .lit (.bool pet), .own 1000000001, .mown 5, (.lit (.int .i64 ((p.2).2.2 : Int)))]), (1000000001, .row 105 PT true (p.2).1), (5, .mat 80 91 NT true (p.2).2.1 none), (1000000003, .box [.lit (.bool pet), .own 1000000004, .own 1000000005, (.lit (.int .i64 ((p.2).2.2 : Int)))]), (1000000004, .row 111 WT true ((p.2).1.map cv)), (1000000005, .row 80 (.sl NT) true (p.2).2.1)]⟩) (fun p => p.1 ≤ min acts.length 60 ∧ p.2 = stpN pet n acts p.1 r) (fun p => 60 - p.1) ((0, r)) ?_ ?_
 · refine ⟨⟨Nat.zero_le _, rfl⟩, ?_⟩
   refine subF.ok ?_ <;> (conv => whnf) <;> repeat' (first
 | exact trivial
 | (with_reducible rfl)
 | ((with_reducible refine And.intro ?_ ?_) <;> conv => whnf)
 | omega
 | rfl
 | (refine congrArg (SV.arr _) ?_)
 | (refine congrArg (Value.int _) ?_)
 | (refine congrArg Value.bool ?_))
 · rintro ⟨i, q⟩ ⟨hi, hq⟩
   dsimp only at hi hq ⊢
   obtain ⟨hk, hsq⟩ := stpN_ok h (l := acts) i
   rw [← hq] at hk hsq
   have hs0 := hk.s0
   have hlm : (cvD q).1.length = q.1.length := cvD_len
   by_cases hil : i < min acts.length 60
   · obtain ⟨κ, hκ⟩ : ∃ κ : Int, κ = (acts.getD i U3.dflt).1 := ⟨_, rfl⟩
     obtain ⟨u, hu⟩ : ∃ u : Int, u = (acts.getD i U3.dflt).2.1 := ⟨_, rfl⟩
     have hai : (0 ≤ κ ∧ κ ≤ 255) ∧ 0 ≤ u ∧ u ≤ 255 := by have q := ha i; rw [hκ, hu]; exact ⟨q.1, q.2.1⟩
     have ia : 0 ≤ (i : Int) ∧ i < acts.length := ⟨by omega, by omega⟩
     obtain ⟨a, had⟩ : ∃ a : Int, a = u.tmod n := ⟨_, rfl⟩
     have hm : u.tmod (@List.length WT.T (q.1.map cv) : Int) = a := by rw [had]; congr 1; show ((q.1.map cv).length : Int) = n; rw [List.length_map, hk.len]
     have hm0 : ((@List.length WT.T (q.1.map cv) : Nat) : Int) ≠ 0 := by show ((q.1.map cv).length : Int) ≠ 0; rw [List.length_map, hk.len]; have := hk.n0; omega
     obtain ⟨q2, hq2⟩ : ∃ q2, q2 = stpN pet n acts (i + 1) r := ⟨_, rfl⟩
     have hst : q2 = if κ.tmod 4 = 0 then startK a q else rdelK pet a q := by
      have e0 : q2 = stp pet n (acts.getD i U3.dflt) q := by rw [hq2, hq]; rfl
      rw [e0]; unfold stp; rw [had, hu, hκ]
     have hin : InK .i64 (acts.getD i U3.dflt).2.1 := by rw [← hu]; exact ⟨by omega, by omega⟩
     have hm2 : ((acts.getD i U3.dflt).2.1).tmod (@List.length WT.T (q.1.map cv) : Int) = a := by rw [← hu]; exact hm
     have s1 : q2 = startK a q → _ := fun hr => start_ring (pet := pet) (i := a) hk (by omega) rfl hr.symm
     have s2 : q2 = startK a q → _ := fun hr => startd_at (pet := pet) (d := cvD q) (i := a) (d2 := cvD q2) (by rw [hlm, hk.len]; exact hk.fln) hk.fl ⟨hs0, by show q.2.2 ≤ 1000000; omega⟩ (by rw [hlm, hk.len]; have := hk.n1; omega) rfl (by rw [startK_cv, hr])
     have t1 : q2 = rdelK pet a q → _ := fun hr => deliver_ring (pet := pet) (i := a) hk (by omega) rfl hr.symm
     have t2 : q2 = rdelK pet a q → _ := fun hr => delivd_at (pet := pet) (d := cvD q) (i := a) (d2 := cvD q2) (by rw [hlm, hk.len]; exact hk.n0) (by rw [hlm, hk.len]; exact hk.fln) hk.fl ⟨hs0, by show q.2.2 ≤ 900000; omega⟩ (by rw [hlm, hk.len]; have := hk.n1; omega) hk.kd rfl (by rw [rdelK_cv hk, hr])
     have key : (κ.tmod 4 = 0 ∧ q2 = startK a q) ∨ (κ.tmod 4 ≠ 0 ∧ q2 = rdelK pet a q) := by
      by_cases k0 : κ.tmod 4 = 0
      · rw [if_pos k0] at hst; exact .inl ⟨k0, hst⟩
      · rw [if_neg k0] at hst; exact .inr ⟨k0, hst⟩
     clear hst
     rcases key with ⟨k0, hst⟩ | ⟨k0, hst⟩
     all_goals
      repeat' (first
 | refine W.seq ?_
 | refine W.block ?_
 | (refine W.resub (x := Code.region 3 _ _) (Γ' := ⟨[(0, .padr 1000000000 0), (1, .padr 1000000003 0), (2, .st false (.arr U3 acts)), (6, (.lit (.int .i64 (i : Int))))], [(1000000000, .box [.lit (.bool true), .lit (.bool pet), .own 1000000001, .mown 5, (.lit (.int .i64 ((q).2.2 : Int)))]), (1000000001, .row 105 PT true (q).1), (5, .mat 80 91 NT true (q).2.1 none), (1000000003, .box [.lit (.bool pet), .own 1000000004, .own 1000000005, (.lit (.int .i64 ((q).2.2 : Int)))]), (1000000004, .row 111 WT true ((q).1.map cv)), (1000000005, .row 80 (.sl NT) true (q).2.1)]⟩) ?_ ?_; rotate_left; refine W.drawMTo (id := 3) tys_ok [] [] mixed [0, 0, 3, 4, 8, 16, 0, 64, 128, 256, 512, 1056, 4095] [([0, 1, 2, 3, 4, 5, 6, 7, 8], 1, 1023), ([], 1, 2047), ([11, 12], 0, 8191)] ⟨[(0, .padr 1000000000 0), (1, .padr 1000000003 0), (2, .st false (.arr U3 acts)), (6, (.lit (.int .i64 (i : Int)))), (7, (.lit (.int .i64 (a : Int))))], [(1000000000, .box [.lit (.bool true), .lit (.bool pet), .own 1000000001, .mown 5, (.lit (.int .i64 ((q).2.2 : Int)))]), (1000000001, .row 105 PT true (q).1), (5, .mat 80 91 NT true (q).2.1 none), (1000000003, .box [.lit (.bool pet), .own 1000000004, .own 1000000005, (.lit (.int .i64 ((q).2.2 : Int)))]), (1000000004, .row 111 WT true ((q).1.map cv)), (1000000005, .row 80 (.sl NT) true (q).2.1)]⟩ (by decide +kernel) ?_ ?_; (conv => whnf); rotate_left; (conv => whnf))
 | (refine W.regionM (id := 5) tys_ok [] [2] ?_; conv => whnf)
 | (refine W.regionM (id := 6) tys_ok [] [2] ?_; conv => whnf)
 | (refine W.regionM (id := 7) tys_ok [] [2] ?_; conv => whnf)
 | (refine W.regionM (id := 8) tys_ok [] [2] ?_; conv => whnf)
 | (refine W.region tys_ok [] ?_; conv => whnf)
 | (refine W.drawAll tys_ok [] mixed rfl ?_; conv => whnf)
 | (refine W.ret ?_; conv => whnf)
 | (refine W.skip ?_; conv => whnf)
 | (refine W.exit ?_; conv => whnf)
 | (refine callM_at (s1 hst) ?_; conv => whnf)
 | (refine callM_at (s2 hst) ?_; conv => whnf)
 | (refine callM_at (t1 hst) ?_; conv => whnf)
 | (refine callM_at (t2 hst) ?_; conv => whnf)
 | (refine Both.mk ?_ ?_ <;> (conv => whnf))
 | (refine W.cond rfl (fun hb => ?_) (fun hb => ?_) <;> (try simp only [zr, zd, zm, minL, maxL, pickB, zA] at hb) <;> (try (first | (cases hb; done) | exact absurd hb (by decide) | (exfalso; omega) | (omega) | ((rw [← hκ] at hb; omega)))))
 | (refine Or.inl (And.intro trivial ?_); (conv => whnf))
 | ((with_reducible refine And.intro ?_ ?_); exact zc; conv => whnf)
 | ((with_reducible refine And.intro (Side.out ?_) ?_); rotate_left; (conv => whnf))
 | ((first | refine retM1 ?_ | refine retM2 ?_ | refine subF.leaf ?_ | refine subF.side ?_) <;> (conv => whnf) <;> repeat' (first
 | exact trivial
 | (with_reducible rfl)
 | ((with_reducible refine And.intro ?_ ?_) <;> conv => whnf)
 | omega
 | rfl
 | (refine congrArg (SV.arr _) ?_)
 | (refine congrArg (Value.int _) ?_)
 | (refine congrArg Value.bool ?_)))); all_goals (try unfold Side)
     all_goals first | exact hm2 | exact Path.imp_of hin | exact Path.imp_of hm0 | exact Path.imp_of ia | exact Path.imp_of ia.2 | exact ia.2 | skip
     all_goals try (repeat' (first | exact zb | with_reducible refine And.intro ?_ ?_))
     all_goals
      refine ⟨(i + 1, q2), ⟨⟨by dsimp only; omega, hq2⟩, by dsimp only; omega⟩, ?_⟩
      refine subF.ok ?_ <;> (conv => whnf) <;> repeat' (first
 | exact trivial
 | (with_reducible rfl)
 | ((with_reducible refine And.intro ?_ ?_) <;> conv => whnf)
 | omega
 | rfl
 | (refine congrArg (SV.arr _) ?_)
 | (refine congrArg (Value.int _) ?_)
 | (refine congrArg Value.bool ?_))
   · have hend : q = r2 := by rw [hr, hq, show i = min acts.length 60 by omega]
     repeat' (first
 | refine W.seq ?_
 | refine W.block ?_
 | (refine W.region tys_ok [] ?_; conv => whnf)
 | (refine W.drawAll tys_ok [] mixed rfl ?_; conv => whnf)
 | (refine W.ret ?_; conv => whnf)
 | (refine W.skip ?_; conv => whnf)
 | (refine W.exit ?_; conv => whnf)
 | (refine W.cond rfl (fun hb => ?_) (fun hb => ?_) <;> (try simp only [zr, zd, zm, minL, maxL, pickB, zA] at hb) <;> (try (first | (cases hb; done) | exact absurd hb (by decide) | (exfalso; omega) | (omega) | ((simp [pickB] at hb; omega)))))
 | ((with_reducible refine And.intro ?_ ?_); exact zc; conv => whnf)
 | ((with_reducible refine And.intro (Side.out ?_) ?_); rotate_left; (conv => whnf))
 | ((first | refine retM1 ?_ | refine retM2 ?_) <;> (conv => whnf) <;> repeat' (first
 | exact trivial
 | (with_reducible rfl)
 | ((with_reducible refine And.intro ?_ ?_) <;> conv => whnf)
 | omega
 | rfl
 | (refine congrArg (SV.arr _) ?_)
 | (refine congrArg (Value.int _) ?_)
 | (refine congrArg Value.bool ?_)))); all_goals (try unfold Side)
     all_goals first | exact congrArg (fun r : Rn => r.2.2) hend | exact congrArg (fun r : Rn => r.1) hend | exact congrArg (fun r : Rn => r.2.1) hend | exact congrArg (fun r : Rn => r.1.map cv) hend | skip
     all_goals try (repeat' (first | exact zb | with_reducible refine And.intro ?_ ?_))
end Go.Proofs.Ytkjcnegkdlmapaa
namespace Go.Vc
def stepX (P : Program) (T : List (Nat × TE)) (F Ms : List Nat) (n : Nat) (ops : Array Oper) (i : Nat) (o : Oper) (Γ : Sy) (K : Sy → Prop) : Prop := match memN (i + 2000) Ms with
 | true => match o.guard, o.dst with
  | none, some D => match o.op with
   | .convert s d x => withOp Γ [] x fun A => match A, get? T s, get? T d with
    | .lit (.int _ m), some _, some { kind := .int k, .. } => Nat.blt D n = true ∧ K (Γ.putB D (.lit (.int k (k.wrap m))))
    | _, _, _ => False
   | _ => False
  | _, _ => False
 | false => stepZ P T F Ms n ops i o Γ K
theorem stepX_sound {P : Program} {T : List (Nat × TE)} {F Ms : List Nat} (hT : TOk P T) {c : Cx} {ops : Array Oper} {K : Sy → Prop} {i : Nat} {o : Oper} {Γ : Sy} (hoi : ops[i]? = some o) (h : stepX P T F Ms c.n ops i o Γ K) :
  ∃ Γ', StepOk P c ops i Γ Γ' ∧ K Γ' := by
 unfold stepX at h
 split at h
 · split at h
   · rename_i D hg hd
     split at h
     · rename_i s d x hop
       obtain ⟨A, hA, h6⟩ := withOp.ev (c := c) h
       split at h6
       · rename_i k0 m y k sz by_ ze ty hs hty
         obtain ⟨h7, h8⟩ := h6
         refine ⟨_, ?_, h8⟩
         intro Q g a w K' hst hK
         unfold wpOp
         rw [hoi]
         dsimp only
         rw [if_pos ((guardOf.wanted (ops := ops) (G := []) hst (by rw [hg]; rfl)).2 trivial)]
         refine .inl ?_
         have hu := (hT _ _ hty).int rfl
         obtain ⟨d1, hd1, _⟩ := (hT _ _ hs).under
         have h1 := hA trivial Γ g a w rfl hst
         simp only [Rp2, Rp1] at h1
         unfold Oper.wp
         have hrun : (execOp a.eval o).run P w = .ok (.value (.int k (k.wrap m))) w := by
          simp [execOp, hop, h1.1, Go.convert, run_underlying hu, run_underlying hd1, Conv.intToInt]
         rw [hrun]
         refine hK g _ w ?_
         rw [hd]
         exact hst.put (Nat.le_of_ble_eq_true h7) (A := .lit (.int k (k.wrap m))) ⟨rfl, rfl⟩
       · exact h6.elim
     · exact h.elim
   · exact h.elim
 · exact stepZ_sound hT hoi h
noncomputable def seqX (P : Program) (T : List (Nat × TE)) (F Ms : List Nat) (n : Nat) (ops : Array Oper) (l : List Oper) : Nat → Sy → (Sy → Prop) → Prop :=
 List.rec (motive := fun _ => Nat → Sy → (Sy → Prop) → Prop) (fun _ Γ K => K Γ) (fun o _ ih i Γ K => stepX P T F Ms n ops i o Γ fun Γ' => ih (i + 1) Γ' K) l
theorem seqX_sound {P : Program} {T : List (Nat × TE)} {F Ms : List Nat} (hT : TOk P T) {c : Cx} {ops : Array Oper} {K : Sy → Prop} {Q : Exit → Act → World → Prop} (hQ : ∀ Γ' g' a' w', K Γ' → St c Γ' g' a' w' → Q .normal a' w') :
  ∀ (l : List Oper) (i : Nat) (Γ : Sy) (g : Nat → Value) (a : Act) (w : World), ops.toList.drop i = l → seqX P T F Ms c.n ops l i Γ K → St c Γ g a w → wpOps P ops Q (List.range' i l.length) a w
 | [], i, Γ, g, a, w, _, h, hst => hQ Γ g a w h hst
 | o :: r, i, Γ, g, a, w, hl, h, hst => by
  have hoi : ops[i]? = some o := by
   have : ops.toList[i]? = some o := by
    have := congrArg (fun l => l[0]?) hl
    simpa [List.getElem?_drop] using this
   simpa using this
  have hr : ops.toList.drop (i + 1) = r := by
   have := congrArg List.tail hl
   simpa [List.tail_drop] using this
  have h : stepX P T F Ms c.n ops i o Γ (fun Γ' => seqX P T F Ms c.n ops r (i + 1) Γ' K) := h
  obtain ⟨Γ', h1, h2⟩ := stepX_sound hT hoi h
  rw [List.length_cons, List.range'_succ, wpOps_cons]
  exact h1 Q g a w _ hst fun g' a' w' hs' => seqX_sound hT hQ r (i + 1) Γ' g' a' w' hr h2 hs'
theorem W.regionX {P : Program} {n : Nat} {Q : Exit → Sy → Prop} {Γ : Sy} {T : List (Nat × TE)} (hT : TOk P T) (F Ms : List Nat) {id : Nat} {ops : Array Oper} (h : seqX P T F Ms n ops ops.toList 0 Γ (Q .normal)) : W P n (.region id ops false) Γ Q := by
 refine ⟨fun c g a w hn hst => wp_region ?_⟩
 rw [List.range_eq_range']
 have := seqX_sound (c := c) (ops := ops) (Q := fun e a' w' => ∃ Γ' g', Q e Γ' ∧ St c Γ' g' a' w') hT (fun Γ' g' a' w' h1 h2 => ⟨Γ', g', h1, h2⟩) ops.toList 0 Γ g a w (by simp) (by rw [hn]; exact h) hst
 simpa using this
end Go.Vc
namespace Go.Rg
abbrev Ct := Int × Int × Int
variable {n m0 : Nat} {num : Nat → Int} {M : Int} {r : Rn} {c : Ct}
def p2 (x : Nt) : Int := if x.1 = 2 then 1 else 0
variable {n m0 : Nat} {num : Nat → Int} {M : Int} {R : Nat} {r : Rn} {c : Ct}
def fin (pet : Bool) (n R : Nat) (c : Ct) : Prop := c.2.2 = n ∧ (pet = false → c.2.1 = 0 ∧ (n : Int) ≤ c.1 ∧ 2 * c.1 ≤ n * (n + 1)) ∧ (pet = true → c.1 + c.2.1 = n * (2 * R + 1))
variable {pet : Bool} {n m0 : Nat} {num : Nat → Int} {M : Int} {R : Nat} {r : Rn} {c : Ct}
structure Nb (l : List Int) : Prop where
 l0 : 1 ≤ l.length
 l1 : l.length ≤ 10
 rg : ∀ i, i < l.length → 1 ≤ l.getD i 0 ∧ l.getD i 0 ≤ 1000
 dif : ∀ i j, i < l.length → j < l.length → l.getD i 0 = l.getD j 0 → i = j
def nbs (xs : List Int) : Nat → List Int
 | 0 => []
 | k + 1 => if (nbs xs k).length < 10 ∧ xs.getD k 0 % 1000 + 1 ∉ nbs xs k then nbs xs k ++ [xs.getD k 0 % 1000 + 1] else nbs xs k
def nbl (l : List Int) : List Int := if l.length = 0 then [5] else l
theorem getD_app {l : List Int} {x : Int} (i : Nat) (hi : i < l.length + 1) : (l ++ [x]).getD i 0 = if i = l.length then x else l.getD i 0 := by
 rw [List.getD_eq_getElem?_getD, List.getD_eq_getElem?_getD]
 by_cases e : i = l.length
 · rw [if_pos e, e, List.getElem?_append_right (Nat.le_refl _), Nat.sub_self]; rfl
 · rw [if_neg e, List.getElem?_append_left (by omega)]
theorem mem_getD {l : List Int} {i : Nat} (hi : i < l.length) : l.getD i 0 ∈ l := by
 rw [List.getD_eq_getElem?_getD, List.getElem?_eq_getElem hi]; exact List.getElem_mem hi
structure Nb0 (l : List Int) : Prop where
 l1 : l.length ≤ 10
 rg : ∀ i, i < l.length → 1 ≤ l.getD i 0 ∧ l.getD i 0 ≤ 1000
 dif : ∀ i j, i < l.length → j < l.length → l.getD i 0 = l.getD j 0 → i = j
theorem nbs_ok {xs : List Int} : ∀ k, Nb0 (nbs xs k)
 | 0 => ⟨Nat.zero_le _, fun i hi => absurd hi (Nat.not_lt_zero _), fun i j hi => absurd hi (Nat.not_lt_zero _)⟩
 | k + 1 => by
  have ih := nbs_ok (xs := xs) k
  rw [nbs]
  split
  · rename_i h
    obtain ⟨h1, h2⟩ := h
    have em := Int.emod_nonneg (xs.getD k 0) (b := 1000) (by decide)
    have el := Int.emod_lt_of_pos (xs.getD k 0) (b := 1000) (by decide)
    refine ⟨by rw [List.length_append, List.length_singleton]; omega, fun i hi => ?_, fun i j hi hj e => ?_⟩
    · rw [List.length_append, List.length_singleton] at hi
      rw [getD_app i hi]
      split
      · omega
      · exact ih.rg i (by omega)
    · rw [List.length_append, List.length_singleton] at hi hj
      rw [getD_app i hi, getD_app j hj] at e
      split at e
      · split at e
        · omega
        · exact absurd (e ▸ mem_getD (by omega)) h2
      · split at e
        · exact absurd (e ▸ mem_getD (by omega)) h2
        · exact ih.dif i j (by omega) (by omega) e
  · exact ih
theorem nbl_ok {l : List Int} (h : Nb0 l) : Nb (nbl l) := by
 unfold nbl
 split
 · refine ⟨by decide, by decide, fun i hi => ?_, fun i j hi hj _ => ?_⟩
   · have e : i = 0 := by have hi : i < 1 := hi; omega
     subst e; exact ⟨by decide, by decide⟩
   · have hi : i < 1 := hi
     have hj : j < 1 := hj
     omega
 · exact ⟨by omega, h.l1, h.rg, h.dif⟩
theorem Nb.good {l : List Int} (h : Nb l) {i : Nat} (hi : i < l.length) : 1 ≤ l.getD i 0 ∧ l.getD i 0 ≤ 1000 ∧ l.getD i 0 ∉ l.take i := by
 refine ⟨(h.rg i hi).1, (h.rg i hi).2, fun hm => ?_⟩
 obtain ⟨j, hj, e⟩ := List.mem_iff_getElem.1 hm
 rw [List.length_take] at hj
 rw [List.getElem_take] at e
 have := h.dif j i (by omega) hi (by rw [List.getD_eq_getElem?_getD, List.getElem?_eq_getElem (by omega)]; exact e)
 omega
end Go.Rg
