/- Joined of: K12 K11 K13 R1 R6. No condition. -/
import Derived.Test.YtkjcnegkdlmapaaJ7
import Derived.Test.YtkjcnegkdlmapaaJ5

namespace Go.Proofs.Ytkjcnegkdlmapaa
open Go Go.Vc Go.Rg
set_option linter.unusedVariables false
set_option linter.unusedSimpArgs false
variable {hs : List Hd} {fl : List Lt}
theorem cmp_same (x : Lt) : (!(decide (x.1 = x.1) && (decide (x.2.1 = x.2.1) && (x.2.2.1 == x.2.2.1 && true)))) = false := by simp
theorem pick_same (a : Bool) (b c : Int) (x y : Operand) : (pickB (pickB (a != a) (Operand.const (Value.bool true)) x true !decide (b = b)) (Operand.const (Value.bool true)) y true !decide (c = c)) = false := by simp [pickB]
set_option maxHeartbeats 16000000 in
theorem works_at (h0 : 0 < hs.length) (hn : hs.length ≤ 1000) (hfl : fl.length ≤ 1000) : FnM Try.prog 18 [.padr 1000000000 0, .padr 1000000003 0] [(1000000000, .box [.own 1000000001, .own 1000000002]), (1000000001, .row 96 HT true (hs)), (1000000002, .row 50 LT true (fl)), (1000000003, .box [.own 1000000004, .own 1000000005]), (1000000004, .row 93 HT true (hs)), (1000000005, .row 50 LT true (fl))] (.lit (.bool true)) [(1000000000, .box [.own 1000000001, .own 1000000002]), (1000000001, .row 96 HT true (hs)), (1000000002, .row 50 LT true (fl)), (1000000003, .box [.own 1000000004, .own 1000000005]), (1000000004, .row 93 HT true (hs)), (1000000005, .row 50 LT true (fl))] := by
  have hl : @List.length HT.T hs = hs.length := rfl
  have hlf : @List.length LT.T fl = fl.length := rfl
  have c1 := flight_at (fl := fl) h0 hfl
  have c2 := ended_at (hs := hs) (fl := fl) (b := endB (hs, fl)) h0 rfl
  have c3 := rended_at (hs := hs) (fl := fl) (b := endB (hs, fl)) h0 rfl
  have d1 := working_out (hs := hs) (fl := fl) (i := -1) h0 (has_no (by omega))
  have d2 := parent_out (hs := hs) (fl := fl) (i := -1) h0 (has_no (by omega))
  have d3 := owed_out (hs := hs) (fl := fl) (i := -1) h0 (has_no (by omega))
  have d4 := working_out (hs := hs) (fl := fl) (i := (hs.length : Int)) h0 (has_no (by omega))
  have d5 := parent_out (hs := hs) (fl := fl) (i := (hs.length : Int)) h0 (has_no (by omega))
  have d6 := owed_out (hs := hs) (fl := fl) (i := (hs.length : Int)) h0 (has_no (by omega))
  refine FnM.of_body tys_ok Try.func18 (by rfl) rfl Try.ntmps18 (by rw [Try.results18]) (by simp) ?_
  
  repeat' (first
 | refine W.seq ?_
 | refine W.block ?_
 | (refine W.regionM (id := 1) tys_ok [] [1] ?_; conv => whnf)
 | (refine W.regionM (id := 2) tys_ok [] [10,12] ?_; conv => whnf)
 | (refine W.region tys_ok [] ?_; conv => whnf)
 | (refine W.drawAll tys_ok [] mixed rfl ?_; conv => whnf)
 | (refine W.ret ?_; conv => whnf)
 | (refine W.skip ?_; conv => whnf)
 | (refine W.exit ?_; conv => whnf)
 | (refine callM_at (c1) ?_; conv => whnf)
 | (refine callM_at (c2) ?_; conv => whnf)
 | (refine callM_at (c3) ?_; conv => whnf)
 | (refine W.cond rfl (fun hb => ?_) (fun hb => ?_) <;> (try simp only [Int.reduceToNat, Int.reduceTDiv, Int.reduceTMod, minL, maxL, pickB, zHB, zSH] at hb) <;> (try (first | (cases hb; done) | exact absurd hb (by decide) | (exfalso; omega) | (omega) | ((simp at hb; done)))))
 | (refine Or.inl (And.intro ?_ ?_); (focus (first | exact trivial | exact ⟨rfl, trivial⟩ | (refine ⟨?_, trivial⟩; dsimp only; simp only [Int.reduceToNat, Int.reduceTDiv, Int.reduceTMod, minL, maxL, pickB, zHB, zSH]; omega) | (refine ⟨?_, trivial⟩; dsimp only; (try simp only [Int.reduceToNat, Int.reduceTDiv, Int.reduceTMod, minL, maxL, pickB, zHB, zSH]); (simp_all; done)) | (refine ⟨?_, trivial⟩; dsimp only; (simp only [Int.reduceToNat, Int.reduceTDiv, Int.reduceTMod, minL, maxL, pickB, zHB, zSH]; done)) | (refine ⟨?_, trivial⟩; dsimp only; (simp; done)))); (conv => whnf))
 | (refine Or.inr (And.intro ?_ ?_); (focus (intro h; have h := h.1; dsimp only at h; first | (exact Bool.noConfusion h) | (simp only [Int.reduceToNat, Int.reduceTDiv, Int.reduceTMod, minL, maxL, pickB, zHB, zSH] at h; omega) | ((try simp only [Int.reduceToNat, Int.reduceTDiv, Int.reduceTMod, minL, maxL, pickB, zHB, zSH] at h); (simp_all; done)))); (conv => whnf))
 | ((with_reducible refine And.intro ?_ ?_); (focus (first | (with_reducible rfl) | omega | rfl | ((try simp only [Int.reduceToNat, Int.reduceTDiv, Int.reduceTMod, minL, maxL, pickB, zHB, zSH, InK, Path.imp, zL] at *); omega))); (conv => whnf))
 | ((with_reducible refine And.intro (Side.out ?_) ?_); rotate_left; (conv => whnf))
 | ((first | refine retM1 ?_ | refine retM2 ?_) <;> (conv => whnf) <;> repeat' (first
 | exact trivial
 | (with_reducible rfl)
 | ((with_reducible refine And.intro ?_ ?_) <;> conv => whnf)
 | omega
 | rfl
 | (refine congrArg (SV.arr _) ?_)
 | (refine congrArg (Value.int _) ?_)
 | (refine congrArg Value.bool ?_)))); all_goals (try unfold Side)
  all_goals try (repeat' (first | (with_reducible rfl) | (with_reducible refine And.intro ?_ ?_) | omega | rfl | exact Or.inl rfl | exact Or.inr rfl | exact of_decide_eq_true rfl | exact Path.imp_of (of_decide_eq_true rfl) | (focus ((try simp only [Int.reduceToNat, Int.reduceTDiv, Int.reduceTMod, minL, maxL, pickB, zHB, zSH, InK, Path.imp, zL] at *); omega)) | (refine app_le rfl ?_; omega)))
  refine W.loop (fun i : Nat => ⟨[(0, .padr 1000000000 0), (1, .padr 1000000003 0), (5, .own 7000), (6, .lit (.int .i64 (i)))], [(7000, .row 50 LT true fl), (1000000000, .box [.own 1000000001, .own 1000000002]), (1000000001, .row 96 HT true (hs)), (1000000002, .row 50 LT true (fl)), (1000000003, .box [.own 1000000004, .own 1000000005]), (1000000004, .row 93 HT true (hs)), (1000000005, .row 50 LT true (fl))]⟩) (fun i => i ≤ fl.length) (fun i => fl.length - i) (0) ?_ ?_
  · refine ⟨Nat.zero_le _, ?_⟩
    refine subF.ok ?_ <;> (conv => whnf) <;> repeat' (first
 | exact trivial
 | (with_reducible rfl)
 | ((with_reducible refine And.intro ?_ ?_) <;> conv => whnf)
 | omega
 | rfl
 | (refine congrArg (SV.arr _) ?_)
 | (refine congrArg (Value.int _) ?_)
 | (refine congrArg Value.bool ?_))
  · intro i hi
    by_cases hil : i < fl.length
    · repeat' (first
 | refine W.seq ?_
 | refine W.block ?_
 | (refine W.drawPhTo (id := 7) tys_ok [] mixed [0, 0, 3, 4, 0, 16, 32, 64, 0, 384, 512, 1032] [([0, 1, 2, 4, 5, 6, 8], 4, 2047), ([11], 0, 4095)] ⟨[(0, .padr 1000000000 0), (1, .padr 1000000003 0), (5, .own 7000), (6, .lit (.int .i64 (i))), (44, .lit (.bool false))], [(7000, .row 50 LT true fl), (1000000000, .box [.own 1000000001, .own 1000000002]), (1000000001, .row 96 HT true (hs)), (1000000002, .row 50 LT true (fl)), (1000000003, .box [.own 1000000004, .own 1000000005]), (1000000004, .row 93 HT true (hs)), (1000000005, .row 50 LT true (fl))]⟩ (by decide +kernel) ?_ ?_ <;> (conv => whnf))
 | (refine W.region tys_ok [] ?_; conv => whnf)
 | (refine W.drawAll tys_ok [] mixed rfl ?_; conv => whnf)
 | (refine W.ret ?_; conv => whnf)
 | (refine W.skip ?_; conv => whnf)
 | (refine W.exit ?_; conv => whnf)
 | (refine Both.mk ?_ ?_ <;> (conv => whnf))
 | (refine W.cond rfl (fun hb => ?_) (fun hb => ?_) <;> (try simp only [Int.reduceToNat, Int.reduceTDiv, Int.reduceTMod, minL, maxL, pickB, zHB, zSH] at hb) <;> (try (first | (cases hb; done) | exact absurd hb (by decide) | (exfalso; omega) | (omega) | ((simp at hb; done)))))
 | ((with_reducible refine And.intro ?_ ?_); (focus (first | (with_reducible rfl) | omega | rfl | ((try simp only [Int.reduceToNat, Int.reduceTDiv, Int.reduceTMod, minL, maxL, pickB, zHB, zSH, InK, Path.imp, zL] at *); omega))); (conv => whnf))
 | ((with_reducible refine And.intro (Side.out ?_) ?_); rotate_left; (conv => whnf))
 | ((first | refine retM1 ?_ | refine retM2 ?_ | refine subF.leaf ?_ | refine subF.side ?_) <;> (conv => whnf) <;> repeat' (first
 | exact trivial
 | (with_reducible rfl)
 | ((with_reducible refine And.intro ?_ ?_) <;> conv => whnf)
 | omega
 | rfl
 | (refine congrArg (SV.arr _) ?_)
 | (refine congrArg (Value.int _) ?_)
 | (refine congrArg Value.bool ?_)))); all_goals (try unfold Side)
      all_goals try (repeat' (first | (with_reducible rfl) | (with_reducible refine And.intro ?_ ?_) | omega | rfl | exact Or.inl rfl | exact Or.inr rfl | exact of_decide_eq_true rfl | exact Path.imp_of (of_decide_eq_true rfl) | (focus ((try simp only [Int.reduceToNat, Int.reduceTDiv, Int.reduceTMod, minL, maxL, pickB, zHB, zSH, InK, Path.imp, zL] at *); omega)) | (refine app_le rfl ?_; omega)))
      all_goals first | exact cmp_same _ | skip
      refine ⟨i + 1, ⟨by omega, by omega⟩, ?_⟩
      refine subF.ok ?_ <;> (conv => whnf) <;> repeat' (first
 | exact trivial
 | (with_reducible rfl)
 | ((with_reducible refine And.intro ?_ ?_) <;> conv => whnf)
 | omega
 | rfl
 | (refine congrArg (SV.arr _) ?_)
 | (refine congrArg (Value.int _) ?_)
 | (refine congrArg Value.bool ?_))
    · repeat' (first
 | refine W.seq ?_
 | refine W.block ?_
 | (refine W.region tys_ok [] ?_; conv => whnf)
 | (refine W.drawAll tys_ok [] mixed rfl ?_; conv => whnf)
 | (refine W.ret ?_; conv => whnf)
 | (refine W.skip ?_; conv => whnf)
 | (refine W.exit ?_; conv => whnf)
 | (refine W.cond rfl (fun hb => ?_) (fun hb => ?_) <;> (try simp only [Int.reduceToNat, Int.reduceTDiv, Int.reduceTMod, minL, maxL, pickB, zHB, zSH] at hb) <;> (try (first | (cases hb; done) | exact absurd hb (by decide) | (exfalso; omega) | (omega))))
 | ((with_reducible refine And.intro ?_ ?_); (focus (first | (with_reducible rfl) | omega | rfl | ((try simp only [Int.reduceToNat, Int.reduceTDiv, Int.reduceTMod, minL, maxL, pickB, zHB, zSH, InK, Path.imp, zL] at *); omega))); (conv => whnf))
 | ((with_reducible refine And.intro (Side.out ?_) ?_); rotate_left; (conv => whnf))
 | ((first | refine retM1 ?_ | refine retM2 ?_) <;> (conv => whnf) <;> repeat' (first
 | exact trivial
 | (with_reducible rfl)
 | ((with_reducible refine And.intro ?_ ?_) <;> conv => whnf)
 | omega
 | rfl
 | (refine congrArg (SV.arr _) ?_)
 | (refine congrArg (Value.int _) ?_)
 | (refine congrArg Value.bool ?_)))); all_goals (try unfold Side)
      all_goals try (repeat' (first | (with_reducible rfl) | (with_reducible refine And.intro ?_ ?_) | omega | rfl | exact Or.inl rfl | exact Or.inr rfl | exact of_decide_eq_true rfl | exact Path.imp_of (of_decide_eq_true rfl) | (focus ((try simp only [Int.reduceToNat, Int.reduceTDiv, Int.reduceTMod, minL, maxL, pickB, zHB, zSH, InK, Path.imp, zL] at *); omega)) | (refine app_le rfl ?_; omega)))
      refine W.loop (fun i : Nat => ⟨[(0, .padr 1000000000 0), (1, .padr 1000000003 0), (7, .lit (.int .i64 (i)))], [(1000000000, .box [.own 1000000001, .own 1000000002]), (1000000001, .row 96 HT true (hs)), (1000000002, .row 50 LT true (fl)), (1000000003, .box [.own 1000000004, .own 1000000005]), (1000000004, .row 93 HT true (hs)), (1000000005, .row 50 LT true (fl))]⟩) (fun i => i ≤ hs.length) (fun i => hs.length - i) (0) ?_ ?_
      · refine ⟨Nat.zero_le _, ?_⟩
        refine subF.ok ?_ <;> (conv => whnf) <;> repeat' (first
 | exact trivial
 | (with_reducible rfl)
 | ((with_reducible refine And.intro ?_ ?_) <;> conv => whnf)
 | omega
 | rfl
 | (refine congrArg (SV.arr _) ?_)
 | (refine congrArg (Value.int _) ?_)
 | (refine congrArg Value.bool ?_))
      · intro i hi2
        by_cases hi3 : i < hs.length
        · have g1 := working_in (hs := hs) (fl := fl) (i := i) hi3
          have g2 := parent_in (hs := hs) (fl := fl) (i := i) hi3
          have g3 := owed_in (hs := hs) (fl := fl) (i := i) hi3
          repeat' (first
 | refine W.seq ?_
 | refine W.block ?_
 | (refine W.resub (x := Code.region 13 _ _) (Γ' := ⟨[(0, .padr 1000000000 0), (1, .padr 1000000003 0), (7, .lit (.int .i64 (i))), (8, .padr 9000 0)], [(1000000000, .box [.own 1000000001, .own 1000000002]), (1000000001, .row 96 HT true (hs)), (1000000002, .row 50 LT true (fl)), (1000000003, .box [.own 1000000004, .own 1000000005]), (1000000004, .row 93 HT true (hs)), (1000000005, .row 50 LT true (fl)), (9000, .box [.lit (.bool (gw hs i)), .lit (.bool (ge hs i)), (.lit (.int .i64 (gp hs i : Int))), (.lit (.int .i64 (go hs i : Int)))])]⟩) ?_ ?_; rotate_left; refine W.drawMTo (id := 13) tys_ok [] [2, 9, 17] mixed [0, 0, 3, 0, 8, 20, 36, 64, 64, 448, 64, 1088, 2624, 4160, 8704, 16384, 16384, 114688, 16384, 278528, 671744, 1064960] [([0, 1, 3], 2, 31), ([5, 6, 7, 8, 10], 2, 4095), ([12, 13, 14, 15, 16, 18], 2, 1048575), ([20, 21], 0, 4194303)] ⟨[(0, .padr 1000000000 0), (1, .padr 1000000003 0), (7, .lit (.int .i64 (i))), (82, .lit (.bool false))], [(1000000000, .box [.own 1000000001, .own 1000000002]), (1000000001, .row 96 HT true (hs)), (1000000002, .row 50 LT true (fl)), (1000000003, .box [.own 1000000004, .own 1000000005]), (1000000004, .row 93 HT true (hs)), (1000000005, .row 50 LT true (fl))]⟩ (by decide +kernel) ?_ ?_; (conv => whnf); rotate_left; (conv => whnf))
 | (refine W.region tys_ok [] ?_; conv => whnf)
 | (refine W.drawAll tys_ok [] mixed rfl ?_; conv => whnf)
 | (refine W.ret ?_; conv => whnf)
 | (refine W.skip ?_; conv => whnf)
 | (refine W.exit ?_; conv => whnf)
 | (refine callM_at (g1) ?_; conv => whnf)
 | (refine callM_at (g2) ?_; conv => whnf)
 | (refine callM_at (g3) ?_; conv => whnf)
 | (refine Both.mk ?_ ?_ <;> (conv => whnf))
 | (refine W.cond rfl (fun hb => ?_) (fun hb => ?_) <;> (try simp only [Int.reduceToNat, Int.reduceTDiv, Int.reduceTMod, minL, maxL, pickB, zHB, zSH] at hb) <;> (try (first | (cases hb; done) | exact absurd hb (by decide) | (exfalso; omega) | (omega) | ((simp at hb; done)))))
 | (refine Or.inl (And.intro ?_ ?_); (focus (first | exact trivial | exact ⟨rfl, trivial⟩ | (refine ⟨?_, trivial⟩; dsimp only; simp only [Int.reduceToNat, Int.reduceTDiv, Int.reduceTMod, minL, maxL, pickB, zHB, zSH]; omega) | (refine ⟨?_, trivial⟩; dsimp only; (try simp only [Int.reduceToNat, Int.reduceTDiv, Int.reduceTMod, minL, maxL, pickB, zHB, zSH]); (simp_all; done)) | (refine ⟨?_, trivial⟩; dsimp only; (simp only [Int.reduceToNat, Int.reduceTDiv, Int.reduceTMod, minL, maxL, pickB, zHB, zSH]; done)) | (refine ⟨?_, trivial⟩; dsimp only; (simp; done)))); (conv => whnf))
 | (refine Or.inr (And.intro ?_ ?_); (focus (intro h; have h := h.1; dsimp only at h; first | (exact Bool.noConfusion h) | (simp only [Int.reduceToNat, Int.reduceTDiv, Int.reduceTMod, minL, maxL, pickB, zHB, zSH] at h; omega) | ((try simp only [Int.reduceToNat, Int.reduceTDiv, Int.reduceTMod, minL, maxL, pickB, zHB, zSH] at h); (simp_all; done)))); (conv => whnf))
 | ((with_reducible refine And.intro ?_ ?_); (focus (first | (with_reducible rfl) | omega | rfl | ((try simp only [Int.reduceToNat, Int.reduceTDiv, Int.reduceTMod, minL, maxL, pickB, zHB, zSH, InK, Path.imp, zL] at *); omega))); (conv => whnf))
 | ((with_reducible refine And.intro (Side.out ?_) ?_); rotate_left; (conv => whnf))
 | ((first | refine retM1 ?_ | refine retM2 ?_ | refine subF.leaf ?_ | refine subF.side ?_) <;> (conv => whnf) <;> repeat' (first
 | exact trivial
 | (with_reducible rfl)
 | ((with_reducible refine And.intro ?_ ?_) <;> conv => whnf)
 | omega
 | rfl
 | (refine congrArg (SV.arr _) ?_)
 | (refine congrArg (Value.int _) ?_)
 | (refine congrArg Value.bool ?_)))); all_goals (try unfold Side)
          all_goals try (repeat' (first | (with_reducible rfl) | (with_reducible refine And.intro ?_ ?_) | omega | rfl | exact Or.inl rfl | exact Or.inr rfl | exact of_decide_eq_true rfl | exact Path.imp_of (of_decide_eq_true rfl) | (focus ((try simp only [Int.reduceToNat, Int.reduceTDiv, Int.reduceTMod, minL, maxL, pickB, zHB, zSH, InK, Path.imp, zL] at *); omega)) | (refine app_le rfl ?_; omega)))
          all_goals first | exact pick_same _ _ _ _ _ | skip
          refine ⟨i + 1, ⟨by omega, by omega⟩, ?_⟩
          refine subF.ok ?_ <;> (conv => whnf) <;> repeat' (first
 | exact trivial
 | (with_reducible rfl)
 | ((with_reducible refine And.intro ?_ ?_) <;> conv => whnf)
 | omega
 | rfl
 | (refine congrArg (SV.arr _) ?_)
 | (refine congrArg (Value.int _) ?_)
 | (refine congrArg Value.bool ?_))
        · repeat' (first
 | refine W.seq ?_
 | refine W.block ?_
 | (refine W.regW (id := 16) ?_; refine RegW.cut tys_ok [] [1,5,10,16,22,28] 8 ⟨[(0, .padr 1000000000 0), (1, .padr 1000000003 0), (9, (.lit (.int .i64 (hs.length : Int)))), (95, .lit (.bool true))], [(1000000000, .box [.own 1000000001, .own 1000000002]), (1000000001, .row 96 HT true (hs)), (1000000002, .row 50 LT true (fl)), (1000000003, .box [.own 1000000004, .own 1000000005]), (1000000004, .row 93 HT true (hs)), (1000000005, .row 50 LT true (fl))]⟩ rfl ?_ ?_; (conv => whnf); rotate_left; refine RegW.cut tys_ok [] [1,5,10,16,22,28] 13 ⟨[(0, .padr 1000000000 0), (1, .padr 1000000003 0), (9, (.lit (.int .i64 (hs.length : Int)))), (100, .lit (.bool true))], [(1000000000, .box [.own 1000000001, .own 1000000002]), (1000000001, .row 96 HT true (hs)), (1000000002, .row 50 LT true (fl)), (1000000003, .box [.own 1000000004, .own 1000000005]), (1000000004, .row 93 HT true (hs)), (1000000005, .row 50 LT true (fl))]⟩ rfl ?_ ?_; (conv => whnf); rotate_left; refine RegW.cut tys_ok [] [1,5,10,16,22,28] 19 ⟨[(0, .padr 1000000000 0), (1, .padr 1000000003 0), (9, (.lit (.int .i64 (hs.length : Int)))), (106, .lit (.bool true))], [(1000000000, .box [.own 1000000001, .own 1000000002]), (1000000001, .row 96 HT true (hs)), (1000000002, .row 50 LT true (fl)), (1000000003, .box [.own 1000000004, .own 1000000005]), (1000000004, .row 93 HT true (hs)), (1000000005, .row 50 LT true (fl))]⟩ rfl ?_ ?_; (conv => whnf); rotate_left; refine RegW.cut tys_ok [] [1,5,10,16,22,28] 25 ⟨[(0, .padr 1000000000 0), (1, .padr 1000000003 0), (9, (.lit (.int .i64 (hs.length : Int)))), (112, .lit (.bool true))], [(1000000000, .box [.own 1000000001, .own 1000000002]), (1000000001, .row 96 HT true (hs)), (1000000002, .row 50 LT true (fl)), (1000000003, .box [.own 1000000004, .own 1000000005]), (1000000004, .row 93 HT true (hs)), (1000000005, .row 50 LT true (fl))]⟩ rfl ?_ ?_; (conv => whnf); rotate_left; refine RegW.fin tys_ok [] [1,5,10,16,22,28] ?_; (conv => whnf))
 | (refine W.region tys_ok [] ?_; conv => whnf)
 | (refine W.drawAll tys_ok [] mixed rfl ?_; conv => whnf)
 | (refine W.ret ?_; conv => whnf)
 | (refine W.skip ?_; conv => whnf)
 | (refine W.exit ?_; conv => whnf)
 | (refine Both.mk ?_ ?_ <;> (conv => whnf))
 | (refine W.cond rfl (fun hb => ?_) (fun hb => ?_) <;> (try simp only [Int.reduceToNat, Int.reduceTDiv, Int.reduceTMod, minL, maxL, pickB, zHB, zSH] at hb) <;> (try (first | (cases hb; done) | exact absurd hb (by decide) | (exfalso; omega) | (omega))))
 | (refine Or.inl (And.intro ?_ ?_); (focus (first | exact trivial | exact ⟨rfl, trivial⟩ | (refine ⟨?_, trivial⟩; dsimp only; simp only [Int.reduceToNat, Int.reduceTDiv, Int.reduceTMod, minL, maxL, pickB, zHB, zSH]; omega) | (refine ⟨?_, trivial⟩; dsimp only; (try simp only [Int.reduceToNat, Int.reduceTDiv, Int.reduceTMod, minL, maxL, pickB, zHB, zSH]); (simp_all; done)) | (refine ⟨?_, trivial⟩; dsimp only; (simp only [Int.reduceToNat, Int.reduceTDiv, Int.reduceTMod, minL, maxL, pickB, zHB, zSH]; done)) | (refine ⟨?_, trivial⟩; dsimp only; (simp; done)))); (conv => whnf))
 | (refine Or.inr (And.intro ?_ ?_); (focus (intro h; have h := h.1; dsimp only at h; first | (exact Bool.noConfusion h) | (simp only [Int.reduceToNat, Int.reduceTDiv, Int.reduceTMod, minL, maxL, pickB, zHB, zSH] at h; omega) | ((try simp only [Int.reduceToNat, Int.reduceTDiv, Int.reduceTMod, minL, maxL, pickB, zHB, zSH] at h); (simp_all; done)))); (conv => whnf))
 | ((with_reducible refine And.intro ?_ ?_); (focus (first | (with_reducible rfl) | omega | rfl | ((try simp only [Int.reduceToNat, Int.reduceTDiv, Int.reduceTMod, minL, maxL, pickB, zHB, zSH, InK, Path.imp, zL] at *); omega))); (conv => whnf))
 | ((with_reducible refine And.intro (Side.out ?_) ?_); rotate_left; (conv => whnf))
 | ((first | refine retM1 ?_ | refine retM2 ?_ | refine subF.leaf ?_ | refine subF.side ?_) <;> (conv => whnf) <;> repeat' (first
 | exact trivial
 | (with_reducible rfl)
 | ((with_reducible refine And.intro ?_ ?_) <;> conv => whnf)
 | omega
 | rfl
 | (refine congrArg (SV.arr _) ?_)
 | (refine congrArg (Value.int _) ?_)
 | (refine congrArg Value.bool ?_)))); all_goals (try unfold Side)
          · repeat' (first
 | refine W.seq ?_
 | refine W.block ?_
 | (refine W.regW (id := 999) ?_; refine RegW.cut tys_ok [] [1] 8 ⟨[(0, .padr 1000000000 0), (1, .padr 1000000003 0), (9, (.lit (.int .i64 (hs.length : Int))))], [(1000000000, .box [.own 1000000001, .own 1000000002]), (1000000001, .row 96 HT true (hs)), (1000000002, .row 50 LT true (fl)), (1000000003, .box [.own 1000000004, .own 1000000005]), (1000000004, .row 93 HT true (hs)), (1000000005, .row 50 LT true (fl))]⟩ rfl ?_ ?_; (conv => whnf); rotate_left; refine RegW.fin tys_ok [] [1] ?_; (conv => whnf))
 | (refine W.region tys_ok [] ?_; conv => whnf)
 | (refine W.drawAll tys_ok [] mixed rfl ?_; conv => whnf)
 | (refine W.ret ?_; conv => whnf)
 | (refine W.skip ?_; conv => whnf)
 | (refine W.exit ?_; conv => whnf)
 | (refine callM_at (d6) ?_; conv => whnf)
 | (refine Both.mk ?_ ?_ <;> (conv => whnf))
 | (refine W.cond rfl (fun hb => ?_) (fun hb => ?_) <;> (try simp only [Int.reduceToNat, Int.reduceTDiv, Int.reduceTMod, minL, maxL, pickB, zHB, zSH] at hb) <;> (try (first | (cases hb; done) | exact absurd hb (by decide) | (exfalso; omega) | (omega))))
 | (refine Or.inl (And.intro ?_ ?_); (focus (first | exact trivial | exact ⟨rfl, trivial⟩ | (refine ⟨?_, trivial⟩; dsimp only; simp only [Int.reduceToNat, Int.reduceTDiv, Int.reduceTMod, minL, maxL, pickB, zHB, zSH]; omega) | (refine ⟨?_, trivial⟩; dsimp only; (try simp only [Int.reduceToNat, Int.reduceTDiv, Int.reduceTMod, minL, maxL, pickB, zHB, zSH]); (simp_all; done)) | (refine ⟨?_, trivial⟩; dsimp only; (simp only [Int.reduceToNat, Int.reduceTDiv, Int.reduceTMod, minL, maxL, pickB, zHB, zSH]; done)) | (refine ⟨?_, trivial⟩; dsimp only; (simp; done)))); (conv => whnf))
 | (refine Or.inr (And.intro ?_ ?_); (focus (intro h; have h := h.1; dsimp only at h; first | (exact Bool.noConfusion h) | (simp only [Int.reduceToNat, Int.reduceTDiv, Int.reduceTMod, minL, maxL, pickB, zHB, zSH] at h; omega) | ((try simp only [Int.reduceToNat, Int.reduceTDiv, Int.reduceTMod, minL, maxL, pickB, zHB, zSH] at h); (simp_all; done)))); (conv => whnf))
 | ((with_reducible refine And.intro ?_ ?_); (focus (first | (with_reducible rfl) | omega | rfl | ((try simp only [Int.reduceToNat, Int.reduceTDiv, Int.reduceTMod, minL, maxL, pickB, zHB, zSH, InK, Path.imp, zL] at *); omega))); (conv => whnf))
 | ((with_reducible refine And.intro (Side.out ?_) ?_); rotate_left; (conv => whnf))
 | ((first | refine retM1 ?_ | refine retM2 ?_ | refine subF.leaf ?_ | refine subF.side ?_) <;> (conv => whnf) <;> repeat' (first
 | exact trivial
 | (with_reducible rfl)
 | ((with_reducible refine And.intro ?_ ?_) <;> conv => whnf)
 | omega
 | rfl
 | (refine congrArg (SV.arr _) ?_)
 | (refine congrArg (Value.int _) ?_)
 | (refine congrArg Value.bool ?_)))); all_goals (try unfold Side)
            all_goals try (repeat' (first | (with_reducible rfl) | (with_reducible refine And.intro ?_ ?_) | omega | rfl | exact Or.inl rfl | exact Or.inr rfl | exact of_decide_eq_true rfl | exact Path.imp_of (of_decide_eq_true rfl) | (focus ((try simp only [Int.reduceToNat, Int.reduceTDiv, Int.reduceTMod, minL, maxL, pickB, zHB, zSH, InK, Path.imp, zL] at *); omega)) | (refine app_le rfl ?_; omega)))
          · repeat' (first
 | refine W.seq ?_
 | refine W.block ?_
 | (refine W.regW (id := 999) ?_; refine RegW.cut tys_ok [] [1] 8 ⟨[(0, .padr 1000000000 0), (1, .padr 1000000003 0), (9, (.lit (.int .i64 (hs.length : Int))))], [(1000000000, .box [.own 1000000001, .own 1000000002]), (1000000001, .row 96 HT true (hs)), (1000000002, .row 50 LT true (fl)), (1000000003, .box [.own 1000000004, .own 1000000005]), (1000000004, .row 93 HT true (hs)), (1000000005, .row 50 LT true (fl))]⟩ rfl ?_ ?_; (conv => whnf); rotate_left; refine RegW.fin tys_ok [] [1] ?_; (conv => whnf))
 | (refine W.region tys_ok [] ?_; conv => whnf)
 | (refine W.drawAll tys_ok [] mixed rfl ?_; conv => whnf)
 | (refine W.ret ?_; conv => whnf)
 | (refine W.skip ?_; conv => whnf)
 | (refine W.exit ?_; conv => whnf)
 | (refine callM_at (d1) ?_; conv => whnf)
 | (refine callM_at (d2) ?_; conv => whnf)
 | (refine Both.mk ?_ ?_ <;> (conv => whnf))
 | (refine W.cond rfl (fun hb => ?_) (fun hb => ?_) <;> (try simp only [Int.reduceToNat, Int.reduceTDiv, Int.reduceTMod, minL, maxL, pickB, zHB, zSH] at hb) <;> (try (first | (cases hb; done) | exact absurd hb (by decide) | (exfalso; omega) | (omega))))
 | (refine Or.inl (And.intro ?_ ?_); (focus (first | exact trivial | exact ⟨rfl, trivial⟩ | (refine ⟨?_, trivial⟩; dsimp only; simp only [Int.reduceToNat, Int.reduceTDiv, Int.reduceTMod, minL, maxL, pickB, zHB, zSH]; omega) | (refine ⟨?_, trivial⟩; dsimp only; (try simp only [Int.reduceToNat, Int.reduceTDiv, Int.reduceTMod, minL, maxL, pickB, zHB, zSH]); (simp_all; done)) | (refine ⟨?_, trivial⟩; dsimp only; (simp only [Int.reduceToNat, Int.reduceTDiv, Int.reduceTMod, minL, maxL, pickB, zHB, zSH]; done)) | (refine ⟨?_, trivial⟩; dsimp only; (simp; done)))); (conv => whnf))
 | (refine Or.inr (And.intro ?_ ?_); (focus (intro h; have h := h.1; dsimp only at h; first | (exact Bool.noConfusion h) | (simp only [Int.reduceToNat, Int.reduceTDiv, Int.reduceTMod, minL, maxL, pickB, zHB, zSH] at h; omega) | ((try simp only [Int.reduceToNat, Int.reduceTDiv, Int.reduceTMod, minL, maxL, pickB, zHB, zSH] at h); (simp_all; done)))); (conv => whnf))
 | ((with_reducible refine And.intro ?_ ?_); (focus (first | (with_reducible rfl) | omega | rfl | ((try simp only [Int.reduceToNat, Int.reduceTDiv, Int.reduceTMod, minL, maxL, pickB, zHB, zSH, InK, Path.imp, zL] at *); omega))); (conv => whnf))
 | ((with_reducible refine And.intro (Side.out ?_) ?_); rotate_left; (conv => whnf))
 | ((first | refine retM1 ?_ | refine retM2 ?_ | refine subF.leaf ?_ | refine subF.side ?_) <;> (conv => whnf) <;> repeat' (first
 | exact trivial
 | (with_reducible rfl)
 | ((with_reducible refine And.intro ?_ ?_) <;> conv => whnf)
 | omega
 | rfl
 | (refine congrArg (SV.arr _) ?_)
 | (refine congrArg (Value.int _) ?_)
 | (refine congrArg Value.bool ?_)))); all_goals (try unfold Side)
            all_goals try (repeat' (first | (with_reducible rfl) | (with_reducible refine And.intro ?_ ?_) | omega | rfl | exact Or.inl rfl | exact Or.inr rfl | exact of_decide_eq_true rfl | exact Path.imp_of (of_decide_eq_true rfl) | (focus ((try simp only [Int.reduceToNat, Int.reduceTDiv, Int.reduceTMod, minL, maxL, pickB, zHB, zSH, InK, Path.imp, zL] at *); omega)) | (refine app_le rfl ?_; omega)))
          · repeat' (first
 | refine W.seq ?_
 | refine W.block ?_
 | (refine W.regW (id := 999) ?_; refine RegW.cut tys_ok [] [1] 8 ⟨[(0, .padr 1000000000 0), (1, .padr 1000000003 0), (9, (.lit (.int .i64 (hs.length : Int))))], [(1000000000, .box [.own 1000000001, .own 1000000002]), (1000000001, .row 96 HT true (hs)), (1000000002, .row 50 LT true (fl)), (1000000003, .box [.own 1000000004, .own 1000000005]), (1000000004, .row 93 HT true (hs)), (1000000005, .row 50 LT true (fl))]⟩ rfl ?_ ?_; (conv => whnf); rotate_left; refine RegW.fin tys_ok [] [1] ?_; (conv => whnf))
 | (refine W.region tys_ok [] ?_; conv => whnf)
 | (refine W.drawAll tys_ok [] mixed rfl ?_; conv => whnf)
 | (refine W.ret ?_; conv => whnf)
 | (refine W.skip ?_; conv => whnf)
 | (refine W.exit ?_; conv => whnf)
 | (refine callM_at (d3) ?_; conv => whnf)
 | (refine Both.mk ?_ ?_ <;> (conv => whnf))
 | (refine W.cond rfl (fun hb => ?_) (fun hb => ?_) <;> (try simp only [Int.reduceToNat, Int.reduceTDiv, Int.reduceTMod, minL, maxL, pickB, zHB, zSH] at hb) <;> (try (first | (cases hb; done) | exact absurd hb (by decide) | (exfalso; omega) | (omega))))
 | (refine Or.inl (And.intro ?_ ?_); (focus (first | exact trivial | exact ⟨rfl, trivial⟩ | (refine ⟨?_, trivial⟩; dsimp only; simp only [Int.reduceToNat, Int.reduceTDiv, Int.reduceTMod, minL, maxL, pickB, zHB, zSH]; omega) | (refine ⟨?_, trivial⟩; dsimp only; (try simp only [Int.reduceToNat, Int.reduceTDiv, Int.reduceTMod, minL, maxL, pickB, zHB, zSH]); (simp_all; done)) | (refine ⟨?_, trivial⟩; dsimp only; (simp only [Int.reduceToNat, Int.reduceTDiv, Int.reduceTMod, minL, maxL, pickB, zHB, zSH]; done)) | (refine ⟨?_, trivial⟩; dsimp only; (simp; done)))); (conv => whnf))
 | (refine Or.inr (And.intro ?_ ?_); (focus (intro h; have h := h.1; dsimp only at h; first | (exact Bool.noConfusion h) | (simp only [Int.reduceToNat, Int.reduceTDiv, Int.reduceTMod, minL, maxL, pickB, zHB, zSH] at h; omega) | ((try simp only [Int.reduceToNat, Int.reduceTDiv, Int.reduceTMod, minL, maxL, pickB, zHB, zSH] at h); (simp_all; done)))); (conv => whnf))
 | ((with_reducible refine And.intro ?_ ?_); (focus (first | (with_reducible rfl) | omega | rfl | ((try simp only [Int.reduceToNat, Int.reduceTDiv, Int.reduceTMod, minL, maxL, pickB, zHB, zSH, InK, Path.imp, zL] at *); omega))); (conv => whnf))
 | ((with_reducible refine And.intro (Side.out ?_) ?_); rotate_left; (conv => whnf))
 | ((first | refine retM1 ?_ | refine retM2 ?_ | refine subF.leaf ?_ | refine subF.side ?_) <;> (conv => whnf) <;> repeat' (first
 | exact trivial
 | (with_reducible rfl)
 | ((with_reducible refine And.intro ?_ ?_) <;> conv => whnf)
 | omega
 | rfl
 | (refine congrArg (SV.arr _) ?_)
 | (refine congrArg (Value.int _) ?_)
 | (refine congrArg Value.bool ?_)))); all_goals (try unfold Side)
            all_goals try (repeat' (first | (with_reducible rfl) | (with_reducible refine And.intro ?_ ?_) | omega | rfl | exact Or.inl rfl | exact Or.inr rfl | exact of_decide_eq_true rfl | exact Path.imp_of (of_decide_eq_true rfl) | (focus ((try simp only [Int.reduceToNat, Int.reduceTDiv, Int.reduceTMod, minL, maxL, pickB, zHB, zSH, InK, Path.imp, zL] at *); omega)) | (refine app_le rfl ?_; omega)))
          · repeat' (first
 | refine W.seq ?_
 | refine W.block ?_
 | (refine W.regW (id := 999) ?_; refine RegW.cut tys_ok [] [1] 8 ⟨[(0, .padr 1000000000 0), (1, .padr 1000000003 0), (9, (.lit (.int .i64 (hs.length : Int))))], [(1000000000, .box [.own 1000000001, .own 1000000002]), (1000000001, .row 96 HT true (hs)), (1000000002, .row 50 LT true (fl)), (1000000003, .box [.own 1000000004, .own 1000000005]), (1000000004, .row 93 HT true (hs)), (1000000005, .row 50 LT true (fl))]⟩ rfl ?_ ?_; (conv => whnf); rotate_left; refine RegW.fin tys_ok [] [1] ?_; (conv => whnf))
 | (refine W.region tys_ok [] ?_; conv => whnf)
 | (refine W.drawAll tys_ok [] mixed rfl ?_; conv => whnf)
 | (refine W.ret ?_; conv => whnf)
 | (refine W.skip ?_; conv => whnf)
 | (refine W.exit ?_; conv => whnf)
 | (refine callM_at (d4) ?_; conv => whnf)
 | (refine Both.mk ?_ ?_ <;> (conv => whnf))
 | (refine W.cond rfl (fun hb => ?_) (fun hb => ?_) <;> (try simp only [Int.reduceToNat, Int.reduceTDiv, Int.reduceTMod, minL, maxL, pickB, zHB, zSH] at hb) <;> (try (first | (cases hb; done) | exact absurd hb (by decide) | (exfalso; omega) | (omega))))
 | (refine Or.inl (And.intro ?_ ?_); (focus (first | exact trivial | exact ⟨rfl, trivial⟩ | (refine ⟨?_, trivial⟩; dsimp only; simp only [Int.reduceToNat, Int.reduceTDiv, Int.reduceTMod, minL, maxL, pickB, zHB, zSH]; omega) | (refine ⟨?_, trivial⟩; dsimp only; (try simp only [Int.reduceToNat, Int.reduceTDiv, Int.reduceTMod, minL, maxL, pickB, zHB, zSH]); (simp_all; done)) | (refine ⟨?_, trivial⟩; dsimp only; (simp only [Int.reduceToNat, Int.reduceTDiv, Int.reduceTMod, minL, maxL, pickB, zHB, zSH]; done)) | (refine ⟨?_, trivial⟩; dsimp only; (simp; done)))); (conv => whnf))
 | (refine Or.inr (And.intro ?_ ?_); (focus (intro h; have h := h.1; dsimp only at h; first | (exact Bool.noConfusion h) | (simp only [Int.reduceToNat, Int.reduceTDiv, Int.reduceTMod, minL, maxL, pickB, zHB, zSH] at h; omega) | ((try simp only [Int.reduceToNat, Int.reduceTDiv, Int.reduceTMod, minL, maxL, pickB, zHB, zSH] at h); (simp_all; done)))); (conv => whnf))
 | ((with_reducible refine And.intro ?_ ?_); (focus (first | (with_reducible rfl) | omega | rfl | ((try simp only [Int.reduceToNat, Int.reduceTDiv, Int.reduceTMod, minL, maxL, pickB, zHB, zSH, InK, Path.imp, zL] at *); omega))); (conv => whnf))
 | ((with_reducible refine And.intro (Side.out ?_) ?_); rotate_left; (conv => whnf))
 | ((first | refine retM1 ?_ | refine retM2 ?_ | refine subF.leaf ?_ | refine subF.side ?_) <;> (conv => whnf) <;> repeat' (first
 | exact trivial
 | (with_reducible rfl)
 | ((with_reducible refine And.intro ?_ ?_) <;> conv => whnf)
 | omega
 | rfl
 | (refine congrArg (SV.arr _) ?_)
 | (refine congrArg (Value.int _) ?_)
 | (refine congrArg Value.bool ?_)))); all_goals (try unfold Side)
            all_goals try (repeat' (first | (with_reducible rfl) | (with_reducible refine And.intro ?_ ?_) | omega | rfl | exact Or.inl rfl | exact Or.inr rfl | exact of_decide_eq_true rfl | exact Path.imp_of (of_decide_eq_true rfl) | (focus ((try simp only [Int.reduceToNat, Int.reduceTDiv, Int.reduceTMod, minL, maxL, pickB, zHB, zSH, InK, Path.imp, zL] at *); omega)) | (refine app_le rfl ?_; omega)))
          · repeat' (first
 | refine W.seq ?_
 | refine W.block ?_
 | (refine W.regW (id := 999) ?_; refine RegW.cut tys_ok [] [1] 8 ⟨[(0, .padr 1000000000 0), (1, .padr 1000000003 0), (9, (.lit (.int .i64 (hs.length : Int))))], [(1000000000, .box [.own 1000000001, .own 1000000002]), (1000000001, .row 96 HT true (hs)), (1000000002, .row 50 LT true (fl)), (1000000003, .box [.own 1000000004, .own 1000000005]), (1000000004, .row 93 HT true (hs)), (1000000005, .row 50 LT true (fl))]⟩ rfl ?_ ?_; (conv => whnf); rotate_left; refine RegW.fin tys_ok [] [1] ?_; (conv => whnf))
 | (refine W.region tys_ok [] ?_; conv => whnf)
 | (refine W.drawAll tys_ok [] mixed rfl ?_; conv => whnf)
 | (refine W.ret ?_; conv => whnf)
 | (refine W.skip ?_; conv => whnf)
 | (refine W.exit ?_; conv => whnf)
 | (refine callM_at (d5) ?_; conv => whnf)
 | (refine Both.mk ?_ ?_ <;> (conv => whnf))
 | (refine W.cond rfl (fun hb => ?_) (fun hb => ?_) <;> (try simp only [Int.reduceToNat, Int.reduceTDiv, Int.reduceTMod, minL, maxL, pickB, zHB, zSH] at hb) <;> (try (first | (cases hb; done) | exact absurd hb (by decide) | (exfalso; omega) | (omega))))
 | (refine Or.inl (And.intro ?_ ?_); (focus (first | exact trivial | exact ⟨rfl, trivial⟩ | (refine ⟨?_, trivial⟩; dsimp only; simp only [Int.reduceToNat, Int.reduceTDiv, Int.reduceTMod, minL, maxL, pickB, zHB, zSH]; omega) | (refine ⟨?_, trivial⟩; dsimp only; (try simp only [Int.reduceToNat, Int.reduceTDiv, Int.reduceTMod, minL, maxL, pickB, zHB, zSH]); (simp_all; done)) | (refine ⟨?_, trivial⟩; dsimp only; (simp only [Int.reduceToNat, Int.reduceTDiv, Int.reduceTMod, minL, maxL, pickB, zHB, zSH]; done)) | (refine ⟨?_, trivial⟩; dsimp only; (simp; done)))); (conv => whnf))
 | (refine Or.inr (And.intro ?_ ?_); (focus (intro h; have h := h.1; dsimp only at h; first | (exact Bool.noConfusion h) | (simp only [Int.reduceToNat, Int.reduceTDiv, Int.reduceTMod, minL, maxL, pickB, zHB, zSH] at h; omega) | ((try simp only [Int.reduceToNat, Int.reduceTDiv, Int.reduceTMod, minL, maxL, pickB, zHB, zSH] at h); (simp_all; done)))); (conv => whnf))
 | ((with_reducible refine And.intro ?_ ?_); (focus (first | (with_reducible rfl) | omega | rfl | ((try simp only [Int.reduceToNat, Int.reduceTDiv, Int.reduceTMod, minL, maxL, pickB, zHB, zSH, InK, Path.imp, zL] at *); omega))); (conv => whnf))
 | ((with_reducible refine And.intro (Side.out ?_) ?_); rotate_left; (conv => whnf))
 | ((first | refine retM1 ?_ | refine retM2 ?_ | refine subF.leaf ?_ | refine subF.side ?_) <;> (conv => whnf) <;> repeat' (first
 | exact trivial
 | (with_reducible rfl)
 | ((with_reducible refine And.intro ?_ ?_) <;> conv => whnf)
 | omega
 | rfl
 | (refine congrArg (SV.arr _) ?_)
 | (refine congrArg (Value.int _) ?_)
 | (refine congrArg Value.bool ?_)))); all_goals (try unfold Side)
            all_goals try (repeat' (first | (with_reducible rfl) | (with_reducible refine And.intro ?_ ?_) | omega | rfl | exact Or.inl rfl | exact Or.inr rfl | exact of_decide_eq_true rfl | exact Path.imp_of (of_decide_eq_true rfl) | (focus ((try simp only [Int.reduceToNat, Int.reduceTDiv, Int.reduceTMod, minL, maxL, pickB, zHB, zSH, InK, Path.imp, zL] at *); omega)) | (refine app_le rfl ?_; omega)))
end Go.Proofs.Ytkjcnegkdlmapaa
namespace Go.Proofs.Ytkjcnegkdlmapaa
open Go Go.Vc Go.Rg
set_option linter.unusedVariables false
set_option linter.unusedSimpArgs false
variable {hs : List Hd} {fl : List Lt}
set_option maxHeartbeats 16000000 in
theorem rdeliver_at {k f x : Nat} {b : Bool} {h2 : List Hd} {f2 : List Lt} (hk : k < fl.length) (hfl : fl.length ≤ 1000) (hx : x < hs.length) (hm : fl.getD k L0 = ((f : Int), (x : Int), b, ())) (ho : 0 ≤ go hs x ∧ go hs x ≤ 1000) (h : delL k (hs, fl) = (h2, f2)) :
    FnM Try.prog 41 [.padr 1000000000 0, (.lit (.int .i64 (k : Int)))] [(1000000000, .box [.own 1000000001, .own 5]), (1000000001, .row 93 HT true (hs)), (5, .row 50 LT true (fl))] (.lit (.int .i64 (0 : Int))) [(1000000000, .box [.own 1000000001, .own 5]), (1000000001, .row 93 HT true (h2)), (5, .row 50 LT true (f2))] := by
  have c1 := inB_at (v := (k : Int)) (lo := 0) (hi := (fl.length : Int) - 1) (b := true) (by
    rw [eq_comm, Bool.and_eq_true, decide_eq_true_eq, decide_eq_true_eq]; omega)
  have hel := era_len hk
  have hl : @List.length HT.T hs = hs.length := rfl
  have hlf : @List.length LT.T fl = fl.length := rfl
  have hle : @List.length LT.T (era fl k) = (era fl k).length := rfl
  have hm1 : (fl.getD k L0).1 = (f : Int) := by rw [hm]
  have hm2 : (fl.getD k L0).2.1 = (x : Int) := by rw [hm]
  have hm3 : (fl.getD k L0).2.2.1 = b := by rw [hm]
  have ho' : 0 ≤ (hs.getD x H0).2.2.2.1 ∧ (hs.getD x H0).2.2.2.1 ≤ 1000 := ho
  have h' : (if b = true then settL x (setO hs x (go hs x - 1), era fl k) else if ge hs x = true then (setW hs x true, era fl k ++ [((x : Int), (f : Int), true, ())]) else (hs.set x (true, true, (f : Int), go hs x, ()), era fl k)) = (h2, f2) := by
    rw [← h]; unfold delL; rw [hm1, hm2, hm3, Int.toNat_natCast]
  have c3 := put_at (hs := setW hs x true) (fl := era fl k) (a := (x : Int)) (b := (f : Int)) (c := true) (by omega)
  have d1 : ([] ++ List.drop 0 (List.take k fl) : List Lt) ++ List.drop (k + 1) (List.take fl.length fl) = era fl k := by rw [List.drop_zero, List.take_length]; rfl
  have d2 : (([] : List Lt) ++ List.drop 0 (List.take k fl)).length + (List.drop (k + 1) (List.take fl.length fl)).length ≤ 4294967296 := by simp; omega
  have d3 : ([] : List Lt).length + (List.drop 0 (List.take k fl)).length ≤ 4294967296 := by simp; omega
  cases hb1 : b with
  | true =>
    rw [if_pos hb1] at h'
    have c4 := leave_at (by rw [setO_len]; exact hx) (by omega) h'
    refine FnM.of_body tys_ok Try.func41 (by rfl) rfl Try.ntmps41 (by rw [Try.results41]) (by simp) ?_
  
    repeat' (first
 | refine W.seq ?_
 | refine W.block ?_
 | (refine W.resub (x := Code.region 4 _ _) (Γ' := ⟨[(0, .padr 1000000000 0), (1, .lit (.int .i64 ((k : Int)))), (5, .padr 6000 0)], [(1000000000, .box [.own 1000000001, .st true (.arr LT fl)]), (1000000001, .row 93 HT true (hs)), (6000, .box [(.lit (.int .i64 (f : Int))), (.lit (.int .i64 (x : Int))), .lit (.bool b)])]⟩) ?_ ?_; rotate_left; refine W.drawPhTo (id := 4) tys_ok [] mixed [0, 0, 0, 4, 8, 16, 0, 96, 130, 0, 512, 1024, 2048, 0, 8192, 20480, 33024, 131071, 262143, 393215] [([0, 2, 3, 4, 6, 9, 10, 11, 13, 14], 6, 65535), ([], 1, 131071), ([17, 18], 1, 1048575)] ⟨[(0, .padr 1000000000 0), (5, .padr 6000 0)], [(1000000000, .box [.own 1000000001, .own 5]), (1000000001, .row 93 HT true (hs)), (5, .row 50 LT true (era fl k)), (6000, .box [(.lit (.int .i64 (f : Int))), (.lit (.int .i64 (x : Int))), .lit (.bool b)])]⟩ (by decide +kernel) ?_ ?_; (conv => whnf); rotate_left; (conv => whnf))
 | (refine W.drawPhTo (id := 5) tys_ok [] mixed [0, 1, 2, 4, 0, 16, 40, 127] [([0, 1, 2, 4], 2, 63), ([6, 7], 0, 255)] ⟨[(0, .padr 1000000000 0), (5, .padr 6000 0), (6, .oadr 1000000001 4 x 0)], [(1000000000, .box [.own 1000000001, .own 5]), (1000000001, .row 93 HT true (hs)), (5, .row 50 LT true (era fl k)), (6000, .box [(.lit (.int .i64 (f : Int))), (.lit (.int .i64 (x : Int))), .lit (.bool b)])]⟩ (by decide +kernel) ?_ ?_ <;> (conv => whnf))
 | (refine W.regionM (id := 9) tys_ok [] [3] ?_; conv => whnf)
 | (refine W.region tys_ok [] ?_; conv => whnf)
 | (refine W.drawAll tys_ok [] mixed rfl ?_; conv => whnf)
 | (refine W.ret ?_; conv => whnf)
 | (refine W.skip ?_; conv => whnf)
 | (refine W.exit ?_; conv => whnf)
 | (refine call_at (al := false) (c1) rfl rfl rfl rfl ?_; conv => whnf)
 | (refine callM_at (c4) ?_; conv => whnf)
 | (refine Both.mk ?_ ?_ <;> (conv => whnf))
 | (refine W.cond rfl (fun hb => ?_) (fun hb => ?_) <;> (try simp only [Int.reduceToNat, Int.reduceTDiv, Int.reduceTMod, minL, maxL, pickB, zHB, zSH] at hb) <;> (try (first | (cases hb; done) | exact absurd hb (by decide) | (exfalso; omega) | (omega) | ((simp_all; done)))))
 | (refine Or.inl (And.intro ?_ ?_); (focus (first | exact trivial | exact ⟨rfl, trivial⟩ | (refine ⟨?_, trivial⟩; dsimp only; simp only [Int.reduceToNat, Int.reduceTDiv, Int.reduceTMod, minL, maxL, pickB, zHB, zSH]; omega) | (refine ⟨?_, trivial⟩; dsimp only; (try simp only [Int.reduceToNat, Int.reduceTDiv, Int.reduceTMod, minL, maxL, pickB, zHB, zSH]); (simp_all; done)) | (refine ⟨?_, trivial⟩; dsimp only; (simp only [Int.reduceToNat, Int.reduceTDiv, Int.reduceTMod, minL, maxL, pickB, zHB, zSH]; done)) | (refine ⟨?_, trivial⟩; dsimp only; (simp; done)))); (conv => whnf))
 | (refine Or.inr (And.intro ?_ ?_); (focus (intro h; have h := h.1; dsimp only at h; first | (exact Bool.noConfusion h) | (simp only [Int.reduceToNat, Int.reduceTDiv, Int.reduceTMod, minL, maxL, pickB, zHB, zSH] at h; omega) | ((try simp only [Int.reduceToNat, Int.reduceTDiv, Int.reduceTMod, minL, maxL, pickB, zHB, zSH] at h); (simp_all; done)))); (conv => whnf))
 | ((with_reducible refine And.intro ?_ ?_); (focus (first | (with_reducible rfl) | omega | rfl | ((try simp only [Int.reduceToNat, Int.reduceTDiv, Int.reduceTMod, minL, maxL, pickB, zHB, zSH, InK, Path.imp, zL] at *); omega))); (conv => whnf))
 | ((with_reducible refine And.intro (Side.out ?_) ?_); rotate_left; (conv => whnf))
 | ((first | refine retM1 ?_ | refine retM2 ?_ | refine subF.leaf ?_ | refine subF.side ?_) <;> (conv => whnf) <;> repeat' (first
 | exact trivial
 | (with_reducible rfl)
 | ((with_reducible refine And.intro ?_ ?_) <;> conv => whnf)
 | omega
 | rfl
 | (refine congrArg (SV.arr _) ?_)
 | (refine congrArg (Value.int _) ?_)
 | (refine congrArg Value.bool ?_)))); all_goals (try unfold Side)
    all_goals try (repeat' (first | (with_reducible rfl) | (with_reducible refine And.intro ?_ ?_) | omega | rfl | exact Or.inl rfl | exact Or.inr rfl | exact of_decide_eq_true rfl | exact Path.imp_of (of_decide_eq_true rfl) | (focus ((try simp only [Int.reduceToNat, Int.reduceTDiv, Int.reduceTMod, minL, maxL, pickB, zHB, zSH, InK, Path.imp, zL] at *); omega)) | (refine app_le rfl ?_; omega)))
    all_goals first | exact d1 | exact d2 | exact d3 | exact hm1 | exact hm2 | exact hm3
  | false =>
    have hb2 : ¬ b = true := by rw [hb1]; decide
    rw [if_neg hb2] at h'
    have hgx : (hs.getD x H0).2.1 = ge hs x := rfl
    have h3 : ge hs x = true → h2 = setW hs x true ∧ f2 = era fl k ++ [((x : Int), (f : Int), true, ())] := fun e => by rw [if_pos e] at h'; cases h'; exact ⟨rfl, rfl⟩
    have h4 : ge hs x = false → h2 = hs.set x (true, true, (f : Int), go hs x, ()) ∧ f2 = era fl k := fun e => by rw [if_neg (by rw [e]; decide)] at h'; cases h'; exact ⟨rfl, rfl⟩
    refine FnM.of_body tys_ok Try.func41 (by rfl) rfl Try.ntmps41 (by rw [Try.results41]) (by simp) ?_
  
    repeat' (first
 | refine W.seq ?_
 | refine W.block ?_
 | (refine W.resub (x := Code.region 4 _ _) (Γ' := ⟨[(0, .padr 1000000000 0), (1, .lit (.int .i64 ((k : Int)))), (5, .padr 6000 0)], [(1000000000, .box [.own 1000000001, .st true (.arr LT fl)]), (1000000001, .row 93 HT true (hs)), (6000, .box [(.lit (.int .i64 (f : Int))), (.lit (.int .i64 (x : Int))), .lit (.bool b)])]⟩) ?_ ?_; rotate_left; refine W.drawPhTo (id := 4) tys_ok [] mixed [0, 0, 0, 4, 8, 16, 0, 96, 130, 0, 512, 1024, 2048, 0, 8192, 20480, 33024, 131071, 262143, 393215] [([0, 2, 3, 4, 6, 9, 10, 11, 13, 14], 6, 65535), ([], 1, 131071), ([17, 18], 1, 1048575)] ⟨[(0, .padr 1000000000 0), (5, .padr 6000 0)], [(1000000000, .box [.own 1000000001, .own 5]), (1000000001, .row 93 HT true (hs)), (5, .row 50 LT true (era fl k)), (6000, .box [(.lit (.int .i64 (f : Int))), (.lit (.int .i64 (x : Int))), .lit (.bool b)])]⟩ (by decide +kernel) ?_ ?_; (conv => whnf); rotate_left; (conv => whnf))
 | (refine W.drawPhTo (id := 5) tys_ok [] mixed [0, 1, 2, 4, 0, 16, 40, 127] [([0, 1, 2, 4], 2, 63), ([6, 7], 0, 255)] ⟨[(0, .padr 1000000000 0), (5, .padr 6000 0), (6, .oadr 1000000001 4 x 0)], [(1000000000, .box [.own 1000000001, .own 5]), (1000000001, .row 93 HT true (hs)), (5, .row 50 LT true (era fl k)), (6000, .box [(.lit (.int .i64 (f : Int))), (.lit (.int .i64 (x : Int))), .lit (.bool b)])]⟩ (by decide +kernel) ?_ ?_ <;> (conv => whnf))
 | (refine W.regionM (id := 12) tys_ok [] [6] ?_; conv => whnf)
 | (refine W.drawPhTo (id := 6) tys_ok [] mixed [0, 0, 0, 0, 8, 1, 33, 65, 227, 483, 739, 2047, 4095, 6143] [([0, 1, 2, 3, 5, 6], 5, 2047), ([11, 12], 1, 16383)] ⟨[(0, .padr 1000000000 0)], [(1000000000, .box [.own 1000000001, .own 5]), (1000000001, .row 93 HT true (hs.set x (true, true, (f : Int), go hs x, ()))), (5, .row 50 LT true (era fl k))]⟩ (by decide +kernel) ?_ ?_ <;> (conv => whnf))
 | (refine W.region tys_ok [] ?_; conv => whnf)
 | (refine W.drawAll tys_ok [] mixed rfl ?_; conv => whnf)
 | (refine W.ret ?_; conv => whnf)
 | (refine W.skip ?_; conv => whnf)
 | (refine W.exit ?_; conv => whnf)
 | (refine call_at (al := false) (c1) rfl rfl rfl rfl ?_; conv => whnf)
 | (refine callM_at (c3) ?_; conv => whnf)
 | (refine Both.mk ?_ ?_ <;> (conv => whnf))
 | (refine W.cond rfl (fun hb => ?_) (fun hb => ?_) <;> (try simp only [Int.reduceToNat, Int.reduceTDiv, Int.reduceTMod, minL, maxL, pickB, zHB, zSH] at hb) <;> (try (first | (cases hb; done) | exact absurd hb (by decide) | (exfalso; omega) | (omega) | ((simp_all; done)))))
 | (refine Or.inl (And.intro ?_ ?_); (focus (first | exact trivial | exact ⟨rfl, trivial⟩ | (refine ⟨?_, trivial⟩; dsimp only; simp only [Int.reduceToNat, Int.reduceTDiv, Int.reduceTMod, minL, maxL, pickB, zHB, zSH]; omega) | (refine ⟨?_, trivial⟩; dsimp only; (try simp only [Int.reduceToNat, Int.reduceTDiv, Int.reduceTMod, minL, maxL, pickB, zHB, zSH]); (simp_all; done)) | (refine ⟨?_, trivial⟩; dsimp only; (simp only [Int.reduceToNat, Int.reduceTDiv, Int.reduceTMod, minL, maxL, pickB, zHB, zSH]; done)) | (refine ⟨?_, trivial⟩; dsimp only; (simp; done)))); (conv => whnf))
 | (refine Or.inr (And.intro ?_ ?_); (focus (intro h; have h := h.1; dsimp only at h; first | (exact Bool.noConfusion h) | (simp only [Int.reduceToNat, Int.reduceTDiv, Int.reduceTMod, minL, maxL, pickB, zHB, zSH] at h; omega) | ((try simp only [Int.reduceToNat, Int.reduceTDiv, Int.reduceTMod, minL, maxL, pickB, zHB, zSH] at h); (simp_all; done)))); (conv => whnf))
 | ((with_reducible refine And.intro ?_ ?_); (focus (first | (with_reducible rfl) | omega | rfl | ((try simp only [Int.reduceToNat, Int.reduceTDiv, Int.reduceTMod, minL, maxL, pickB, zHB, zSH, InK, Path.imp, zL] at *); omega))); (conv => whnf))
 | ((with_reducible refine And.intro (Side.out ?_) ?_); rotate_left; (conv => whnf))
 | ((first | refine retM1 ?_ | refine retM2 ?_ | refine subF.leaf ?_ | refine subF.side ?_) <;> (conv => whnf) <;> repeat' (first
 | exact trivial
 | (with_reducible rfl)
 | ((with_reducible refine And.intro ?_ ?_) <;> conv => whnf)
 | omega
 | rfl
 | (refine congrArg (SV.arr _) ?_)
 | (refine congrArg (Value.int _) ?_)
 | (refine congrArg Value.bool ?_)))); all_goals (try unfold Side)
    all_goals try (repeat' (first | (with_reducible rfl) | (with_reducible refine And.intro ?_ ?_) | omega | rfl | exact Or.inl rfl | exact Or.inr rfl | exact of_decide_eq_true rfl | exact Path.imp_of (of_decide_eq_true rfl) | (focus ((try simp only [Int.reduceToNat, Int.reduceTDiv, Int.reduceTMod, minL, maxL, pickB, zHB, zSH, InK, Path.imp, zL] at *); omega)) | (refine app_le rfl ?_; omega)))
    all_goals first | exact d1 | exact d2 | exact d3 | exact hm1 | exact hm2 | exact hm3 | exact st_len1 hx | exact st_len2 hx | exact st_all hx | exact (h3 hb).1.symm | exact (h3 hb).2.symm | exact (h4 hb).1.symm | exact (h4 hb).2.symm
end Go.Proofs.Ytkjcnegkdlmapaa
namespace Go.Proofs.Ytkjcnegkdlmapaa
open Go Go.Vc Go.Rg
set_option linter.unusedVariables false
set_option linter.unusedSimpArgs false
variable {n : Nat} {w w2 : Wk} {e : Int}
theorem send_cases {a b : Int} (h : WOk n w) (he : sendE a b w = e) (hw : sendK a b w = w2) :
    ((hasB w.1.length a && hasB w.1.length b) = false ∧ e = 1 ∧ w2 = w) ∨ ∃ f x : Nat, a = f ∧ b = x ∧ f < w.1.length ∧ x < w.1.length ∧
      ((gw w.1 f = false ∧ e = 5 ∧ w2 = w) ∨ (gw w.1 f = true ∧ 200 ≤ w.2.length ∧ e = 7 ∧ w2 = w) ∨
        (gw w.1 f = true ∧ ¬ 200 ≤ w.2.length ∧ e = 0 ∧ w2 = (setO w.1 f (go w.1 f + 1), w.2 ++ [((f : Int), (x : Int), false, ())]))) := by
  unfold sendK at hw
  rw [he] at hw
  unfold sendE at he
  split at he
  · rename_i h1
    rw [Bool.and_eq_true] at h1
    obtain ⟨f, rfl, hf⟩ := has_nat h1.1
    obtain ⟨x, rfl, hx⟩ := has_nat h1.2
    rw [Int.toNat_natCast] at he hw
    refine .inr ⟨f, x, rfl, rfl, hf, hx, ?_⟩
    split at he
    · rename_i h2
      split at he
      · rename_i h3
        subst he
        rw [if_neg (by decide)] at hw
        exact .inr (.inl ⟨h2, h3, rfl, hw.symm⟩)
      · rename_i h3
        subst he
        rw [if_pos rfl] at hw
        exact .inr (.inr ⟨h2, h3, rfl, hw.symm⟩)
    · rename_i h2
      subst he
      rw [if_neg (by decide)] at hw
      exact .inl ⟨by simpa using h2, rfl, hw.symm⟩
  · rename_i h1
    subst he
    rw [if_neg (by decide)] at hw
    exact .inl ⟨by simpa using h1, rfl, hw.symm⟩
theorem idle_cases {i : Int} (h : WOk n w) (he : idleE i w = e) (hw : idleK i w = w2) :
    (hasB w.1.length i = false ∧ e = 1 ∧ w2 = w) ∨ ∃ f : Nat, i = f ∧ f < w.1.length ∧
      ((gw w.1 f = false ∧ e = 5 ∧ w2 = w) ∨ (gw w.1 f = true ∧ goesI w.1 f = true ∧ 200 ≤ w.2.length ∧ e = 7 ∧ w2 = w) ∨
        (gw w.1 f = true ∧ ¬ (goesI w.1 f = true ∧ 200 ≤ w.2.length) ∧ e = 0 ∧ w2 = settL f (setW w.1 f false, w.2))) := by
  unfold idleK at hw
  rw [he] at hw
  unfold idleE at he
  split at he
  · rename_i h1
    obtain ⟨f, rfl, hf⟩ := has_nat h1
    rw [Int.toNat_natCast] at he hw
    refine .inr ⟨f, rfl, hf, ?_⟩
    split at he
    · rename_i h2
      split at he
      · rename_i h3
        subst he
        rw [if_neg (by decide)] at hw
        exact .inr (.inl ⟨h2, h3.1, h3.2, rfl, hw.symm⟩)
      · rename_i h3
        subst he
        rw [if_pos rfl] at hw
        exact .inr (.inr ⟨h2, h3, rfl, hw.symm⟩)
    · rename_i h2
      subst he
      rw [if_neg (by decide)] at hw
      exact .inl ⟨by simpa using h2, rfl, hw.symm⟩
  · rename_i h1
    subst he
    rw [if_neg (by decide)] at hw
    exact .inl ⟨by simpa using h1, rfl, hw.symm⟩
theorem del_cases {k : Int} (h : WOk n w) (he : delE k w = e) (hw : delK k w = w2) :
    (hasB w.2.length k = false ∧ e = 1 ∧ w2 = w) ∨ ∃ (j f x : Nat) (b : Bool), k = j ∧ j < w.2.length ∧ w.2.getD j L0 = ((f : Int), (x : Int), b, ()) ∧ x < w.1.length ∧ (0 ≤ go w.1 x ∧ go w.1 x ≤ 1000) ∧ e = 0 ∧ w2 = delL j w := by
  unfold delK at hw
  rw [he] at hw
  unfold delE at he
  split at he
  · rename_i h1
    subst he
    rw [if_pos rfl] at hw
    obtain ⟨j, rfl, hj⟩ := has_nat h1
    rw [Int.toNat_natCast] at hw
    obtain ⟨⟨v1, v2⟩, v3, v4⟩ := h.let hj
    obtain ⟨f, hf⟩ : ∃ f : Nat, (f : Int) = (w.2.getD j L0).1 := ⟨(w.2.getD j L0).1.toNat, by omega⟩
    obtain ⟨x, hx⟩ : ∃ x : Nat, (x : Int) = (w.2.getD j L0).2.1 := ⟨(w.2.getD j L0).2.1.toNat, by omega⟩
    have hxl : x < n := by omega
    have := h.owed hxl
    refine .inr ⟨j, f, x, (w.2.getD j L0).2.2.1, rfl, hj, by rw [hf, hx], by rw [h.len]; exact hxl, by omega, rfl, hw.symm⟩
  · rename_i h1
    subst he
    rw [if_neg (by decide)] at hw
    exact .inl ⟨by simpa using h1, rfl, hw.symm⟩
theorem send_at {a b : Int} (h : WOk n w) (he : sendE a b w = e) (hw : sendK a b w = w2) : FnM Try.prog 38 [.padr 1000000000 0, (.lit (.int .i64 (a : Int))), (.lit (.int .i64 (b : Int)))] [(1000000000, .box [.own 1000000001, .own 5]), (1000000001, .row 96 HT true (w).1), (5, .row 50 LT true (w).2)] (.lit (.int .i64 (e : Int))) [(1000000000, .box [.own 1000000001, .own 5]), (1000000001, .row 96 HT true (w2).1), (5, .row 50 LT true (w2).2)] := by
  have h0 : 0 < w.1.length := by rw [h.len]; exact h.n0
  have hf := h.fl
  rcases send_cases h he hw with ⟨h1, rfl, rfl⟩ | ⟨f, x, rfl, rfl, hf, hx, ⟨h1, rfl, rfl⟩ | ⟨h1, h2, rfl, rfl⟩ | ⟨h1, h2, rfl, rfl⟩⟩
  · exact send_arg h0 h1
  · exact send_none hf hx h1
  · exact send_full hf hx h1 h2
  · have := h.owed (i := f) (by rw [← h.len]; exact hf)
    exact send_ok hf hx h1 h2 (by omega)
theorem rsend_at {a b : Int} (h : WOk n w) (he : sendE a b w = e) (hw : sendK a b w = w2) : FnM Try.prog 39 [.padr 1000000000 0, (.lit (.int .i64 (a : Int))), (.lit (.int .i64 (b : Int)))] [(1000000000, .box [.own 1000000001, .own 5]), (1000000001, .row 93 HT true (w).1), (5, .row 50 LT true (w).2)] (.lit (.int .i64 (e : Int))) [(1000000000, .box [.own 1000000001, .own 5]), (1000000001, .row 93 HT true (w2).1), (5, .row 50 LT true (w2).2)] := by
  have h1 : w.1.length ≤ 1000 := by have := h.len; have := h.n1; omega
  have hf := h.fl
  rcases send_cases h he hw with ⟨h2, rfl, rfl⟩ | ⟨f, x, rfl, rfl, hf, hx, ⟨h2, rfl, rfl⟩ | ⟨h2, h3, rfl, rfl⟩ | ⟨h2, h3, rfl, rfl⟩⟩
  · exact rsend_arg h1 h2
  · exact rsend_none h1 hf hx h2
  · exact rsend_full h1 hf hx h2 h3
  · have := h.owed (i := f) (by rw [← h.len]; exact hf)
    exact rsend_ok h1 hf hx h2 h3 (by omega)
theorem idle_at {i : Int} (h : WOk n w) (he : idleE i w = e) (hw : idleK i w = w2) : FnM Try.prog 19 [.padr 1000000000 0, (.lit (.int .i64 (i : Int)))] [(1000000000, .box [.own 1000000001, .own 5]), (1000000001, .row 96 HT true (w).1), (5, .row 50 LT true (w).2)] (.lit (.int .i64 (e : Int))) [(1000000000, .box [.own 1000000001, .own 5]), (1000000001, .row 96 HT true (w2).1), (5, .row 50 LT true (w2).2)] := by
  have h0 : 0 < w.1.length := by rw [h.len]; exact h.n0
  have hf := h.fl
  rcases idle_cases h he hw with ⟨h1, rfl, rfl⟩ | ⟨f, rfl, hf, ⟨h1, rfl, rfl⟩ | ⟨h1, h2, h3, rfl, rfl⟩ | ⟨h1, h2, rfl, rfl⟩⟩
  · exact idle_arg h0 h1
  · exact idle_none hf h1
  · exact idle_full hf h1 h2 h3
  · exact idle_ok hf h1 h2 (by omega) rfl
theorem ridle_at {i : Int} (h : WOk n w) (he : idleE i w = e) (hw : idleK i w = w2) : FnM Try.prog 40 [.padr 1000000000 0, (.lit (.int .i64 (i : Int)))] [(1000000000, .box [.own 1000000001, .own 5]), (1000000001, .row 93 HT true (w).1), (5, .row 50 LT true (w).2)] (.lit (.int .i64 (e : Int))) [(1000000000, .box [.own 1000000001, .own 5]), (1000000001, .row 93 HT true (w2).1), (5, .row 50 LT true (w2).2)] := by
  have h1 : w.1.length ≤ 1000 := by have := h.len; have := h.n1; omega
  have hf := h.fl
  rcases idle_cases h he hw with ⟨h2, rfl, rfl⟩ | ⟨f, rfl, hf, ⟨h2, rfl, rfl⟩ | ⟨h2, h3, h4, rfl, rfl⟩ | ⟨h2, h3, rfl, rfl⟩⟩
  · exact ridle_arg h1 h2
  · exact ridle_none h1 hf h2
  · exact ridle_full h1 hf h2 h3 h4
  · exact ridle_ok h1 hf h2 h3 (by omega) rfl
theorem deliver_at {k : Int} (h : WOk n w) (he : delE k w = e) (hw : delK k w = w2) : FnM Try.prog 21 [.padr 1000000000 0, (.lit (.int .i64 (k : Int)))] [(1000000000, .box [.own 1000000001, .own 5]), (1000000001, .row 96 HT true (w).1), (5, .row 50 LT true (w).2)] (.lit (.int .i64 (e : Int))) [(1000000000, .box [.own 1000000001, .own 5]), (1000000001, .row 96 HT true (w2).1), (5, .row 50 LT true (w2).2)] := by
  have h0 : 0 < w.1.length := by rw [h.len]; exact h.n0
  have hf := h.fl
  rcases del_cases h he hw with ⟨h1, rfl, rfl⟩ | ⟨j, f, x, b, rfl, hj, hm, hx, ho, rfl, rfl⟩
  · exact deliver_arg h0 h1
  · have e0 : delL j w = if b = true then settL x (setO w.1 x (go w.1 x - 1), era w.2 j) else if ge w.1 x = true then (setW w.1 x true, era w.2 j ++ [((x : Int), (f : Int), true, ())]) else (w.1.set x (true, true, (f : Int), go w.1 x, ()), era w.2 j) := by
      unfold delL; rw [hm]; rfl
    rw [e0]
    cases b with
    | true =>
      rw [if_pos rfl]
      exact deliver_ack h0 hj (by omega) hx hm ho rfl
    | false =>
      rw [if_neg (by decide)]
      cases hg : ge w.1 x with
      | true =>
        rw [if_pos rfl]
        exact deliver_eng h0 hj (by omega) hx hm hg
      | false =>
        rw [if_neg (by decide)]
        exact deliver_new h0 hj (by omega) hx hm hg
theorem rdeliver_all {k : Int} (h : WOk n w) (he : delE k w = e) (hw : delK k w = w2) : FnM Try.prog 41 [.padr 1000000000 0, (.lit (.int .i64 (k : Int)))] [(1000000000, .box [.own 1000000001, .own 5]), (1000000001, .row 93 HT true (w).1), (5, .row 50 LT true (w).2)] (.lit (.int .i64 (e : Int))) [(1000000000, .box [.own 1000000001, .own 5]), (1000000001, .row 93 HT true (w2).1), (5, .row 50 LT true (w2).2)] := by
  have hf := h.fl
  rcases del_cases h he hw with ⟨h1, rfl, rfl⟩ | ⟨j, f, x, b, rfl, hj, hm, hx, ho, rfl, rfl⟩
  · exact rdeliver_arg (by omega) h1
  · exact rdeliver_at hj (by omega) hx hm ho rfl
end Go.Proofs.Ytkjcnegkdlmapaa
namespace Go.Proofs.Ytkjcnegkdlmapaa
open Go Go.Vc Go.Rg
set_option linter.unusedVariables false
set_option linter.unusedSimpArgs false
variable {n : Nat} {pet : Bool} {r : Rn}
theorem ris_at : FnM Try.prog 59 [.padr 1000000000 0] [(1000000000, .box [.lit (.bool true), .lit (.bool pet), .own 1000000001, .mown 1000000002, (.lit (.int .i64 ((r).2.2 : Int)))]), (1000000001, .row 105 PT true (r).1), (1000000002, .mat 80 91 NT true (r).2.1 none)] (.lit (.bool true)) [(1000000000, .box [.lit (.bool true), .lit (.bool pet), .own 1000000001, .mown 1000000002, (.lit (.int .i64 ((r).2.2 : Int)))]), (1000000001, .row 105 PT true (r).1), (1000000002, .mat 80 91 NT true (r).2.1 none)] := by
  refine FnM.of_body tys_ok Try.func59 (by rfl) rfl Try.ntmps59 (by rw [Try.results59]) (by simp) ?_
  
  repeat' (first
 | refine W.seq ?_
 | refine W.block ?_
 | (refine W.region tys_ok [] ?_; conv => whnf)
 | (refine W.drawAll tys_ok [] mixed rfl ?_; conv => whnf)
 | (refine W.ret ?_; conv => whnf)
 | (refine W.skip ?_; conv => whnf)
 | (refine W.exit ?_; conv => whnf)
 | (refine W.cond rfl (fun hb => ?_) (fun hb => ?_) <;> (try simp only [Int.reduceToNat, Int.reduceTDiv, Int.reduceTMod, minL, maxL, pickB, zHB, zSH] at hb) <;> (try (first | (cases hb; done) | exact absurd hb (by decide) | (exfalso; omega) | (omega))))
 | ((with_reducible refine And.intro ?_ ?_); (focus (first | (with_reducible rfl) | omega | rfl | ((try simp only [Int.reduceToNat, Int.reduceTDiv, Int.reduceTMod, minL, maxL, pickB, zHB, zSH, InK, Path.imp, zL] at *); omega))); (conv => whnf))
 | ((with_reducible refine And.intro (Side.out ?_) ?_); rotate_left; (conv => whnf))
 | ((first | refine retM1 ?_ | refine retM2 ?_) <;> (conv => whnf) <;> repeat' (first
 | exact trivial
 | (with_reducible rfl)
 | ((with_reducible refine And.intro ?_ ?_) <;> conv => whnf)
 | omega
 | rfl
 | (refine congrArg (SV.arr _) ?_)
 | (refine congrArg (Value.int _) ?_)
 | (refine congrArg Value.bool ?_)))); all_goals (try unfold Side)
  all_goals try (repeat' (first | (with_reducible rfl) | (with_reducible refine And.intro ?_ ?_) | omega | rfl | exact Or.inl rfl | exact Or.inr rfl | exact of_decide_eq_true rfl | exact Path.imp_of (of_decide_eq_true rfl) | (focus ((try simp only [Int.reduceToNat, Int.reduceTDiv, Int.reduceTMod, minL, maxL, pickB, zHB, zSH, InK, Path.imp, zL] at *); omega)) | (refine app_le rfl ?_; omega)))
theorem rhas_at {i : Int} {b : Bool} (h : b = hasB r.1.length i) : FnM Try.prog 60 [.padr 1000000000 0, (.lit (.int .i64 (i : Int)))] [(1000000000, .box [.lit (.bool true), .lit (.bool pet), .own 1000000001, .mown 1000000002, (.lit (.int .i64 ((r).2.2 : Int)))]), (1000000001, .row 105 PT true (r).1), (1000000002, .mat 80 91 NT true (r).2.1 none)] (.lit (.bool b)) [(1000000000, .box [.lit (.bool true), .lit (.bool pet), .own 1000000001, .mown 1000000002, (.lit (.int .i64 ((r).2.2 : Int)))]), (1000000001, .row 105 PT true (r).1), (1000000002, .mat 80 91 NT true (r).2.1 none)] := by
  subst h
  have hl : @List.length PT.T r.1 = r.1.length := rfl
  refine FnM.of_body tys_ok Try.func60 (by rfl) rfl Try.ntmps60 (by rw [Try.results60]) (by simp) ?_
  
  repeat' (first
 | refine W.seq ?_
 | refine W.block ?_
 | (refine W.region tys_ok [] ?_; conv => whnf)
 | (refine W.drawAll tys_ok [] mixed rfl ?_; conv => whnf)
 | (refine W.ret ?_; conv => whnf)
 | (refine W.skip ?_; conv => whnf)
 | (refine W.exit ?_; conv => whnf)
 | (refine W.cond rfl (fun hb => ?_) (fun hb => ?_) <;> (try simp only [Int.reduceToNat, Int.reduceTDiv, Int.reduceTMod, minL, maxL, pickB, zHB, zSH] at hb) <;> (try (first | (cases hb; done) | exact absurd hb (by decide) | (exfalso; omega) | (omega))))
 | ((with_reducible refine And.intro ?_ ?_); (focus (first | (with_reducible rfl) | omega | rfl | ((try simp only [Int.reduceToNat, Int.reduceTDiv, Int.reduceTMod, minL, maxL, pickB, zHB, zSH, InK, Path.imp, zL] at *); omega))); (conv => whnf))
 | ((with_reducible refine And.intro (Side.out ?_) ?_); rotate_left; (conv => whnf))
 | ((first | refine retM1 ?_ | refine retM2 ?_) <;> (conv => whnf) <;> repeat' (first
 | exact trivial
 | (with_reducible rfl)
 | ((with_reducible refine And.intro ?_ ?_) <;> conv => whnf)
 | omega
 | rfl
 | (refine congrArg (SV.arr _) ?_)
 | (refine congrArg (Value.int _) ?_)
 | (refine congrArg Value.bool ?_)))); all_goals (try unfold Side)
  all_goals try (repeat' (first | (with_reducible rfl) | (with_reducible refine And.intro ?_ ?_) | omega | rfl | exact Or.inl rfl | exact Or.inr rfl | exact of_decide_eq_true rfl | exact Path.imp_of (of_decide_eq_true rfl) | (focus ((try simp only [Int.reduceToNat, Int.reduceTDiv, Int.reduceTMod, minL, maxL, pickB, zHB, zSH, InK, Path.imp, zL] at *); omega)) | (refine app_le rfl ?_; omega)))
set_option maxHeartbeats 4000000 in
theorem sendp_at {i : Nat} {k v : Int} (hi : i < r.2.1.length) (hf : ((r.2.1.getD i []).length : Int) ≤ r.2.2) (hs : 0 ≤ r.2.2 ∧ r.2.2 ≤ 1000000) : FnM Try.prog 78 [.padr 1000000000 0, (.lit (.int .i64 (i : Int))), (.lit (.int .i64 (k : Int))), (.lit (.int .i64 (v : Int)))] [(1000000000, .box [.lit (.bool true), .lit (.bool pet), .own 1000000001, .mown 5, (.lit (.int .i64 ((r).2.2 : Int)))]), (1000000001, .row 105 PT true (r).1), (5, .mat 80 91 NT true (r).2.1 none)] (.tup []) [(1000000000, .box [.lit (.bool true), .lit (.bool pet), .own 1000000001, .mown 5, (.lit (.int .i64 (((sendR i k v r)).2.2 : Int)))]), (1000000001, .row 105 PT true ((sendR i k v r)).1), (5, .mat 80 91 NT true ((sendR i k v r)).2.1 none)] := by
  have e0 : i < r.2.1.length := hi
  have e1 : i < (r.2.1.set i (r.2.1.getD i [] ++ [(k, v, ())])).length := by rw [List.length_set]; exact hi
  have e2 : (r.2.1.getD i []).length + [((k, v, ()) : Nt)].length ≤ 4294967296 := by rw [List.length_singleton]; omega
  have e3 : 0 ≤ (i : Int) ∧ i < (r.2.1.set i (r.2.1.getD i [] ++ [(k, v, ())])).length := ⟨by omega, e1⟩
  have e4 : 0 ≤ (i : Int) ∧ i < r.2.1.length := ⟨by omega, e0⟩
  refine FnM.of_body tys_ok Try.func78 (by rfl) rfl Try.ntmps78 (by rw [Try.results78]) (by simp) ?_
  
  repeat' (first
 | refine W.seq ?_
 | refine W.block ?_
 | (refine W.resub (x := Code.region 0 _ _) (Γ' := ⟨[(0, .padr 1000000000 0), (1, (.lit (.int .i64 (i : Int)))), (2, (.lit (.int .i64 (k : Int)))), (3, (.lit (.int .i64 (v : Int))))], [(1000000000, .box [.lit (.bool true), .lit (.bool pet), .own 1000000001, .mown 5, (.lit (.int .i64 ((r).2.2 : Int)))]), (1000000001, .row 105 PT true (r).1), (5, .mat 80 91 NT true (r).2.1 none)]⟩) ?_ ?_; rotate_left; refine W.drawPhTo (id := 0) tys_ok [] mixed [0, 1, 2, 4, 0, 0, 32, 64, 128, 0, 768, 1024, 0, 0, 12288, 16384, 34816, 131071, 262143] [([0, 1, 2, 4, 5, 6, 7, 9, 12, 13], 7, 131071), ([17], 1, 524287)] ⟨[(0, .padr 1000000000 0)], [(1000000000, .box [.lit (.bool true), .lit (.bool pet), .own 1000000001, .mown 5, (.lit (.int .i64 (r.2.2 : Int)))]), (1000000001, .row 105 PT true r.1), (5, .mat 80 91 NT true (sendR i k v r).2.1 none)]⟩ (by decide +kernel) ?_ ?_; (conv => whnf); rotate_left; (conv => whnf))
 | (refine W.region tys_ok [] ?_; conv => whnf)
 | (refine W.drawAll tys_ok [] mixed rfl ?_; conv => whnf)
 | (refine W.ret ?_; conv => whnf)
 | (refine W.skip ?_; conv => whnf)
 | (refine W.exit ?_; conv => whnf)
 | (refine Both.mk ?_ ?_ <;> (conv => whnf))
 | (refine W.cond rfl (fun hb => ?_) (fun hb => ?_) <;> (try simp only [Int.reduceToNat, Int.reduceTDiv, Int.reduceTMod, minL, maxL, pickB, zHB, zSH] at hb) <;> (try (first | (cases hb; done) | exact absurd hb (by decide) | (exfalso; omega) | (omega))))
 | ((with_reducible refine And.intro ?_ ?_); (focus (first | (with_reducible rfl) | omega | rfl | ((try simp only [Int.reduceToNat, Int.reduceTDiv, Int.reduceTMod, minL, maxL, pickB, zHB, zSH, InK, Path.imp, zL] at *); omega))); (conv => whnf))
 | ((with_reducible refine And.intro (Side.out ?_) ?_); rotate_left; (conv => whnf))
 | ((first | refine retM1 ?_ | refine retM2 ?_ | refine subF.leaf ?_ | refine subF.side ?_) <;> (conv => whnf) <;> repeat' (first
 | exact trivial
 | (with_reducible rfl)
 | ((with_reducible refine And.intro ?_ ?_) <;> conv => whnf)
 | omega
 | rfl
 | (refine congrArg (SV.arr _) ?_)
 | (refine congrArg (Value.int _) ?_)
 | (refine congrArg Value.bool ?_)))); all_goals (try unfold Side)
  all_goals try (repeat' (first | (with_reducible rfl) | (with_reducible refine And.intro ?_ ?_) | omega | rfl | exact Or.inl rfl | exact Or.inr rfl | exact of_decide_eq_true rfl | exact Path.imp_of (of_decide_eq_true rfl) | (focus ((try simp only [Int.reduceToNat, Int.reduceTDiv, Int.reduceTMod, minL, maxL, pickB, zHB, zSH, InK, Path.imp, zL] at *); omega)) | (refine app_le rfl ?_; omega)))
  all_goals first | exact e0 | exact e1 | exact Path.imp_of e0 | exact e2 | exact Path.imp_of e3 | exact Path.imp_of e4 | skip
end Go.Proofs.Ytkjcnegkdlmapaa
namespace Go.Proofs.Ytkjcnegkdlmapaa
open Go Go.Vc Go.Rg
set_option linter.unusedVariables false
set_option linter.unusedSimpArgs false
def ixN (l : List Int) (x : Int) (i : Nat) : Int := if x ∈ l.drop i then ((i + (l.drop i).idxOf x : Nat) : Int) else -1
theorem ixN_end {l : List Int} {x : Int} {i : Nat} (h : l.length ≤ i) : ixN l x i = -1 := by
  unfold ixN
  rw [List.drop_of_length_le h]
  rfl
theorem getD_eq {l : List Int} {i : Nat} (h : i < l.length) : l.getD i 0 = l[i] := by rw [List.getD_eq_getElem?_getD, List.getElem?_eq_getElem h]; rfl
theorem ixN_hit {l : List Int} {x : Int} {i : Nat} (h : i < l.length) (hx : x = l.getD i 0) : ixN l x i = (i : Int) := by
  unfold ixN
  rw [List.drop_eq_getElem_cons h, ← getD_eq h, ← hx]
  simp
theorem ixN_miss {l : List Int} {x : Int} {i : Nat} (h : i < l.length) (hx : x ≠ l.getD i 0) : ixN l x i = ixN l x (i + 1) := by
  unfold ixN
  rw [List.drop_eq_getElem_cons h, ← getD_eq h]
  have h1 : (x ∈ l.getD i 0 :: l.drop (i + 1)) ↔ x ∈ l.drop (i + 1) :=
    ⟨fun h => (List.mem_cons.1 h).elim (fun e => absurd e hx) id, List.mem_cons_of_mem _⟩
  by_cases e : x ∈ l.drop (i + 1)
  · rw [if_pos (h1.2 e), if_pos e, List.idxOf_cons]
    have : (l.getD i 0 == x) = false := by simpa using fun h => hx h.symm
    rw [this]
    simp only [cond_false]
    congr 1
    omega
  · rw [if_neg (fun h => e (h1.1 h)), if_neg e]
theorem ixN_sign {l : List Int} {x : Int} : decide (0 ≤ ixN l x 0) = decide (x ∈ l) := by
  unfold ixN
  rw [List.drop_zero, decide_eq_decide]
  by_cases e : x ∈ l
  · rw [if_pos e]; simp only [e, iff_true]; omega
  · rw [if_neg e]; simp only [e, iff_false]; omega
theorem indexN_at {l : List Int} {x : Int} (hll : l.length ≤ 1000) : FnAt Try.prog false 77 [.arr (.int .i64) l, I64 x] (.lit (.int .i64 (ixN l x 0 : Int))) [] := by
  have hl : @List.length (Ty.int .i64).T l = l.length := rfl
  refine FnAt.of_body tys_ok Try.func77 (by rfl) rfl Try.ntmps77 (by rw [Try.results77]) (by simp) ?_
  
  repeat' (first
 | refine W.seq ?_
 | refine W.block ?_
 | (refine W.region tys_ok [] ?_; conv => whnf)
 | (refine W.drawAll tys_ok [] mixed rfl ?_; conv => whnf)
 | (refine W.ret ?_; conv => whnf)
 | (refine W.skip ?_; conv => whnf)
 | (refine W.exit ?_; conv => whnf)
 | (refine W.cond rfl (fun hb => ?_) (fun hb => ?_) <;> (try simp only [Int.reduceToNat, Int.reduceTDiv, Int.reduceTMod, minL, maxL, pickB, zHB, zSH] at hb) <;> (try (first | (cases hb; done) | exact absurd hb (by decide) | (exfalso; omega) | (omega))))
 | ((with_reducible refine And.intro ?_ ?_); (focus (first | (with_reducible rfl) | omega | rfl | ((try simp only [Int.reduceToNat, Int.reduceTDiv, Int.reduceTMod, minL, maxL, pickB, zHB, zSH, InK, Path.imp, zL] at *); omega))); (conv => whnf))
 | ((with_reducible refine And.intro (Side.out ?_) ?_); rotate_left; (conv => whnf))
 | ((first | refine retF1 ?_ | refine retF2 ?_) <;> (conv => whnf) <;> repeat' (first
 | exact trivial
 | (with_reducible rfl)
 | ((with_reducible refine And.intro ?_ ?_) <;> conv => whnf)
 | omega
 | rfl
 | (refine congrArg (SV.arr _) ?_)
 | (refine congrArg (Value.int _) ?_)
 | (refine congrArg Value.bool ?_)))); all_goals (try unfold Side)
  all_goals try (repeat' (first | (with_reducible rfl) | (with_reducible refine And.intro ?_ ?_) | omega | rfl | exact Or.inl rfl | exact Or.inr rfl | exact of_decide_eq_true rfl | exact Path.imp_of (of_decide_eq_true rfl) | (focus ((try simp only [Int.reduceToNat, Int.reduceTDiv, Int.reduceTMod, minL, maxL, pickB, zHB, zSH, InK, Path.imp, zL] at *); omega)) | (refine app_le rfl ?_; omega)))
  refine W.loop (fun i : Nat => ⟨[(0, .st false (.arr (.int .i64) l)), (1, (.lit (.int .i64 (x : Int)))), (7, (.lit (.int .i64 (l.length : Int)))), (8, (.lit (.int .i64 (i : Int))))], []⟩) (fun i => i ≤ l.length ∧ ixN l x 0 = ixN l x i) (fun i => l.length - i) (0) ?_ ?_
  · refine ⟨⟨Nat.zero_le _, rfl⟩, ?_⟩
    refine subF.ok ?_ <;> (conv => whnf) <;> repeat' (first
 | exact trivial
 | (with_reducible rfl)
 | ((with_reducible refine And.intro ?_ ?_) <;> conv => whnf)
 | omega
 | rfl
 | (refine congrArg (SV.arr _) ?_)
 | (refine congrArg (Value.int _) ?_)
 | (refine congrArg Value.bool ?_))
  · rintro i ⟨hi, hix⟩
    by_cases hil : i < l.length
    · by_cases hx : x = l.getD i 0
      · have hy := ixN_hit hil hx
        repeat' (first
 | refine W.seq ?_
 | refine W.block ?_
 | (refine W.region tys_ok [] ?_; conv => whnf)
 | (refine W.drawAll tys_ok [] mixed rfl ?_; conv => whnf)
 | (refine W.ret ?_; conv => whnf)
 | (refine W.skip ?_; conv => whnf)
 | (refine W.exit ?_; conv => whnf)
 | (refine W.cond rfl (fun hb => ?_) (fun hb => ?_) <;> (try simp only [Int.reduceToNat, Int.reduceTDiv, Int.reduceTMod, minL, maxL, pickB, zHB, zSH] at hb) <;> (try (first | (cases hb; done) | exact absurd hb (by decide) | (exfalso; omega) | (omega) | ((simp_all; done)))))
 | ((with_reducible refine And.intro ?_ ?_); (focus (first | (with_reducible rfl) | omega | rfl | ((try simp only [Int.reduceToNat, Int.reduceTDiv, Int.reduceTMod, minL, maxL, pickB, zHB, zSH, InK, Path.imp, zL] at *); omega))); (conv => whnf))
 | ((with_reducible refine And.intro (Side.out ?_) ?_); rotate_left; (conv => whnf))
 | ((first | refine retF1 ?_ | refine retF2 ?_) <;> (conv => whnf) <;> repeat' (first
 | exact trivial
 | (with_reducible rfl)
 | ((with_reducible refine And.intro ?_ ?_) <;> conv => whnf)
 | omega
 | rfl
 | (refine congrArg (SV.arr _) ?_)
 | (refine congrArg (Value.int _) ?_)
 | (refine congrArg Value.bool ?_)))); all_goals (try unfold Side)
        all_goals try (repeat' (first | (with_reducible rfl) | (with_reducible refine And.intro ?_ ?_) | omega | rfl | exact Or.inl rfl | exact Or.inr rfl | exact of_decide_eq_true rfl | exact Path.imp_of (of_decide_eq_true rfl) | (focus ((try simp only [Int.reduceToNat, Int.reduceTDiv, Int.reduceTMod, minL, maxL, pickB, zHB, zSH, InK, Path.imp, zL] at *); omega)) | (refine app_le rfl ?_; omega)))
        all_goals (rw [hix, hy])
      · have hy := ixN_miss hil hx
        repeat' (first
 | refine W.seq ?_
 | refine W.block ?_
 | (refine W.region tys_ok [] ?_; conv => whnf)
 | (refine W.drawAll tys_ok [] mixed rfl ?_; conv => whnf)
 | (refine W.ret ?_; conv => whnf)
 | (refine W.skip ?_; conv => whnf)
 | (refine W.exit ?_; conv => whnf)
 | (refine W.cond rfl (fun hb => ?_) (fun hb => ?_) <;> (try simp only [Int.reduceToNat, Int.reduceTDiv, Int.reduceTMod, minL, maxL, pickB, zHB, zSH] at hb) <;> (try (first | (cases hb; done) | exact absurd hb (by decide) | (exfalso; omega) | (omega) | ((simp_all; done)))))
 | ((with_reducible refine And.intro ?_ ?_); (focus (first | (with_reducible rfl) | omega | rfl | ((try simp only [Int.reduceToNat, Int.reduceTDiv, Int.reduceTMod, minL, maxL, pickB, zHB, zSH, InK, Path.imp, zL] at *); omega))); (conv => whnf))
 | ((with_reducible refine And.intro (Side.out ?_) ?_); rotate_left; (conv => whnf))
 | ((first | refine retF1 ?_ | refine retF2 ?_) <;> (conv => whnf) <;> repeat' (first
 | exact trivial
 | (with_reducible rfl)
 | ((with_reducible refine And.intro ?_ ?_) <;> conv => whnf)
 | omega
 | rfl
 | (refine congrArg (SV.arr _) ?_)
 | (refine congrArg (Value.int _) ?_)
 | (refine congrArg Value.bool ?_)))); all_goals (try unfold Side)
        all_goals try (repeat' (first | (with_reducible rfl) | (with_reducible refine And.intro ?_ ?_) | omega | rfl | exact Or.inl rfl | exact Or.inr rfl | exact of_decide_eq_true rfl | exact Path.imp_of (of_decide_eq_true rfl) | (focus ((try simp only [Int.reduceToNat, Int.reduceTDiv, Int.reduceTMod, minL, maxL, pickB, zHB, zSH, InK, Path.imp, zL] at *); omega)) | (refine app_le rfl ?_; omega)))
        refine ⟨i + 1, ⟨⟨by omega, by rw [hix, hy]⟩, by omega⟩, ?_⟩
        refine subF.ok ?_ <;> (conv => whnf) <;> repeat' (first
 | exact trivial
 | (with_reducible rfl)
 | ((with_reducible refine And.intro ?_ ?_) <;> conv => whnf)
 | omega
 | rfl
 | (refine congrArg (SV.arr _) ?_)
 | (refine congrArg (Value.int _) ?_)
 | (refine congrArg Value.bool ?_))
    · have hy := ixN_end (l := l) (x := x) (i := i) (by omega)
      repeat' (first
 | refine W.seq ?_
 | refine W.block ?_
 | (refine W.region tys_ok [] ?_; conv => whnf)
 | (refine W.drawAll tys_ok [] mixed rfl ?_; conv => whnf)
 | (refine W.ret ?_; conv => whnf)
 | (refine W.skip ?_; conv => whnf)
 | (refine W.exit ?_; conv => whnf)
 | (refine W.cond rfl (fun hb => ?_) (fun hb => ?_) <;> (try simp only [Int.reduceToNat, Int.reduceTDiv, Int.reduceTMod, minL, maxL, pickB, zHB, zSH] at hb) <;> (try (first | (cases hb; done) | exact absurd hb (by decide) | (exfalso; omega) | (omega))))
 | ((with_reducible refine And.intro ?_ ?_); (focus (first | (with_reducible rfl) | omega | rfl | ((try simp only [Int.reduceToNat, Int.reduceTDiv, Int.reduceTMod, minL, maxL, pickB, zHB, zSH, InK, Path.imp, zL] at *); omega))); (conv => whnf))
 | ((with_reducible refine And.intro (Side.out ?_) ?_); rotate_left; (conv => whnf))
 | ((first | refine retF1 ?_ | refine retF2 ?_) <;> (conv => whnf) <;> repeat' (first
 | exact trivial
 | (with_reducible rfl)
 | ((with_reducible refine And.intro ?_ ?_) <;> conv => whnf)
 | omega
 | rfl
 | (refine congrArg (SV.arr _) ?_)
 | (refine congrArg (Value.int _) ?_)
 | (refine congrArg Value.bool ?_)))); all_goals (try unfold Side)
      all_goals try (repeat' (first | (with_reducible rfl) | (with_reducible refine And.intro ?_ ?_) | omega | rfl | exact Or.inl rfl | exact Or.inr rfl | exact of_decide_eq_true rfl | exact Path.imp_of (of_decide_eq_true rfl) | (focus ((try simp only [Int.reduceToNat, Int.reduceTDiv, Int.reduceTMod, minL, maxL, pickB, zHB, zSH, InK, Path.imp, zL] at *); omega)) | (refine app_le rfl ?_; omega)))
      all_goals (rw [hix, hy])
theorem containsN_at {l : List Int} {x : Int} {b : Bool} (hll : l.length ≤ 1000) (h : b = decide (x ∈ l)) : FnAt Try.prog false 57 [.arr (.int .i64) l, I64 x] (.lit (.bool b)) [] := by
  subst h
  have c1 := indexN_at (x := x) hll
  have hs := ixN_sign (l := l) (x := x)
  refine FnAt.of_body tys_ok Try.func57 (by rfl) rfl Try.ntmps57 (by rw [Try.results57]) (by simp) ?_
  
  repeat' (first
 | refine W.seq ?_
 | refine W.block ?_
 | (refine W.region tys_ok [] ?_; conv => whnf)
 | (refine W.drawAll tys_ok [] mixed rfl ?_; conv => whnf)
 | (refine W.ret ?_; conv => whnf)
 | (refine W.skip ?_; conv => whnf)
 | (refine W.exit ?_; conv => whnf)
 | (refine call_at (al := false) (c1) rfl rfl rfl rfl ?_; conv => whnf)
 | (refine W.cond rfl (fun hb => ?_) (fun hb => ?_) <;> (try simp only [Int.reduceToNat, Int.reduceTDiv, Int.reduceTMod, minL, maxL, pickB, zHB, zSH] at hb) <;> (try (first | (cases hb; done) | exact absurd hb (by decide) | (exfalso; omega) | (omega))))
 | ((with_reducible refine And.intro ?_ ?_); (focus (first | (with_reducible rfl) | omega | rfl | ((try simp only [Int.reduceToNat, Int.reduceTDiv, Int.reduceTMod, minL, maxL, pickB, zHB, zSH, InK, Path.imp, zL] at *); omega))); (conv => whnf))
 | ((with_reducible refine And.intro (Side.out ?_) ?_); rotate_left; (conv => whnf))
 | ((first | refine retF1 ?_ | refine retF2 ?_) <;> (conv => whnf) <;> repeat' (first
 | exact trivial
 | (with_reducible rfl)
 | ((with_reducible refine And.intro ?_ ?_) <;> conv => whnf)
 | omega
 | rfl
 | (refine congrArg (SV.arr _) ?_)
 | (refine congrArg (Value.int _) ?_)
 | (refine congrArg Value.bool ?_)))); all_goals (try unfold Side)
  all_goals try (repeat' (first | (with_reducible rfl) | (with_reducible refine And.intro ?_ ?_) | omega | rfl | exact Or.inl rfl | exact Or.inr rfl | exact of_decide_eq_true rfl | exact Path.imp_of (of_decide_eq_true rfl) | (focus ((try simp only [Int.reduceToNat, Int.reduceTDiv, Int.reduceTMod, minL, maxL, pickB, zHB, zSH, InK, Path.imp, zL] at *); omega)) | (refine app_le rfl ?_; omega)))
  all_goals exact hs
def mkP (x : Int) : Pe := (x, false, 0, x, 0, false, 1, ())
def goodAt (xs : List Int) (i : Nat) : Prop := 1 ≤ xs.getD i 0 ∧ xs.getD i 0 ≤ 1000 ∧ xs.getD i 0 ∉ xs.take i
set_option maxHeartbeats 4000000 in
theorem new_ok {xs : List Int} {pet : Bool} (h1 : 1 ≤ xs.length) (h2 : xs.length ≤ 10) (hg : ∀ i, i < xs.length → goodAt xs i) : FnM Try.prog 27 [.st false (.arr (.int .i64) xs), .lit (.bool pet)] [] (.tup [.padr 0 0, (.lit (.int .i64 (0 : Int)))]) [(0, .box [.lit (.bool true), .lit (.bool pet), .own 1, .mown 2, (.lit (.int .i64 (((rnew xs)).2.2 : Int)))]), (1, .row 105 PT true ((rnew xs)).1), (2, .mat 80 91 NT true ((rnew xs)).2.1 none)] := by
  have hl : @List.length (Ty.int .i64).T xs = xs.length := rfl
  have hN1 : (xs.length : Int) ≤ 4294967296 := by omega
  refine FnM.of_body tys_ok Try.func27 (by rfl) rfl Try.ntmps27 (by rw [Try.results27]) (by simp) ?_
  
  repeat' (first
 | refine W.seq ?_
 | refine W.block ?_
 | (refine W.region tys_ok [0, 20] ?_; conv => whnf)
 | (refine W.drawAll tys_ok [0, 20] mixed rfl ?_; conv => whnf)
 | (refine W.ret ?_; conv => whnf)
 | (refine W.skip ?_; conv => whnf)
 | (refine W.exit ?_; conv => whnf)
 | (refine W.cond rfl (fun hb => ?_) (fun hb => ?_) <;> (try simp only [Int.reduceToNat, Int.reduceTDiv, Int.reduceTMod, minL, maxL, pickB, zHB, zSH] at hb) <;> (try (first | (cases hb; done) | exact absurd hb (by decide) | (exfalso; omega) | (omega) | ((simp [pickB] at hb; omega)))))
 | ((with_reducible refine And.intro ?_ ?_); (focus (first | (with_reducible rfl) | omega | rfl | ((try simp only [Int.reduceToNat, Int.reduceTDiv, Int.reduceTMod, minL, maxL, pickB, zHB, zSH, InK, Path.imp, zL] at *); omega))); (conv => whnf))
 | ((with_reducible refine And.intro (Side.out ?_) ?_); rotate_left; (conv => whnf))
 | ((first | refine retM1 ?_ | refine retM2 ?_) <;> (conv => whnf) <;> repeat' (first
 | exact trivial
 | (with_reducible rfl)
 | ((with_reducible refine And.intro ?_ ?_) <;> conv => whnf)
 | omega
 | rfl
 | (refine congrArg (SV.arr _) ?_)
 | (refine congrArg (Value.int _) ?_)
 | (refine congrArg Value.bool ?_)))); all_goals (try unfold Side)
  all_goals first | exact Nat.le_of_ble_eq_true rfl | exact hN1 | skip
  all_goals try (repeat' (first | (with_reducible rfl) | (with_reducible refine And.intro ?_ ?_) | omega | rfl | exact Or.inl rfl | exact Or.inr rfl | exact of_decide_eq_true rfl | exact Path.imp_of (of_decide_eq_true rfl) | (focus ((try simp only [Int.reduceToNat, Int.reduceTDiv, Int.reduceTMod, minL, maxL, pickB, zHB, zSH, InK, Path.imp, zL] at *); omega)) | (refine app_le rfl ?_; omega)))
  refine W.loop (fun i : Nat => ⟨[(0, .st false (.arr (.int .i64) xs)), (6, .padr 7000 0), (23, .st false (.arr (.int .i64) xs)), (24, (.lit (.int .i64 (xs.length : Int)))), (25, (.lit (.int .i64 (i : Int))))], [(7000, .box [.lit (.bool true), .lit (.bool pet), .own 7001, .mown 7002, (.lit (.int .i64 (0 : Int)))]), (7001, .row 105 PT true ((xs.take i).map mkP)), (7002, .mat 80 91 NT true (List.replicate xs.length ([] : List Nt)) none)]⟩) (fun i => i ≤ xs.length) (fun i => xs.length - i) (0) ?_ ?_
  · refine ⟨Nat.zero_le _, ?_⟩
    refine subF.ok ?_ <;> (conv => whnf) <;> repeat' (first
 | exact trivial
 | (with_reducible rfl)
 | ((with_reducible refine And.intro ?_ ?_) <;> conv => whnf)
 | omega
 | rfl
 | (refine congrArg (SV.arr _) ?_)
 | (refine congrArg (Value.int _) ?_)
 | (refine congrArg Value.bool ?_))
  · intro i hi
    by_cases hil : i < xs.length
    · have hgi := hg i hil
      have hg1 : 1 ≤ xs.getD i 0 := hgi.1
      have hg2 : xs.getD i 0 ≤ 1000 := hgi.2.1
      have c1 := containsN_at (l := xs.take i) (x := xs.getD i 0) (b := false) (by rw [List.length_take]; omega) (by rw [eq_comm, decide_eq_false_iff_not]; exact hgi.2.2)
      have e1 : (xs.take i).map mkP ++ [(xs.getD i 0, false, 0, xs.getD i 0, 0, false, 1, ())] = (xs.take (i + 1)).map mkP := by
        rw [List.take_succ_eq_append_getElem hil, List.map_append, ← getD_eq hil]; rfl
      have e2 : ((xs.take i).map mkP).length + [((xs.getD i 0, false, 0, xs.getD i 0, 0, false, 1, ()) : Pe)].length ≤ 4294967296 := by
        rw [List.length_map, List.length_take, List.length_singleton]; omega
      have hk : ¬ (xs.getD i 0 < 1 ∨ 1000 < xs.getD i 0) := by omega
      repeat' (first
 | refine W.seq ?_
 | refine W.block ?_
 | (refine W.region tys_ok [] ?_; conv => whnf)
 | (refine W.drawAll tys_ok [] mixed rfl ?_; conv => whnf)
 | (refine W.ret ?_; conv => whnf)
 | (refine W.skip ?_; conv => whnf)
 | (refine W.exit ?_; conv => whnf)
 | (refine call_at (al := false) (c1) rfl rfl rfl rfl ?_; conv => whnf)
 | (refine W.cond rfl (fun hb => ?_) (fun hb => ?_) <;> (try simp only [Int.reduceToNat, Int.reduceTDiv, Int.reduceTMod, minL, maxL, pickB, zHB, zSH] at hb) <;> (try (first | (cases hb; done) | exact absurd hb (by decide) | (exfalso; omega) | (omega) | (exact hk hb) | ((simp [pickB] at hb; omega)))))
 | ((with_reducible refine And.intro ?_ ?_); (focus (first | (with_reducible rfl) | omega | rfl | ((try simp only [Int.reduceToNat, Int.reduceTDiv, Int.reduceTMod, minL, maxL, pickB, zHB, zSH, InK, Path.imp, zL] at *); omega))); (conv => whnf))
 | ((with_reducible refine And.intro (Side.out ?_) ?_); rotate_left; (conv => whnf))
 | ((first | refine retM1 ?_ | refine retM2 ?_) <;> (conv => whnf) <;> repeat' (first
 | exact trivial
 | (with_reducible rfl)
 | ((with_reducible refine And.intro ?_ ?_) <;> conv => whnf)
 | omega
 | rfl
 | (refine congrArg (SV.arr _) ?_)
 | (refine congrArg (Value.int _) ?_)
 | (refine congrArg Value.bool ?_)))); all_goals (try unfold Side)
      all_goals try (repeat' (first | (with_reducible rfl) | (with_reducible refine And.intro ?_ ?_) | omega | rfl | exact Or.inl rfl | exact Or.inr rfl | exact of_decide_eq_true rfl | exact Path.imp_of (of_decide_eq_true rfl) | (focus ((try simp only [Int.reduceToNat, Int.reduceTDiv, Int.reduceTMod, minL, maxL, pickB, zHB, zSH, InK, Path.imp, zL] at *); omega)) | (refine app_le rfl ?_; omega)))
      all_goals first | exact e2 | skip
      refine ⟨i + 1, ⟨by omega, by omega⟩, ?_⟩
      refine subF.ok ?_ <;> (conv => whnf) <;> repeat' (first
 | exact trivial
 | (with_reducible rfl)
 | ((with_reducible refine And.intro ?_ ?_) <;> conv => whnf)
 | omega
 | rfl
 | (refine congrArg (SV.arr _) ?_)
 | (refine congrArg (Value.int _) ?_)
 | (refine congrArg Value.bool ?_))
      all_goals exact e1
    · have hie : i = xs.length := by omega
      subst hie
      have e3 : (xs.take xs.length).map mkP = (rnew xs).1 := by rw [List.take_length]; rfl
      repeat' (first
 | refine W.seq ?_
 | refine W.block ?_
 | (refine W.region tys_ok [] ?_; conv => whnf)
 | (refine W.drawAll tys_ok [] mixed rfl ?_; conv => whnf)
 | (refine W.ret ?_; conv => whnf)
 | (refine W.skip ?_; conv => whnf)
 | (refine W.exit ?_; conv => whnf)
 | (refine W.cond rfl (fun hb => ?_) (fun hb => ?_) <;> (try simp only [Int.reduceToNat, Int.reduceTDiv, Int.reduceTMod, minL, maxL, pickB, zHB, zSH] at hb) <;> (try (first | (cases hb; done) | exact absurd hb (by decide) | (exfalso; omega) | (omega))))
 | ((with_reducible refine And.intro ?_ ?_); (focus (first | (with_reducible rfl) | omega | rfl | ((try simp only [Int.reduceToNat, Int.reduceTDiv, Int.reduceTMod, minL, maxL, pickB, zHB, zSH, InK, Path.imp, zL] at *); omega))); (conv => whnf))
 | ((with_reducible refine And.intro (Side.out ?_) ?_); rotate_left; (conv => whnf))
 | ((first | refine retM1 ?_ | refine retM2 ?_) <;> (conv => whnf) <;> repeat' (first
 | exact trivial
 | (with_reducible rfl)
 | ((with_reducible refine And.intro ?_ ?_) <;> conv => whnf)
 | omega
 | rfl
 | (refine congrArg (SV.arr _) ?_)
 | (refine congrArg (Value.int _) ?_)
 | (refine congrArg Value.bool ?_)))); all_goals (try unfold Side)
      all_goals try (repeat' (first | (with_reducible rfl) | (with_reducible refine And.intro ?_ ?_) | omega | rfl | exact Or.inl rfl | exact Or.inr rfl | exact of_decide_eq_true rfl | exact Path.imp_of (of_decide_eq_true rfl) | (focus ((try simp only [Int.reduceToNat, Int.reduceTDiv, Int.reduceTMod, minL, maxL, pickB, zHB, zSH, InK, Path.imp, zL] at *); omega)) | (refine app_le rfl ?_; omega)))
      all_goals exact e3
end Go.Proofs.Ytkjcnegkdlmapaa
