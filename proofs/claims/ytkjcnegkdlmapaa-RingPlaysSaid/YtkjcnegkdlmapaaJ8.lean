/- Joined of: R3. No condition. -/
import Derived.Test.YtkjcnegkdlmapaaJ7

namespace Go.Proofs.Ytkjcnegkdlmapaa
open Go Go.Vc Go.Rg
set_option linter.unusedVariables false
set_option linter.unusedSimpArgs false
variable {n : Nat} {pet : Bool} {r : Rn}
def sp3 (ps : List Pe) (i : Nat) (v : Int) : List Pe := ps.set i ((ps.getD i P0).1, (ps.getD i P0).2.1, (ps.getD i P0).2.2.1, v, (ps.getD i P0).2.2.2.2)
def sp4 (ps : List Pe) (i : Nat) (v : Int) : List Pe := ps.set i ((ps.getD i P0).1, (ps.getD i P0).2.1, (ps.getD i P0).2.2.1, (ps.getD i P0).2.2.2.1, v, (ps.getD i P0).2.2.2.2.2)
def sp6 (ps : List Pe) (i : Nat) (v : Int) : List Pe := ps.set i ((ps.getD i P0).1, (ps.getD i P0).2.1, (ps.getD i P0).2.2.1, (ps.getD i P0).2.2.2.1, (ps.getD i P0).2.2.2.2.1, (ps.getD i P0).2.2.2.2.2.1, v, (ps.getD i P0).2.2.2.2.2.2.2)
theorem sp_no {ps : List Pe} {i : Nat} {v : Int} (hi : i < ps.length) : sp6 (sp4 ps i v) i 2 = setNo ps i v := by
  have e : (sp4 ps i v).getD i P0 = ((ps.getD i P0).1, (ps.getD i P0).2.1, (ps.getD i P0).2.2.1, (ps.getD i P0).2.2.2.1, v, (ps.getD i P0).2.2.2.2.2) := by unfold sp4; rw [getD_setP hi, if_pos rfl]
  unfold sp6
  rw [e]
  unfold sp4
  rw [List.set_set]
  rfl
theorem sp_v {ps : List Pe} {i : Nat} (hi : i < ps.length) : sp6 (sp3 ps i (pO ps i)) i 1 = setV ps i := by
  have e : (sp3 ps i (pO ps i)).getD i P0 = ((ps.getD i P0).1, (ps.getD i P0).2.1, (ps.getD i P0).2.2.1, pO ps i, (ps.getD i P0).2.2.2.2) := by unfold sp3; rw [getD_setP hi, if_pos rfl]
  unfold sp6
  rw [e]
  unfold sp3
  rw [List.set_set]
  rfl
theorem sp3_len {ps : List Pe} {i : Nat} {v : Int} (hi : i < ps.length) : i < (sp3 ps i v).length := by unfold sp3; rw [List.length_set]; exact hi
theorem sp4_len {ps : List Pe} {i : Nat} {v : Int} (hi : i < ps.length) : i < (sp4 ps i v).length := by unfold sp4; rw [List.length_set]; exact hi
theorem getV_setV {ps : List Pe} {i : Nat} (hi : i < ps.length) : pV (setV ps i) i = pO ps i := by unfold pV setV; rw [getD_setP hi, if_pos rfl]
set_option maxHeartbeats 1000000 in
theorem peter_lead0_b {i : Nat} {k v : Int} (hp : i < r.1.length) (hb0 : pB r.1 i = true) (hi : i < r.2.1.length) (hf : ((r.2.1.getD i []).length : Int) ≤ r.2.2) (hs : 0 ≤ r.2.2 ∧ r.2.2 ≤ 1000000) (hk : k = 3) (h1 : pL r.1 i = 0) :
    FnM Try.prog 67 [.padr 1000000000 0, (.lit (.int .i64 (i : Int))), .strct [(.lit (.int .i64 (k : Int))), (.lit (.int .i64 (v : Int)))]] [(1000000000, .box [.lit (.bool true), .lit (.bool pet), .own 1000000001, .mown 5, (.lit (.int .i64 ((r).2.2 : Int)))]), (1000000001, .row 105 PT true (r).1), (5, .mat 80 91 NT true (r).2.1 none)] (.tup []) [(1000000000, .box [.lit (.bool true), .lit (.bool pet), .own 1000000001, .mown 5, (.lit (.int .i64 (((sendR i k v (setL r.1 i v, r.2))).2.2 : Int)))]), (1000000001, .row 105 PT true ((sendR i k v (setL r.1 i v, r.2))).1), (5, .mat 80 91 NT true ((sendR i k v (setL r.1 i v, r.2))).2.1 none)] := by
  have c1 := sendp_at (pet := pet) (r := (setL r.1 i v, r.2)) (i := i) (k := k) (v := v) hi hf hs
  have hb1 : (r.1.getD i P0).2.1 = true := hb0
  have hl : @List.length PT.T r.1 = r.1.length := rfl
  have hV : (r.1.getD i P0).2.2.2.1 = pV r.1 i := rfl
  have hO : (r.1.getD i P0).2.2.2.2.1 = pO r.1 i := rfl
  have hL : (r.1.getD i P0).2.2.1 = pL r.1 i := rfl
  have hR : (r.1.getD i P0).2.2.2.2.2.1 = pR r.1 i := rfl
  have q3 : 0 ≤ (i : Int) ∧ i < (sp3 r.1 i (pO r.1 i)).length := ⟨by omega, sp3_len hp⟩
  have q5 : i < (sp6 (sp3 r.1 i (pO r.1 i)) i 1).length := by unfold sp6; rw [List.length_set]; exact sp3_len hp
  have q4 : 0 ≤ (i : Int) ∧ i < (sp4 r.1 i v).length := ⟨by omega, sp4_len hp⟩
  have hU : pV (sp6 (sp3 r.1 i (pO r.1 i)) i 1) i = pO r.1 i := by rw [sp_v hp]; exact getV_setV hp
  refine FnM.of_body tys_ok Try.func67 (by rfl) rfl Try.ntmps67 (by rw [Try.results67]) (by simp) ?_
  
  repeat' (first
 | refine W.seq ?_
 | refine W.block ?_
 | (refine W.regionM (id := 8) tys_ok [] [6] ?_; conv => whnf)
 | (refine W.drawPhTo (id := 11) tys_ok [] mixed [0, 1, 2, 4, 8, 24, 8, 72, 136, 264, 552, 1032, 2056] [([0], 1, 3), ([2, 3, 4, 6, 7, 8], 2, 1023), ([10, 11, 12], 0, 8191)] ⟨[(0, .padr 1000000000 0), (1, (.lit (.int .i64 (i : Int)))), (5, .padr 6000 0), (6, .oadr 1000000001 7 i 0), (60, .lit (.bool (decide (k = 1) && decide (v = pV r.1 i))))], [(1000000000, .box [.lit (.bool true), .lit (.bool pet), .own 1000000001, .mown 5, (.lit (.int .i64 ((r).2.2 : Int)))]), (1000000001, .row 105 PT true (r).1), (5, .mat 80 91 NT true (r).2.1 none), (6000, .box [(.lit (.int .i64 (k : Int))), (.lit (.int .i64 (v : Int)))])]⟩ (by decide +kernel) ?_ ?_ <;> (conv => whnf))
 | (refine W.drawPhTo (id := 17) tys_ok [] mixed [0, 1, 2, 4, 0, 16, 32, 64, 136, 256, 512, 1536, 2560, 4608, 512, 16896, 41472, 66048, 131584] [([0, 1, 2, 4, 5, 6], 2, 255), ([8, 9, 10, 11, 12, 14], 2, 65535), ([16, 17, 18], 0, 524287)] ⟨[(0, .padr 1000000000 0), (1, (.lit (.int .i64 (i : Int)))), (5, .padr 6000 0), (6, .oadr 1000000001 7 i 0), (101, .lit (.bool (decide (pV r.1 i < pO r.1 i) && decide (v < pO r.1 i))))], [(1000000000, .box [.lit (.bool true), .lit (.bool pet), .own 1000000001, .mown 5, (.lit (.int .i64 ((r).2.2 : Int)))]), (1000000001, .row 105 PT true (r).1), (5, .mat 80 91 NT true (r).2.1 none), (6000, .box [(.lit (.int .i64 (k : Int))), (.lit (.int .i64 (v : Int)))])]⟩ (by decide +kernel) ?_ ?_ <;> (conv => whnf))
 | (refine W.region tys_ok [] ?_; conv => whnf)
 | (refine W.drawAll tys_ok [] mixed rfl ?_; conv => whnf)
 | (refine W.ret ?_; conv => whnf)
 | (refine W.skip ?_; conv => whnf)
 | (refine W.exit ?_; conv => whnf)
 | (refine callM_at (c1) ?_; conv => whnf)
 | (refine Both.mk ?_ ?_ <;> (conv => whnf))
 | (refine W.cond rfl (fun hb => ?_) (fun hb => ?_) <;> (try simp only [Int.reduceToNat, Int.reduceTDiv, Int.reduceTMod, minL, maxL, pickB, zHB, zSH] at hb) <;> (try (first | (cases hb; done) | exact absurd hb (by decide) | (exfalso; omega) | (omega) | ((simp at hb; omega)) | ((simp_all; done)))))
 | (refine Or.inl (And.intro ?_ ?_); (focus (first | exact trivial | exact ⟨rfl, trivial⟩ | (refine ⟨?_, trivial⟩; dsimp only; simp only [Int.reduceToNat, Int.reduceTDiv, Int.reduceTMod, minL, maxL, pickB, zHB, zSH]; omega) | (refine ⟨?_, trivial⟩; dsimp only; (try simp only [Int.reduceToNat, Int.reduceTDiv, Int.reduceTMod, minL, maxL, pickB, zHB, zSH]); (simp_all; done)) | (refine ⟨?_, trivial⟩; dsimp only; (simp only [Int.reduceToNat, Int.reduceTDiv, Int.reduceTMod, minL, maxL, pickB, zHB, zSH]; done)) | (refine ⟨?_, trivial⟩; dsimp only; (simp; done)))); (conv => whnf))
 | (refine Or.inr (And.intro ?_ ?_); (focus (intro h; have h := h.1; dsimp only at h; first | (exact Bool.noConfusion h) | (simp only [Int.reduceToNat, Int.reduceTDiv, Int.reduceTMod, minL, maxL, pickB, zHB, zSH] at h; omega) | ((try simp only [Int.reduceToNat, Int.reduceTDiv, Int.reduceTMod, minL, maxL, pickB, zHB, zSH] at h); (simp_all; done)))); (conv => whnf))
 | ((with_reducible refine And.intro ?_ ?_); (focus (first | (with_reducible rfl) | omega | rfl | ((try simp only [Int.reduceToNat, Int.reduceTDiv, Int.reduceTMod, minL, maxL, pickB, zHB, zSH, InK, Path.imp, zL] at *); omega))); (conv => whnf))
 | ((with_reducible refine And.intro (Side.out ?_) ?_); rotate_left; (conv => whnf))
 | ((first | refine retM1 ?_ | refine retM2 ?_ | refine subF.leaf ?_ | refine subF.side ?_) <;> (conv => whnf) <;> repeat' (first
 | exact trivial
 | (with_reducible rfl)
 | ((with_reducible refine And.intro ?_ ?_) <;> conv => whnf)
 | omega
 | rfl
 | (refine congrArg (SV.arr _) ?_)
 | (refine congrArg (Value.int _) ?_)
 | (refine congrArg Value.bool ?_)))); all_goals (try unfold Side)
  all_goals try (repeat' (first | (with_reducible rfl) | (with_reducible refine And.intro ?_ ?_) | omega | rfl | exact Or.inl rfl | exact Or.inr rfl | exact of_decide_eq_true rfl | exact Path.imp_of (of_decide_eq_true rfl) | (focus ((try simp only [Int.reduceToNat, Int.reduceTDiv, Int.reduceTMod, minL, maxL, pickB, zHB, zSH, InK, Path.imp, zL] at *); omega)) | (refine app_le rfl ?_; omega)))
  all_goals first | rfl | exact sp3_len hp | exact sp4_len hp | exact Path.imp_of q3 | exact Path.imp_of q5 | exact Path.imp_of q4 | exact sp_no hp | exact sp_v hp | exact congrArg _ (sp_no hp) | exact congrArg _ (sp_v hp) | exact hU | skip
set_option maxHeartbeats 1000000 in
theorem peter_lead1_b {i : Nat} {k v : Int} (hp : i < r.1.length) (hb0 : pB r.1 i = true) (hi : i < r.2.1.length) (hf : ((r.2.1.getD i []).length : Int) ≤ r.2.2) (hs : 0 ≤ r.2.2 ∧ r.2.2 ≤ 1000000) (hk : k = 3) (h1 : pL r.1 i ≠ 0) :
    FnM Try.prog 67 [.padr 1000000000 0, (.lit (.int .i64 (i : Int))), .strct [(.lit (.int .i64 (k : Int))), (.lit (.int .i64 (v : Int)))]] [(1000000000, .box [.lit (.bool true), .lit (.bool pet), .own 1000000001, .mown 5, (.lit (.int .i64 ((r).2.2 : Int)))]), (1000000001, .row 105 PT true (r).1), (5, .mat 80 91 NT true (r).2.1 none)] (.tup []) [(1000000000, .box [.lit (.bool true), .lit (.bool pet), .own 1000000001, .mown 5, (.lit (.int .i64 ((r).2.2 : Int)))]), (1000000001, .row 105 PT true (r).1), (5, .mat 80 91 NT true (r).2.1 none)] := by
  have hb1 : (r.1.getD i P0).2.1 = true := hb0
  have hl : @List.length PT.T r.1 = r.1.length := rfl
  have hV : (r.1.getD i P0).2.2.2.1 = pV r.1 i := rfl
  have hO : (r.1.getD i P0).2.2.2.2.1 = pO r.1 i := rfl
  have hL : (r.1.getD i P0).2.2.1 = pL r.1 i := rfl
  have hR : (r.1.getD i P0).2.2.2.2.2.1 = pR r.1 i := rfl
  have q3 : 0 ≤ (i : Int) ∧ i < (sp3 r.1 i (pO r.1 i)).length := ⟨by omega, sp3_len hp⟩
  have q5 : i < (sp6 (sp3 r.1 i (pO r.1 i)) i 1).length := by unfold sp6; rw [List.length_set]; exact sp3_len hp
  have q4 : 0 ≤ (i : Int) ∧ i < (sp4 r.1 i v).length := ⟨by omega, sp4_len hp⟩
  have hU : pV (sp6 (sp3 r.1 i (pO r.1 i)) i 1) i = pO r.1 i := by rw [sp_v hp]; exact getV_setV hp
  refine FnM.of_body tys_ok Try.func67 (by rfl) rfl Try.ntmps67 (by rw [Try.results67]) (by simp) ?_
  
  repeat' (first
 | refine W.seq ?_
 | refine W.block ?_
 | (refine W.drawPhTo (id := 11) tys_ok [] mixed [0, 1, 2, 4, 8, 24, 8, 72, 136, 264, 552, 1032, 2056] [([0], 1, 3), ([2, 3, 4, 6, 7, 8], 2, 1023), ([10, 11, 12], 0, 8191)] ⟨[(0, .padr 1000000000 0), (1, (.lit (.int .i64 (i : Int)))), (5, .padr 6000 0), (6, .oadr 1000000001 7 i 0), (60, .lit (.bool (decide (k = 1) && decide (v = pV r.1 i))))], [(1000000000, .box [.lit (.bool true), .lit (.bool pet), .own 1000000001, .mown 5, (.lit (.int .i64 ((r).2.2 : Int)))]), (1000000001, .row 105 PT true (r).1), (5, .mat 80 91 NT true (r).2.1 none), (6000, .box [(.lit (.int .i64 (k : Int))), (.lit (.int .i64 (v : Int)))])]⟩ (by decide +kernel) ?_ ?_ <;> (conv => whnf))
 | (refine W.drawPhTo (id := 17) tys_ok [] mixed [0, 1, 2, 4, 0, 16, 32, 64, 136, 256, 512, 1536, 2560, 4608, 512, 16896, 41472, 66048, 131584] [([0, 1, 2, 4, 5, 6], 2, 255), ([8, 9, 10, 11, 12, 14], 2, 65535), ([16, 17, 18], 0, 524287)] ⟨[(0, .padr 1000000000 0), (1, (.lit (.int .i64 (i : Int)))), (5, .padr 6000 0), (6, .oadr 1000000001 7 i 0), (101, .lit (.bool (decide (pV r.1 i < pO r.1 i) && decide (v < pO r.1 i))))], [(1000000000, .box [.lit (.bool true), .lit (.bool pet), .own 1000000001, .mown 5, (.lit (.int .i64 ((r).2.2 : Int)))]), (1000000001, .row 105 PT true (r).1), (5, .mat 80 91 NT true (r).2.1 none), (6000, .box [(.lit (.int .i64 (k : Int))), (.lit (.int .i64 (v : Int)))])]⟩ (by decide +kernel) ?_ ?_ <;> (conv => whnf))
 | (refine W.region tys_ok [] ?_; conv => whnf)
 | (refine W.drawAll tys_ok [] mixed rfl ?_; conv => whnf)
 | (refine W.ret ?_; conv => whnf)
 | (refine W.skip ?_; conv => whnf)
 | (refine W.exit ?_; conv => whnf)
 | (refine Both.mk ?_ ?_ <;> (conv => whnf))
 | (refine W.cond rfl (fun hb => ?_) (fun hb => ?_) <;> (try simp only [Int.reduceToNat, Int.reduceTDiv, Int.reduceTMod, minL, maxL, pickB, zHB, zSH] at hb) <;> (try (first | (cases hb; done) | exact absurd hb (by decide) | (exfalso; omega) | (omega) | ((simp at hb; omega)) | ((simp_all; done)))))
 | ((with_reducible refine And.intro ?_ ?_); (focus (first | (with_reducible rfl) | omega | rfl | ((try simp only [Int.reduceToNat, Int.reduceTDiv, Int.reduceTMod, minL, maxL, pickB, zHB, zSH, InK, Path.imp, zL] at *); omega))); (conv => whnf))
 | ((with_reducible refine And.intro (Side.out ?_) ?_); rotate_left; (conv => whnf))
 | ((first | refine retM1 ?_ | refine retM2 ?_ | refine subF.leaf ?_ | refine subF.side ?_) <;> (conv => whnf) <;> repeat' (first
 | exact trivial
 | (with_reducible rfl)
 | ((with_reducible refine And.intro ?_ ?_) <;> conv => whnf)
 | omega
 | rfl
 | (refine congrArg (SV.arr _) ?_)
 | (refine congrArg (Value.int _) ?_)
 | (refine congrArg Value.bool ?_)))); all_goals (try unfold Side)
  all_goals try (repeat' (first | (with_reducible rfl) | (with_reducible refine And.intro ?_ ?_) | omega | rfl | exact Or.inl rfl | exact Or.inr rfl | exact of_decide_eq_true rfl | exact Path.imp_of (of_decide_eq_true rfl) | (focus ((try simp only [Int.reduceToNat, Int.reduceTDiv, Int.reduceTMod, minL, maxL, pickB, zHB, zSH, InK, Path.imp, zL] at *); omega)) | (refine app_le rfl ?_; omega)))
  all_goals first | rfl | exact sp3_len hp | exact sp4_len hp | exact Path.imp_of q3 | exact Path.imp_of q5 | exact Path.imp_of q4 | exact sp_no hp | exact sp_v hp | exact congrArg _ (sp_no hp) | exact congrArg _ (sp_v hp) | exact hU | skip
set_option maxHeartbeats 1000000 in
theorem peter_relay_b {i : Nat} {k v : Int} (hp : i < r.1.length) (hb0 : pB r.1 i = true) (hi : i < r.2.1.length) (hf : ((r.2.1.getD i []).length : Int) ≤ r.2.2) (hs : 0 ≤ r.2.2 ∧ r.2.2 ≤ 1000000) (hk : k ≠ 3) (h1 : pR r.1 i = true) :
    FnM Try.prog 67 [.padr 1000000000 0, (.lit (.int .i64 (i : Int))), .strct [(.lit (.int .i64 (k : Int))), (.lit (.int .i64 (v : Int)))]] [(1000000000, .box [.lit (.bool true), .lit (.bool pet), .own 1000000001, .mown 5, (.lit (.int .i64 ((r).2.2 : Int)))]), (1000000001, .row 105 PT true (r).1), (5, .mat 80 91 NT true (r).2.1 none)] (.tup []) [(1000000000, .box [.lit (.bool true), .lit (.bool pet), .own 1000000001, .mown 5, (.lit (.int .i64 (((sendR i k v r)).2.2 : Int)))]), (1000000001, .row 105 PT true ((sendR i k v r)).1), (5, .mat 80 91 NT true ((sendR i k v r)).2.1 none)] := by
  have c1 := sendp_at (pet := pet) (r := (r.1, r.2)) (i := i) (k := k) (v := v) hi hf hs
  have hb1 : (r.1.getD i P0).2.1 = true := hb0
  have hl : @List.length PT.T r.1 = r.1.length := rfl
  have hV : (r.1.getD i P0).2.2.2.1 = pV r.1 i := rfl
  have hO : (r.1.getD i P0).2.2.2.2.1 = pO r.1 i := rfl
  have hL : (r.1.getD i P0).2.2.1 = pL r.1 i := rfl
  have hR : (r.1.getD i P0).2.2.2.2.2.1 = pR r.1 i := rfl
  have q3 : 0 ≤ (i : Int) ∧ i < (sp3 r.1 i (pO r.1 i)).length := ⟨by omega, sp3_len hp⟩
  have q5 : i < (sp6 (sp3 r.1 i (pO r.1 i)) i 1).length := by unfold sp6; rw [List.length_set]; exact sp3_len hp
  have q4 : 0 ≤ (i : Int) ∧ i < (sp4 r.1 i v).length := ⟨by omega, sp4_len hp⟩
  have hU : pV (sp6 (sp3 r.1 i (pO r.1 i)) i 1) i = pO r.1 i := by rw [sp_v hp]; exact getV_setV hp
  refine FnM.of_body tys_ok Try.func67 (by rfl) rfl Try.ntmps67 (by rw [Try.results67]) (by simp) ?_
  
  repeat' (first
 | refine W.seq ?_
 | refine W.block ?_
 | (refine W.regionM (id := 10) tys_ok [] [6] ?_; conv => whnf)
 | (refine W.drawPhTo (id := 11) tys_ok [] mixed [0, 1, 2, 4, 8, 24, 8, 72, 136, 264, 552, 1032, 2056] [([0], 1, 3), ([2, 3, 4, 6, 7, 8], 2, 1023), ([10, 11, 12], 0, 8191)] ⟨[(0, .padr 1000000000 0), (1, (.lit (.int .i64 (i : Int)))), (5, .padr 6000 0), (6, .oadr 1000000001 7 i 0), (60, .lit (.bool (decide (k = 1) && decide (v = pV r.1 i))))], [(1000000000, .box [.lit (.bool true), .lit (.bool pet), .own 1000000001, .mown 5, (.lit (.int .i64 ((r).2.2 : Int)))]), (1000000001, .row 105 PT true (r).1), (5, .mat 80 91 NT true (r).2.1 none), (6000, .box [(.lit (.int .i64 (k : Int))), (.lit (.int .i64 (v : Int)))])]⟩ (by decide +kernel) ?_ ?_ <;> (conv => whnf))
 | (refine W.drawPhTo (id := 17) tys_ok [] mixed [0, 1, 2, 4, 0, 16, 32, 64, 136, 256, 512, 1536, 2560, 4608, 512, 16896, 41472, 66048, 131584] [([0, 1, 2, 4, 5, 6], 2, 255), ([8, 9, 10, 11, 12, 14], 2, 65535), ([16, 17, 18], 0, 524287)] ⟨[(0, .padr 1000000000 0), (1, (.lit (.int .i64 (i : Int)))), (5, .padr 6000 0), (6, .oadr 1000000001 7 i 0), (101, .lit (.bool (decide (pV r.1 i < pO r.1 i) && decide (v < pO r.1 i))))], [(1000000000, .box [.lit (.bool true), .lit (.bool pet), .own 1000000001, .mown 5, (.lit (.int .i64 ((r).2.2 : Int)))]), (1000000001, .row 105 PT true (r).1), (5, .mat 80 91 NT true (r).2.1 none), (6000, .box [(.lit (.int .i64 (k : Int))), (.lit (.int .i64 (v : Int)))])]⟩ (by decide +kernel) ?_ ?_ <;> (conv => whnf))
 | (refine W.region tys_ok [] ?_; conv => whnf)
 | (refine W.drawAll tys_ok [] mixed rfl ?_; conv => whnf)
 | (refine W.ret ?_; conv => whnf)
 | (refine W.skip ?_; conv => whnf)
 | (refine W.exit ?_; conv => whnf)
 | (refine callM_at (c1) ?_; conv => whnf)
 | (refine Both.mk ?_ ?_ <;> (conv => whnf))
 | (refine W.cond rfl (fun hb => ?_) (fun hb => ?_) <;> (try simp only [Int.reduceToNat, Int.reduceTDiv, Int.reduceTMod, minL, maxL, pickB, zHB, zSH] at hb) <;> (try (first | (cases hb; done) | exact absurd hb (by decide) | (exfalso; omega) | (omega) | ((simp at hb; omega)) | ((simp_all; done)))))
 | (refine Or.inl (And.intro ?_ ?_); (focus (first | exact trivial | exact ⟨rfl, trivial⟩ | (refine ⟨?_, trivial⟩; dsimp only; simp only [Int.reduceToNat, Int.reduceTDiv, Int.reduceTMod, minL, maxL, pickB, zHB, zSH]; omega) | (refine ⟨?_, trivial⟩; dsimp only; (try simp only [Int.reduceToNat, Int.reduceTDiv, Int.reduceTMod, minL, maxL, pickB, zHB, zSH]); (simp_all; done)) | (refine ⟨?_, trivial⟩; dsimp only; (simp only [Int.reduceToNat, Int.reduceTDiv, Int.reduceTMod, minL, maxL, pickB, zHB, zSH]; done)) | (refine ⟨?_, trivial⟩; dsimp only; (simp; done)))); (conv => whnf))
 | (refine Or.inr (And.intro ?_ ?_); (focus (intro h; have h := h.1; dsimp only at h; first | (exact Bool.noConfusion h) | (simp only [Int.reduceToNat, Int.reduceTDiv, Int.reduceTMod, minL, maxL, pickB, zHB, zSH] at h; omega) | ((try simp only [Int.reduceToNat, Int.reduceTDiv, Int.reduceTMod, minL, maxL, pickB, zHB, zSH] at h); (simp_all; done)))); (conv => whnf))
 | ((with_reducible refine And.intro ?_ ?_); (focus (first | (with_reducible rfl) | omega | rfl | ((try simp only [Int.reduceToNat, Int.reduceTDiv, Int.reduceTMod, minL, maxL, pickB, zHB, zSH, InK, Path.imp, zL] at *); omega))); (conv => whnf))
 | ((with_reducible refine And.intro (Side.out ?_) ?_); rotate_left; (conv => whnf))
 | ((first | refine retM1 ?_ | refine retM2 ?_ | refine subF.leaf ?_ | refine subF.side ?_) <;> (conv => whnf) <;> repeat' (first
 | exact trivial
 | (with_reducible rfl)
 | ((with_reducible refine And.intro ?_ ?_) <;> conv => whnf)
 | omega
 | rfl
 | (refine congrArg (SV.arr _) ?_)
 | (refine congrArg (Value.int _) ?_)
 | (refine congrArg Value.bool ?_)))); all_goals (try unfold Side)
  all_goals try (repeat' (first | (with_reducible rfl) | (with_reducible refine And.intro ?_ ?_) | omega | rfl | exact Or.inl rfl | exact Or.inr rfl | exact of_decide_eq_true rfl | exact Path.imp_of (of_decide_eq_true rfl) | (focus ((try simp only [Int.reduceToNat, Int.reduceTDiv, Int.reduceTMod, minL, maxL, pickB, zHB, zSH, InK, Path.imp, zL] at *); omega)) | (refine app_le rfl ?_; omega)))
  all_goals first | rfl | exact sp3_len hp | exact sp4_len hp | exact Path.imp_of q3 | exact Path.imp_of q5 | exact Path.imp_of q4 | exact sp_no hp | exact sp_v hp | exact congrArg _ (sp_no hp) | exact congrArg _ (sp_v hp) | exact hU | skip
set_option maxHeartbeats 1000000 in
theorem peter_win_b {i : Nat} {k v : Int} (hp : i < r.1.length) (hb0 : pB r.1 i = true) (hi : i < r.2.1.length) (hf : ((r.2.1.getD i []).length : Int) ≤ r.2.2) (hs : 0 ≤ r.2.2 ∧ r.2.2 ≤ 1000000) (hk : k ≠ 3) (h1 : pR r.1 i = false) (h2 : k = 1) (h3 : v = pV r.1 i) :
    FnM Try.prog 67 [.padr 1000000000 0, (.lit (.int .i64 (i : Int))), .strct [(.lit (.int .i64 (k : Int))), (.lit (.int .i64 (v : Int)))]] [(1000000000, .box [.lit (.bool true), .lit (.bool pet), .own 1000000001, .mown 5, (.lit (.int .i64 ((r).2.2 : Int)))]), (1000000001, .row 105 PT true (r).1), (5, .mat 80 91 NT true (r).2.1 none)] (.tup []) [(1000000000, .box [.lit (.bool true), .lit (.bool pet), .own 1000000001, .mown 5, (.lit (.int .i64 (((sendR i 3 v (setL r.1 i v, r.2))).2.2 : Int)))]), (1000000001, .row 105 PT true ((sendR i 3 v (setL r.1 i v, r.2))).1), (5, .mat 80 91 NT true ((sendR i 3 v (setL r.1 i v, r.2))).2.1 none)] := by
  have c1 := sendp_at (pet := pet) (r := (setL r.1 i v, r.2)) (i := i) (k := 3) (v := v) hi hf hs
  have hb1 : (r.1.getD i P0).2.1 = true := hb0
  have hl : @List.length PT.T r.1 = r.1.length := rfl
  have hV : (r.1.getD i P0).2.2.2.1 = pV r.1 i := rfl
  have hO : (r.1.getD i P0).2.2.2.2.1 = pO r.1 i := rfl
  have hL : (r.1.getD i P0).2.2.1 = pL r.1 i := rfl
  have hR : (r.1.getD i P0).2.2.2.2.2.1 = pR r.1 i := rfl
  have q3 : 0 ≤ (i : Int) ∧ i < (sp3 r.1 i (pO r.1 i)).length := ⟨by omega, sp3_len hp⟩
  have q5 : i < (sp6 (sp3 r.1 i (pO r.1 i)) i 1).length := by unfold sp6; rw [List.length_set]; exact sp3_len hp
  have q4 : 0 ≤ (i : Int) ∧ i < (sp4 r.1 i v).length := ⟨by omega, sp4_len hp⟩
  have hU : pV (sp6 (sp3 r.1 i (pO r.1 i)) i 1) i = pO r.1 i := by rw [sp_v hp]; exact getV_setV hp
  refine FnM.of_body tys_ok Try.func67 (by rfl) rfl Try.ntmps67 (by rw [Try.results67]) (by simp) ?_
  
  repeat' (first
 | refine W.seq ?_
 | refine W.block ?_
 | (refine W.regionM (id := 13) tys_ok [] [4] ?_; conv => whnf)
 | (refine W.drawPhTo (id := 11) tys_ok [] mixed [0, 1, 2, 4, 8, 24, 8, 72, 136, 264, 552, 1032, 2056] [([0], 1, 3), ([2, 3, 4, 6, 7, 8], 2, 1023), ([10, 11, 12], 0, 8191)] ⟨[(0, .padr 1000000000 0), (1, (.lit (.int .i64 (i : Int)))), (5, .padr 6000 0), (6, .oadr 1000000001 7 i 0), (60, .lit (.bool (decide (k = 1) && decide (v = pV r.1 i))))], [(1000000000, .box [.lit (.bool true), .lit (.bool pet), .own 1000000001, .mown 5, (.lit (.int .i64 ((r).2.2 : Int)))]), (1000000001, .row 105 PT true (r).1), (5, .mat 80 91 NT true (r).2.1 none), (6000, .box [(.lit (.int .i64 (k : Int))), (.lit (.int .i64 (v : Int)))])]⟩ (by decide +kernel) ?_ ?_ <;> (conv => whnf))
 | (refine W.drawPhTo (id := 17) tys_ok [] mixed [0, 1, 2, 4, 0, 16, 32, 64, 136, 256, 512, 1536, 2560, 4608, 512, 16896, 41472, 66048, 131584] [([0, 1, 2, 4, 5, 6], 2, 255), ([8, 9, 10, 11, 12, 14], 2, 65535), ([16, 17, 18], 0, 524287)] ⟨[(0, .padr 1000000000 0), (1, (.lit (.int .i64 (i : Int)))), (5, .padr 6000 0), (6, .oadr 1000000001 7 i 0), (101, .lit (.bool (decide (pV r.1 i < pO r.1 i) && decide (v < pO r.1 i))))], [(1000000000, .box [.lit (.bool true), .lit (.bool pet), .own 1000000001, .mown 5, (.lit (.int .i64 ((r).2.2 : Int)))]), (1000000001, .row 105 PT true (r).1), (5, .mat 80 91 NT true (r).2.1 none), (6000, .box [(.lit (.int .i64 (k : Int))), (.lit (.int .i64 (v : Int)))])]⟩ (by decide +kernel) ?_ ?_ <;> (conv => whnf))
 | (refine W.region tys_ok [] ?_; conv => whnf)
 | (refine W.drawAll tys_ok [] mixed rfl ?_; conv => whnf)
 | (refine W.ret ?_; conv => whnf)
 | (refine W.skip ?_; conv => whnf)
 | (refine W.exit ?_; conv => whnf)
 | (refine callM_at (c1) ?_; conv => whnf)
 | (refine Both.mk ?_ ?_ <;> (conv => whnf))
 | (refine W.cond rfl (fun hb => ?_) (fun hb => ?_) <;> (try simp only [Int.reduceToNat, Int.reduceTDiv, Int.reduceTMod, minL, maxL, pickB, zHB, zSH] at hb) <;> (try (first | (cases hb; done) | exact absurd hb (by decide) | (exfalso; omega) | (omega) | ((simp at hb; omega)) | ((simp_all; done)))))
 | (refine Or.inl (And.intro ?_ ?_); (focus (first | exact trivial | exact ⟨rfl, trivial⟩ | (refine ⟨?_, trivial⟩; dsimp only; simp only [Int.reduceToNat, Int.reduceTDiv, Int.reduceTMod, minL, maxL, pickB, zHB, zSH]; omega) | (refine ⟨?_, trivial⟩; dsimp only; (try simp only [Int.reduceToNat, Int.reduceTDiv, Int.reduceTMod, minL, maxL, pickB, zHB, zSH]); (simp_all; done)) | (refine ⟨?_, trivial⟩; dsimp only; (simp only [Int.reduceToNat, Int.reduceTDiv, Int.reduceTMod, minL, maxL, pickB, zHB, zSH]; done)) | (refine ⟨?_, trivial⟩; dsimp only; (simp; done)))); (conv => whnf))
 | (refine Or.inr (And.intro ?_ ?_); (focus (intro h; have h := h.1; dsimp only at h; first | (exact Bool.noConfusion h) | (simp only [Int.reduceToNat, Int.reduceTDiv, Int.reduceTMod, minL, maxL, pickB, zHB, zSH] at h; omega) | ((try simp only [Int.reduceToNat, Int.reduceTDiv, Int.reduceTMod, minL, maxL, pickB, zHB, zSH] at h); (simp_all; done)))); (conv => whnf))
 | ((with_reducible refine And.intro ?_ ?_); (focus (first | (with_reducible rfl) | omega | rfl | ((try simp only [Int.reduceToNat, Int.reduceTDiv, Int.reduceTMod, minL, maxL, pickB, zHB, zSH, InK, Path.imp, zL] at *); omega))); (conv => whnf))
 | ((with_reducible refine And.intro (Side.out ?_) ?_); rotate_left; (conv => whnf))
 | ((first | refine retM1 ?_ | refine retM2 ?_ | refine subF.leaf ?_ | refine subF.side ?_) <;> (conv => whnf) <;> repeat' (first
 | exact trivial
 | (with_reducible rfl)
 | ((with_reducible refine And.intro ?_ ?_) <;> conv => whnf)
 | omega
 | rfl
 | (refine congrArg (SV.arr _) ?_)
 | (refine congrArg (Value.int _) ?_)
 | (refine congrArg Value.bool ?_)))); all_goals (try unfold Side)
  all_goals try (repeat' (first | (with_reducible rfl) | (with_reducible refine And.intro ?_ ?_) | omega | rfl | exact Or.inl rfl | exact Or.inr rfl | exact of_decide_eq_true rfl | exact Path.imp_of (of_decide_eq_true rfl) | (focus ((try simp only [Int.reduceToNat, Int.reduceTDiv, Int.reduceTMod, minL, maxL, pickB, zHB, zSH, InK, Path.imp, zL] at *); omega)) | (refine app_le rfl ?_; omega)))
  all_goals first | rfl | exact sp3_len hp | exact sp4_len hp | exact Path.imp_of q3 | exact Path.imp_of q5 | exact Path.imp_of q4 | exact sp_no hp | exact sp_v hp | exact congrArg _ (sp_no hp) | exact congrArg _ (sp_v hp) | exact hU | skip
set_option maxHeartbeats 1000000 in
theorem peter_note_b {i : Nat} {k v : Int} (hp : i < r.1.length) (hb0 : pB r.1 i = true) (hi : i < r.2.1.length) (hf : ((r.2.1.getD i []).length : Int) ≤ r.2.2) (hs : 0 ≤ r.2.2 ∧ r.2.2 ≤ 1000000) (hk : k ≠ 3) (h1 : pR r.1 i = false) (h2 : k = 1) (h3 : v ≠ pV r.1 i) :
    FnM Try.prog 67 [.padr 1000000000 0, (.lit (.int .i64 (i : Int))), .strct [(.lit (.int .i64 (k : Int))), (.lit (.int .i64 (v : Int)))]] [(1000000000, .box [.lit (.bool true), .lit (.bool pet), .own 1000000001, .mown 5, (.lit (.int .i64 ((r).2.2 : Int)))]), (1000000001, .row 105 PT true (r).1), (5, .mat 80 91 NT true (r).2.1 none)] (.tup []) [(1000000000, .box [.lit (.bool true), .lit (.bool pet), .own 1000000001, .mown 5, (.lit (.int .i64 (((sendR i 2 v (setNo r.1 i v, r.2))).2.2 : Int)))]), (1000000001, .row 105 PT true ((sendR i 2 v (setNo r.1 i v, r.2))).1), (5, .mat 80 91 NT true ((sendR i 2 v (setNo r.1 i v, r.2))).2.1 none)] := by
  have c1 := sendp_at (pet := pet) (r := (setNo r.1 i v, r.2)) (i := i) (k := 2) (v := v) hi hf hs
  have hb1 : (r.1.getD i P0).2.1 = true := hb0
  have hl : @List.length PT.T r.1 = r.1.length := rfl
  have hV : (r.1.getD i P0).2.2.2.1 = pV r.1 i := rfl
  have hO : (r.1.getD i P0).2.2.2.2.1 = pO r.1 i := rfl
  have hL : (r.1.getD i P0).2.2.1 = pL r.1 i := rfl
  have hR : (r.1.getD i P0).2.2.2.2.2.1 = pR r.1 i := rfl
  have q3 : 0 ≤ (i : Int) ∧ i < (sp3 r.1 i (pO r.1 i)).length := ⟨by omega, sp3_len hp⟩
  have q5 : i < (sp6 (sp3 r.1 i (pO r.1 i)) i 1).length := by unfold sp6; rw [List.length_set]; exact sp3_len hp
  have q4 : 0 ≤ (i : Int) ∧ i < (sp4 r.1 i v).length := ⟨by omega, sp4_len hp⟩
  have hU : pV (sp6 (sp3 r.1 i (pO r.1 i)) i 1) i = pO r.1 i := by rw [sp_v hp]; exact getV_setV hp
  refine FnM.of_body tys_ok Try.func67 (by rfl) rfl Try.ntmps67 (by rw [Try.results67]) (by simp) ?_
  
  repeat' (first
 | refine W.seq ?_
 | refine W.block ?_
 | (refine W.regionM (id := 16) tys_ok [] [4] ?_; conv => whnf)
 | (refine W.drawPhTo (id := 11) tys_ok [] mixed [0, 1, 2, 4, 8, 24, 8, 72, 136, 264, 552, 1032, 2056] [([0], 1, 3), ([2, 3, 4, 6, 7, 8], 2, 1023), ([10, 11, 12], 0, 8191)] ⟨[(0, .padr 1000000000 0), (1, (.lit (.int .i64 (i : Int)))), (5, .padr 6000 0), (6, .oadr 1000000001 7 i 0), (60, .lit (.bool (decide (k = 1) && decide (v = pV r.1 i))))], [(1000000000, .box [.lit (.bool true), .lit (.bool pet), .own 1000000001, .mown 5, (.lit (.int .i64 ((r).2.2 : Int)))]), (1000000001, .row 105 PT true (r).1), (5, .mat 80 91 NT true (r).2.1 none), (6000, .box [(.lit (.int .i64 (k : Int))), (.lit (.int .i64 (v : Int)))])]⟩ (by decide +kernel) ?_ ?_ <;> (conv => whnf))
 | (refine W.drawPhTo (id := 17) tys_ok [] mixed [0, 1, 2, 4, 0, 16, 32, 64, 136, 256, 512, 1536, 2560, 4608, 512, 16896, 41472, 66048, 131584] [([0, 1, 2, 4, 5, 6], 2, 255), ([8, 9, 10, 11, 12, 14], 2, 65535), ([16, 17, 18], 0, 524287)] ⟨[(0, .padr 1000000000 0), (1, (.lit (.int .i64 (i : Int)))), (5, .padr 6000 0), (6, .oadr 1000000001 7 i 0), (101, .lit (.bool (decide (pV r.1 i < pO r.1 i) && decide (v < pO r.1 i))))], [(1000000000, .box [.lit (.bool true), .lit (.bool pet), .own 1000000001, .mown 5, (.lit (.int .i64 ((r).2.2 : Int)))]), (1000000001, .row 105 PT true (r).1), (5, .mat 80 91 NT true (r).2.1 none), (6000, .box [(.lit (.int .i64 (k : Int))), (.lit (.int .i64 (v : Int)))])]⟩ (by decide +kernel) ?_ ?_ <;> (conv => whnf))
 | (refine W.region tys_ok [] ?_; conv => whnf)
 | (refine W.drawAll tys_ok [] mixed rfl ?_; conv => whnf)
 | (refine W.ret ?_; conv => whnf)
 | (refine W.skip ?_; conv => whnf)
 | (refine W.exit ?_; conv => whnf)
 | (refine callM_at (c1) ?_; conv => whnf)
 | (refine Both.mk ?_ ?_ <;> (conv => whnf))
 | (refine W.cond rfl (fun hb => ?_) (fun hb => ?_) <;> (try simp only [Int.reduceToNat, Int.reduceTDiv, Int.reduceTMod, minL, maxL, pickB, zHB, zSH] at hb) <;> (try (first | (cases hb; done) | exact absurd hb (by decide) | (exfalso; omega) | (omega) | ((simp at hb; omega)) | ((simp_all; done)))))
 | (refine Or.inl (And.intro ?_ ?_); (focus (first | exact trivial | exact ⟨rfl, trivial⟩ | (refine ⟨?_, trivial⟩; dsimp only; simp only [Int.reduceToNat, Int.reduceTDiv, Int.reduceTMod, minL, maxL, pickB, zHB, zSH]; omega) | (refine ⟨?_, trivial⟩; dsimp only; (try simp only [Int.reduceToNat, Int.reduceTDiv, Int.reduceTMod, minL, maxL, pickB, zHB, zSH]); (simp_all; done)) | (refine ⟨?_, trivial⟩; dsimp only; (simp only [Int.reduceToNat, Int.reduceTDiv, Int.reduceTMod, minL, maxL, pickB, zHB, zSH]; done)) | (refine ⟨?_, trivial⟩; dsimp only; (simp; done)))); (conv => whnf))
 | (refine Or.inr (And.intro ?_ ?_); (focus (intro h; have h := h.1; dsimp only at h; first | (exact Bool.noConfusion h) | (simp only [Int.reduceToNat, Int.reduceTDiv, Int.reduceTMod, minL, maxL, pickB, zHB, zSH] at h; omega) | ((try simp only [Int.reduceToNat, Int.reduceTDiv, Int.reduceTMod, minL, maxL, pickB, zHB, zSH] at h); (simp_all; done)))); (conv => whnf))
 | ((with_reducible refine And.intro ?_ ?_); (focus (first | (with_reducible rfl) | omega | rfl | ((try simp only [Int.reduceToNat, Int.reduceTDiv, Int.reduceTMod, minL, maxL, pickB, zHB, zSH, InK, Path.imp, zL] at *); omega))); (conv => whnf))
 | ((with_reducible refine And.intro (Side.out ?_) ?_); rotate_left; (conv => whnf))
 | ((first | refine retM1 ?_ | refine retM2 ?_ | refine subF.leaf ?_ | refine subF.side ?_) <;> (conv => whnf) <;> repeat' (first
 | exact trivial
 | (with_reducible rfl)
 | ((with_reducible refine And.intro ?_ ?_) <;> conv => whnf)
 | omega
 | rfl
 | (refine congrArg (SV.arr _) ?_)
 | (refine congrArg (Value.int _) ?_)
 | (refine congrArg Value.bool ?_)))); all_goals (try unfold Side)
  all_goals try (repeat' (first | (with_reducible rfl) | (with_reducible refine And.intro ?_ ?_) | omega | rfl | exact Or.inl rfl | exact Or.inr rfl | exact of_decide_eq_true rfl | exact Path.imp_of (of_decide_eq_true rfl) | (focus ((try simp only [Int.reduceToNat, Int.reduceTDiv, Int.reduceTMod, minL, maxL, pickB, zHB, zSH, InK, Path.imp, zL] at *); omega)) | (refine app_le rfl ?_; omega)))
  all_goals first | rfl | exact sp3_len hp | exact sp4_len hp | exact Path.imp_of q3 | exact Path.imp_of q5 | exact Path.imp_of q4 | exact sp_no hp | exact sp_v hp | exact congrArg _ (sp_no hp) | exact congrArg _ (sp_v hp) | exact hU | skip
set_option maxHeartbeats 1000000 in
theorem peter_up_b {i : Nat} {k v : Int} (hp : i < r.1.length) (hb0 : pB r.1 i = true) (hi : i < r.2.1.length) (hf : ((r.2.1.getD i []).length : Int) ≤ r.2.2) (hs : 0 ≤ r.2.2 ∧ r.2.2 ≤ 1000000) (hk : k ≠ 3) (h1 : pR r.1 i = false) (h2 : k ≠ 1) (h3 : pV r.1 i < pO r.1 i) (h4 : v < pO r.1 i) :
    FnM Try.prog 67 [.padr 1000000000 0, (.lit (.int .i64 (i : Int))), .strct [(.lit (.int .i64 (k : Int))), (.lit (.int .i64 (v : Int)))]] [(1000000000, .box [.lit (.bool true), .lit (.bool pet), .own 1000000001, .mown 5, (.lit (.int .i64 ((r).2.2 : Int)))]), (1000000001, .row 105 PT true (r).1), (5, .mat 80 91 NT true (r).2.1 none)] (.tup []) [(1000000000, .box [.lit (.bool true), .lit (.bool pet), .own 1000000001, .mown 5, (.lit (.int .i64 (((sendR i 1 (pO r.1 i) (setV r.1 i, r.2))).2.2 : Int)))]), (1000000001, .row 105 PT true ((sendR i 1 (pO r.1 i) (setV r.1 i, r.2))).1), (5, .mat 80 91 NT true ((sendR i 1 (pO r.1 i) (setV r.1 i, r.2))).2.1 none)] := by
  have c1 := sendp_at (pet := pet) (r := (setV r.1 i, r.2)) (i := i) (k := 1) (v := pO r.1 i) hi hf hs
  have hb1 : (r.1.getD i P0).2.1 = true := hb0
  have hl : @List.length PT.T r.1 = r.1.length := rfl
  have hV : (r.1.getD i P0).2.2.2.1 = pV r.1 i := rfl
  have hO : (r.1.getD i P0).2.2.2.2.1 = pO r.1 i := rfl
  have hL : (r.1.getD i P0).2.2.1 = pL r.1 i := rfl
  have hR : (r.1.getD i P0).2.2.2.2.2.1 = pR r.1 i := rfl
  have q3 : 0 ≤ (i : Int) ∧ i < (sp3 r.1 i (pO r.1 i)).length := ⟨by omega, sp3_len hp⟩
  have q5 : i < (sp6 (sp3 r.1 i (pO r.1 i)) i 1).length := by unfold sp6; rw [List.length_set]; exact sp3_len hp
  have q4 : 0 ≤ (i : Int) ∧ i < (sp4 r.1 i v).length := ⟨by omega, sp4_len hp⟩
  have hU : pV (sp6 (sp3 r.1 i (pO r.1 i)) i 1) i = pO r.1 i := by rw [sp_v hp]; exact getV_setV hp
  refine FnM.of_body tys_ok Try.func67 (by rfl) rfl Try.ntmps67 (by rw [Try.results67]) (by simp) ?_
  
  repeat' (first
 | refine W.seq ?_
 | refine W.block ?_
 | (refine W.regionM (id := 19) tys_ok [] [6] ?_; conv => whnf)
 | (refine W.drawPhTo (id := 11) tys_ok [] mixed [0, 1, 2, 4, 8, 24, 8, 72, 136, 264, 552, 1032, 2056] [([0], 1, 3), ([2, 3, 4, 6, 7, 8], 2, 1023), ([10, 11, 12], 0, 8191)] ⟨[(0, .padr 1000000000 0), (1, (.lit (.int .i64 (i : Int)))), (5, .padr 6000 0), (6, .oadr 1000000001 7 i 0), (60, .lit (.bool (decide (k = 1) && decide (v = pV r.1 i))))], [(1000000000, .box [.lit (.bool true), .lit (.bool pet), .own 1000000001, .mown 5, (.lit (.int .i64 ((r).2.2 : Int)))]), (1000000001, .row 105 PT true (r).1), (5, .mat 80 91 NT true (r).2.1 none), (6000, .box [(.lit (.int .i64 (k : Int))), (.lit (.int .i64 (v : Int)))])]⟩ (by decide +kernel) ?_ ?_ <;> (conv => whnf))
 | (refine W.drawPhTo (id := 17) tys_ok [] mixed [0, 1, 2, 4, 0, 16, 32, 64, 136, 256, 512, 1536, 2560, 4608, 512, 16896, 41472, 66048, 131584] [([0, 1, 2, 4, 5, 6], 2, 255), ([8, 9, 10, 11, 12, 14], 2, 65535), ([16, 17, 18], 0, 524287)] ⟨[(0, .padr 1000000000 0), (1, (.lit (.int .i64 (i : Int)))), (5, .padr 6000 0), (6, .oadr 1000000001 7 i 0), (101, .lit (.bool (decide (pV r.1 i < pO r.1 i) && decide (v < pO r.1 i))))], [(1000000000, .box [.lit (.bool true), .lit (.bool pet), .own 1000000001, .mown 5, (.lit (.int .i64 ((r).2.2 : Int)))]), (1000000001, .row 105 PT true (r).1), (5, .mat 80 91 NT true (r).2.1 none), (6000, .box [(.lit (.int .i64 (k : Int))), (.lit (.int .i64 (v : Int)))])]⟩ (by decide +kernel) ?_ ?_ <;> (conv => whnf))
 | (refine W.region tys_ok [] ?_; conv => whnf)
 | (refine W.drawAll tys_ok [] mixed rfl ?_; conv => whnf)
 | (refine W.ret ?_; conv => whnf)
 | (refine W.skip ?_; conv => whnf)
 | (refine W.exit ?_; conv => whnf)
 | (refine callM_at (c1) ?_; conv => whnf)
 | (refine Both.mk ?_ ?_ <;> (conv => whnf))
 | (refine W.cond rfl (fun hb => ?_) (fun hb => ?_) <;> (try simp only [Int.reduceToNat, Int.reduceTDiv, Int.reduceTMod, minL, maxL, pickB, zHB, zSH] at hb) <;> (try (first | (cases hb; done) | exact absurd hb (by decide) | (exfalso; omega) | (omega) | ((simp at hb; omega)) | ((simp_all; done)))))
 | (refine Or.inl (And.intro ?_ ?_); (focus (first | exact trivial | exact ⟨rfl, trivial⟩ | (refine ⟨?_, trivial⟩; dsimp only; simp only [Int.reduceToNat, Int.reduceTDiv, Int.reduceTMod, minL, maxL, pickB, zHB, zSH]; omega) | (refine ⟨?_, trivial⟩; dsimp only; (try simp only [Int.reduceToNat, Int.reduceTDiv, Int.reduceTMod, minL, maxL, pickB, zHB, zSH]); (simp_all; done)) | (refine ⟨?_, trivial⟩; dsimp only; (simp only [Int.reduceToNat, Int.reduceTDiv, Int.reduceTMod, minL, maxL, pickB, zHB, zSH]; done)) | (refine ⟨?_, trivial⟩; dsimp only; (simp; done)))); (conv => whnf))
 | (refine Or.inr (And.intro ?_ ?_); (focus (intro h; have h := h.1; dsimp only at h; first | (exact Bool.noConfusion h) | (simp only [Int.reduceToNat, Int.reduceTDiv, Int.reduceTMod, minL, maxL, pickB, zHB, zSH] at h; omega) | ((try simp only [Int.reduceToNat, Int.reduceTDiv, Int.reduceTMod, minL, maxL, pickB, zHB, zSH] at h); (simp_all; done)))); (conv => whnf))
 | ((with_reducible refine And.intro ?_ ?_); (focus (first | (with_reducible rfl) | omega | rfl | ((try simp only [Int.reduceToNat, Int.reduceTDiv, Int.reduceTMod, minL, maxL, pickB, zHB, zSH, InK, Path.imp, zL] at *); omega))); (conv => whnf))
 | ((with_reducible refine And.intro (Side.out ?_) ?_); rotate_left; (conv => whnf))
 | ((first | refine retM1 ?_ | refine retM2 ?_ | refine subF.leaf ?_ | refine subF.side ?_) <;> (conv => whnf) <;> repeat' (first
 | exact trivial
 | (with_reducible rfl)
 | ((with_reducible refine And.intro ?_ ?_) <;> conv => whnf)
 | omega
 | rfl
 | (refine congrArg (SV.arr _) ?_)
 | (refine congrArg (Value.int _) ?_)
 | (refine congrArg Value.bool ?_)))); all_goals (try unfold Side)
  all_goals try (repeat' (first | (with_reducible rfl) | (with_reducible refine And.intro ?_ ?_) | omega | rfl | exact Or.inl rfl | exact Or.inr rfl | exact of_decide_eq_true rfl | exact Path.imp_of (of_decide_eq_true rfl) | (focus ((try simp only [Int.reduceToNat, Int.reduceTDiv, Int.reduceTMod, minL, maxL, pickB, zHB, zSH, InK, Path.imp, zL] at *); omega)) | (refine app_le rfl ?_; omega)))
  all_goals first | rfl | exact sp3_len hp | exact sp4_len hp | exact Path.imp_of q3 | exact Path.imp_of q5 | exact Path.imp_of q4 | exact sp_no hp | exact sp_v hp | exact congrArg _ (sp_no hp) | exact congrArg _ (sp_v hp) | exact hU | skip
set_option maxHeartbeats 1000000 in
theorem peter_down_b {i : Nat} {k v : Int} (hp : i < r.1.length) (hb0 : pB r.1 i = true) (hi : i < r.2.1.length) (hf : ((r.2.1.getD i []).length : Int) ≤ r.2.2) (hs : 0 ≤ r.2.2 ∧ r.2.2 ≤ 1000000) (hk : k ≠ 3) (h1 : pR r.1 i = false) (h2 : k ≠ 1) (h3 : ¬ (pV r.1 i < pO r.1 i ∧ v < pO r.1 i)) :
    FnM Try.prog 67 [.padr 1000000000 0, (.lit (.int .i64 (i : Int))), .strct [(.lit (.int .i64 (k : Int))), (.lit (.int .i64 (v : Int)))]] [(1000000000, .box [.lit (.bool true), .lit (.bool pet), .own 1000000001, .mown 5, (.lit (.int .i64 ((r).2.2 : Int)))]), (1000000001, .row 105 PT true (r).1), (5, .mat 80 91 NT true (r).2.1 none)] (.tup []) [(1000000000, .box [.lit (.bool true), .lit (.bool pet), .own 1000000001, .mown 5, (.lit (.int .i64 (((setR r.1 i, r.2)).2.2 : Int)))]), (1000000001, .row 105 PT true ((setR r.1 i, r.2)).1), (5, .mat 80 91 NT true ((setR r.1 i, r.2)).2.1 none)] := by
  have hb1 : (r.1.getD i P0).2.1 = true := hb0
  have hl : @List.length PT.T r.1 = r.1.length := rfl
  have hV : (r.1.getD i P0).2.2.2.1 = pV r.1 i := rfl
  have hO : (r.1.getD i P0).2.2.2.2.1 = pO r.1 i := rfl
  have hL : (r.1.getD i P0).2.2.1 = pL r.1 i := rfl
  have hR : (r.1.getD i P0).2.2.2.2.2.1 = pR r.1 i := rfl
  have q3 : 0 ≤ (i : Int) ∧ i < (sp3 r.1 i (pO r.1 i)).length := ⟨by omega, sp3_len hp⟩
  have q5 : i < (sp6 (sp3 r.1 i (pO r.1 i)) i 1).length := by unfold sp6; rw [List.length_set]; exact sp3_len hp
  have q4 : 0 ≤ (i : Int) ∧ i < (sp4 r.1 i v).length := ⟨by omega, sp4_len hp⟩
  have hU : pV (sp6 (sp3 r.1 i (pO r.1 i)) i 1) i = pO r.1 i := by rw [sp_v hp]; exact getV_setV hp
  refine FnM.of_body tys_ok Try.func67 (by rfl) rfl Try.ntmps67 (by rw [Try.results67]) (by simp) ?_
  
  repeat' (first
 | refine W.seq ?_
 | refine W.block ?_
 | (refine W.drawPhTo (id := 11) tys_ok [] mixed [0, 1, 2, 4, 8, 24, 8, 72, 136, 264, 552, 1032, 2056] [([0], 1, 3), ([2, 3, 4, 6, 7, 8], 2, 1023), ([10, 11, 12], 0, 8191)] ⟨[(0, .padr 1000000000 0), (1, (.lit (.int .i64 (i : Int)))), (5, .padr 6000 0), (6, .oadr 1000000001 7 i 0), (60, .lit (.bool (decide (k = 1) && decide (v = pV r.1 i))))], [(1000000000, .box [.lit (.bool true), .lit (.bool pet), .own 1000000001, .mown 5, (.lit (.int .i64 ((r).2.2 : Int)))]), (1000000001, .row 105 PT true (r).1), (5, .mat 80 91 NT true (r).2.1 none), (6000, .box [(.lit (.int .i64 (k : Int))), (.lit (.int .i64 (v : Int)))])]⟩ (by decide +kernel) ?_ ?_ <;> (conv => whnf))
 | (refine W.drawPhTo (id := 17) tys_ok [] mixed [0, 1, 2, 4, 0, 16, 32, 64, 136, 256, 512, 1536, 2560, 4608, 512, 16896, 41472, 66048, 131584] [([0, 1, 2, 4, 5, 6], 2, 255), ([8, 9, 10, 11, 12, 14], 2, 65535), ([16, 17, 18], 0, 524287)] ⟨[(0, .padr 1000000000 0), (1, (.lit (.int .i64 (i : Int)))), (5, .padr 6000 0), (6, .oadr 1000000001 7 i 0), (101, .lit (.bool (decide (pV r.1 i < pO r.1 i) && decide (v < pO r.1 i))))], [(1000000000, .box [.lit (.bool true), .lit (.bool pet), .own 1000000001, .mown 5, (.lit (.int .i64 ((r).2.2 : Int)))]), (1000000001, .row 105 PT true (r).1), (5, .mat 80 91 NT true (r).2.1 none), (6000, .box [(.lit (.int .i64 (k : Int))), (.lit (.int .i64 (v : Int)))])]⟩ (by decide +kernel) ?_ ?_ <;> (conv => whnf))
 | (refine W.region tys_ok [] ?_; conv => whnf)
 | (refine W.drawAll tys_ok [] mixed rfl ?_; conv => whnf)
 | (refine W.ret ?_; conv => whnf)
 | (refine W.skip ?_; conv => whnf)
 | (refine W.exit ?_; conv => whnf)
 | (refine Both.mk ?_ ?_ <;> (conv => whnf))
 | (refine W.cond rfl (fun hb => ?_) (fun hb => ?_) <;> (try simp only [Int.reduceToNat, Int.reduceTDiv, Int.reduceTMod, minL, maxL, pickB, zHB, zSH] at hb) <;> (try (first | (cases hb; done) | exact absurd hb (by decide) | (exfalso; omega) | (omega) | ((simp at hb; omega)) | ((simp_all; done)))))
 | ((with_reducible refine And.intro ?_ ?_); (focus (first | (with_reducible rfl) | omega | rfl | ((try simp only [Int.reduceToNat, Int.reduceTDiv, Int.reduceTMod, minL, maxL, pickB, zHB, zSH, InK, Path.imp, zL] at *); omega))); (conv => whnf))
 | ((with_reducible refine And.intro (Side.out ?_) ?_); rotate_left; (conv => whnf))
 | ((first | refine retM1 ?_ | refine retM2 ?_ | refine subF.leaf ?_ | refine subF.side ?_) <;> (conv => whnf) <;> repeat' (first
 | exact trivial
 | (with_reducible rfl)
 | ((with_reducible refine And.intro ?_ ?_) <;> conv => whnf)
 | omega
 | rfl
 | (refine congrArg (SV.arr _) ?_)
 | (refine congrArg (Value.int _) ?_)
 | (refine congrArg Value.bool ?_)))); all_goals (try unfold Side)
  all_goals try (repeat' (first | (with_reducible rfl) | (with_reducible refine And.intro ?_ ?_) | omega | rfl | exact Or.inl rfl | exact Or.inr rfl | exact of_decide_eq_true rfl | exact Path.imp_of (of_decide_eq_true rfl) | (focus ((try simp only [Int.reduceToNat, Int.reduceTDiv, Int.reduceTMod, minL, maxL, pickB, zHB, zSH, InK, Path.imp, zL] at *); omega)) | (refine app_le rfl ?_; omega)))
  all_goals first | rfl | exact sp3_len hp | exact sp4_len hp | exact Path.imp_of q3 | exact Path.imp_of q5 | exact Path.imp_of q4 | exact sp_no hp | exact sp_v hp | exact congrArg _ (sp_no hp) | exact congrArg _ (sp_v hp) | exact hU | skip
set_option maxHeartbeats 1000000 in
theorem peter_lead0_u {i : Nat} {k v : Int} (hp0 : i < r.1.length) (hi0 : i < r.2.1.length) (hf0 : ((r.2.1.getD i []).length : Int) ≤ r.2.2) (hs0 : 0 ≤ r.2.2 ∧ r.2.2 ≤ 1000000) (hb0 : pB r.1 i = false) (hp : i < (beginR i r).1.length) (hi : i < (beginR i r).2.1.length) (hf : (((beginR i r).2.1.getD i []).length : Int) ≤ (beginR i r).2.2) (hs : 0 ≤ (beginR i r).2.2 ∧ (beginR i r).2.2 ≤ 1000000) (hk : k = 3) (h1 : pL (beginR i r).1 i = 0) :
    FnM Try.prog 67 [.padr 1000000000 0, (.lit (.int .i64 (i : Int))), .strct [(.lit (.int .i64 (k : Int))), (.lit (.int .i64 (v : Int)))]] [(1000000000, .box [.lit (.bool true), .lit (.bool pet), .own 1000000001, .mown 5, (.lit (.int .i64 ((r).2.2 : Int)))]), (1000000001, .row 105 PT true (r).1), (5, .mat 80 91 NT true (r).2.1 none)] (.tup []) [(1000000000, .box [.lit (.bool true), .lit (.bool pet), .own 1000000001, .mown 5, (.lit (.int .i64 (((sendR i k v (setL (beginR i r).1 i v, (beginR i r).2))).2.2 : Int)))]), (1000000001, .row 105 PT true ((sendR i k v (setL (beginR i r).1 i v, (beginR i r).2))).1), (5, .mat 80 91 NT true ((sendR i k v (setL (beginR i r).1 i v, (beginR i r).2))).2.1 none)] := by
  have c1 := sendp_at (pet := pet) (r := (setL (beginR i r).1 i v, (beginR i r).2)) (i := i) (k := k) (v := v) hi hf hs
  have hb1 : (r.1.getD i P0).2.1 = false := hb0
  have hl0 : @List.length PT.T r.1 = r.1.length := rfl
  have c0 := begin_ring (pet := pet) hp0 hi0 hf0 hs0
  have hl : @List.length PT.T (beginR i r).1 = (beginR i r).1.length := rfl
  have hV : ((beginR i r).1.getD i P0).2.2.2.1 = pV (beginR i r).1 i := rfl
  have hO : ((beginR i r).1.getD i P0).2.2.2.2.1 = pO (beginR i r).1 i := rfl
  have hL : ((beginR i r).1.getD i P0).2.2.1 = pL (beginR i r).1 i := rfl
  have hR : ((beginR i r).1.getD i P0).2.2.2.2.2.1 = pR (beginR i r).1 i := rfl
  have q3 : 0 ≤ (i : Int) ∧ i < (sp3 (beginR i r).1 i (pO (beginR i r).1 i)).length := ⟨by omega, sp3_len hp⟩
  have q5 : i < (sp6 (sp3 (beginR i r).1 i (pO (beginR i r).1 i)) i 1).length := by unfold sp6; rw [List.length_set]; exact sp3_len hp
  have q4 : 0 ≤ (i : Int) ∧ i < (sp4 (beginR i r).1 i v).length := ⟨by omega, sp4_len hp⟩
  have hU : pV (sp6 (sp3 (beginR i r).1 i (pO (beginR i r).1 i)) i 1) i = pO (beginR i r).1 i := by rw [sp_v hp]; exact getV_setV hp
  refine FnM.of_body tys_ok Try.func67 (by rfl) rfl Try.ntmps67 (by rw [Try.results67]) (by simp) ?_
  
  repeat' (first
 | refine W.seq ?_
 | refine W.block ?_
 | (refine W.regionM (id := 3) tys_ok [] [2] ?_; conv => whnf)
 | (refine W.regionM (id := 8) tys_ok [] [6] ?_; conv => whnf)
 | (refine W.drawPhTo (id := 11) tys_ok [] mixed [0, 1, 2, 4, 8, 24, 8, 72, 136, 264, 552, 1032, 2056] [([0], 1, 3), ([2, 3, 4, 6, 7, 8], 2, 1023), ([10, 11, 12], 0, 8191)] ⟨[(0, .padr 1000000000 0), (1, (.lit (.int .i64 (i : Int)))), (5, .padr 6000 0), (6, .oadr 1000000001 7 i 0), (60, .lit (.bool (decide (k = 1) && decide (v = pV (beginR i r).1 i))))], [(1000000000, .box [.lit (.bool true), .lit (.bool pet), .own 1000000001, .mown 5, (.lit (.int .i64 (((beginR i r)).2.2 : Int)))]), (1000000001, .row 105 PT true ((beginR i r)).1), (5, .mat 80 91 NT true ((beginR i r)).2.1 none), (6000, .box [(.lit (.int .i64 (k : Int))), (.lit (.int .i64 (v : Int)))])]⟩ (by decide +kernel) ?_ ?_ <;> (conv => whnf))
 | (refine W.drawPhTo (id := 17) tys_ok [] mixed [0, 1, 2, 4, 0, 16, 32, 64, 136, 256, 512, 1536, 2560, 4608, 512, 16896, 41472, 66048, 131584] [([0, 1, 2, 4, 5, 6], 2, 255), ([8, 9, 10, 11, 12, 14], 2, 65535), ([16, 17, 18], 0, 524287)] ⟨[(0, .padr 1000000000 0), (1, (.lit (.int .i64 (i : Int)))), (5, .padr 6000 0), (6, .oadr 1000000001 7 i 0), (101, .lit (.bool (decide (pV (beginR i r).1 i < pO (beginR i r).1 i) && decide (v < pO (beginR i r).1 i))))], [(1000000000, .box [.lit (.bool true), .lit (.bool pet), .own 1000000001, .mown 5, (.lit (.int .i64 (((beginR i r)).2.2 : Int)))]), (1000000001, .row 105 PT true ((beginR i r)).1), (5, .mat 80 91 NT true ((beginR i r)).2.1 none), (6000, .box [(.lit (.int .i64 (k : Int))), (.lit (.int .i64 (v : Int)))])]⟩ (by decide +kernel) ?_ ?_ <;> (conv => whnf))
 | (refine W.region tys_ok [] ?_; conv => whnf)
 | (refine W.drawAll tys_ok [] mixed rfl ?_; conv => whnf)
 | (refine W.ret ?_; conv => whnf)
 | (refine W.skip ?_; conv => whnf)
 | (refine W.exit ?_; conv => whnf)
 | (refine callM_at (c0) ?_; conv => whnf)
 | (refine callM_at (c1) ?_; conv => whnf)
 | (refine Both.mk ?_ ?_ <;> (conv => whnf))
 | (refine W.cond rfl (fun hb => ?_) (fun hb => ?_) <;> (try simp only [Int.reduceToNat, Int.reduceTDiv, Int.reduceTMod, minL, maxL, pickB, zHB, zSH] at hb) <;> (try (first | (cases hb; done) | exact absurd hb (by decide) | (exfalso; omega) | (omega) | ((simp at hb; omega)) | ((simp_all; done)))))
 | (refine Or.inl (And.intro ?_ ?_); (focus (first | exact trivial | exact ⟨rfl, trivial⟩ | (refine ⟨?_, trivial⟩; dsimp only; simp only [Int.reduceToNat, Int.reduceTDiv, Int.reduceTMod, minL, maxL, pickB, zHB, zSH]; omega) | (refine ⟨?_, trivial⟩; dsimp only; (try simp only [Int.reduceToNat, Int.reduceTDiv, Int.reduceTMod, minL, maxL, pickB, zHB, zSH]); (simp_all; done)) | (refine ⟨?_, trivial⟩; dsimp only; (simp only [Int.reduceToNat, Int.reduceTDiv, Int.reduceTMod, minL, maxL, pickB, zHB, zSH]; done)) | (refine ⟨?_, trivial⟩; dsimp only; (simp; done)))); (conv => whnf))
 | (refine Or.inr (And.intro ?_ ?_); (focus (intro h; have h := h.1; dsimp only at h; first | (exact Bool.noConfusion h) | (simp only [Int.reduceToNat, Int.reduceTDiv, Int.reduceTMod, minL, maxL, pickB, zHB, zSH] at h; omega) | ((try simp only [Int.reduceToNat, Int.reduceTDiv, Int.reduceTMod, minL, maxL, pickB, zHB, zSH] at h); (simp_all; done)))); (conv => whnf))
 | ((with_reducible refine And.intro ?_ ?_); (focus (first | (with_reducible rfl) | omega | rfl | ((try simp only [Int.reduceToNat, Int.reduceTDiv, Int.reduceTMod, minL, maxL, pickB, zHB, zSH, InK, Path.imp, zL] at *); omega))); (conv => whnf))
 | ((with_reducible refine And.intro (Side.out ?_) ?_); rotate_left; (conv => whnf))
 | ((first | refine retM1 ?_ | refine retM2 ?_ | refine subF.leaf ?_ | refine subF.side ?_) <;> (conv => whnf) <;> repeat' (first
 | exact trivial
 | (with_reducible rfl)
 | ((with_reducible refine And.intro ?_ ?_) <;> conv => whnf)
 | omega
 | rfl
 | (refine congrArg (SV.arr _) ?_)
 | (refine congrArg (Value.int _) ?_)
 | (refine congrArg Value.bool ?_)))); all_goals (try unfold Side)
  all_goals try (repeat' (first | (with_reducible rfl) | (with_reducible refine And.intro ?_ ?_) | omega | rfl | exact Or.inl rfl | exact Or.inr rfl | exact of_decide_eq_true rfl | exact Path.imp_of (of_decide_eq_true rfl) | (focus ((try simp only [Int.reduceToNat, Int.reduceTDiv, Int.reduceTMod, minL, maxL, pickB, zHB, zSH, InK, Path.imp, zL] at *); omega)) | (refine app_le rfl ?_; omega)))
  all_goals first | rfl | exact sp3_len hp | exact sp4_len hp | exact Path.imp_of q3 | exact Path.imp_of q5 | exact Path.imp_of q4 | exact sp_no hp | exact sp_v hp | exact congrArg _ (sp_no hp) | exact congrArg _ (sp_v hp) | exact hU | skip
set_option maxHeartbeats 1000000 in
theorem peter_lead1_u {i : Nat} {k v : Int} (hp0 : i < r.1.length) (hi0 : i < r.2.1.length) (hf0 : ((r.2.1.getD i []).length : Int) ≤ r.2.2) (hs0 : 0 ≤ r.2.2 ∧ r.2.2 ≤ 1000000) (hb0 : pB r.1 i = false) (hp : i < (beginR i r).1.length) (hi : i < (beginR i r).2.1.length) (hf : (((beginR i r).2.1.getD i []).length : Int) ≤ (beginR i r).2.2) (hs : 0 ≤ (beginR i r).2.2 ∧ (beginR i r).2.2 ≤ 1000000) (hk : k = 3) (h1 : pL (beginR i r).1 i ≠ 0) :
    FnM Try.prog 67 [.padr 1000000000 0, (.lit (.int .i64 (i : Int))), .strct [(.lit (.int .i64 (k : Int))), (.lit (.int .i64 (v : Int)))]] [(1000000000, .box [.lit (.bool true), .lit (.bool pet), .own 1000000001, .mown 5, (.lit (.int .i64 ((r).2.2 : Int)))]), (1000000001, .row 105 PT true (r).1), (5, .mat 80 91 NT true (r).2.1 none)] (.tup []) [(1000000000, .box [.lit (.bool true), .lit (.bool pet), .own 1000000001, .mown 5, (.lit (.int .i64 (((beginR i r)).2.2 : Int)))]), (1000000001, .row 105 PT true ((beginR i r)).1), (5, .mat 80 91 NT true ((beginR i r)).2.1 none)] := by
  have hb1 : (r.1.getD i P0).2.1 = false := hb0
  have hl0 : @List.length PT.T r.1 = r.1.length := rfl
  have c0 := begin_ring (pet := pet) hp0 hi0 hf0 hs0
  have hl : @List.length PT.T (beginR i r).1 = (beginR i r).1.length := rfl
  have hV : ((beginR i r).1.getD i P0).2.2.2.1 = pV (beginR i r).1 i := rfl
  have hO : ((beginR i r).1.getD i P0).2.2.2.2.1 = pO (beginR i r).1 i := rfl
  have hL : ((beginR i r).1.getD i P0).2.2.1 = pL (beginR i r).1 i := rfl
  have hR : ((beginR i r).1.getD i P0).2.2.2.2.2.1 = pR (beginR i r).1 i := rfl
  have q3 : 0 ≤ (i : Int) ∧ i < (sp3 (beginR i r).1 i (pO (beginR i r).1 i)).length := ⟨by omega, sp3_len hp⟩
  have q5 : i < (sp6 (sp3 (beginR i r).1 i (pO (beginR i r).1 i)) i 1).length := by unfold sp6; rw [List.length_set]; exact sp3_len hp
  have q4 : 0 ≤ (i : Int) ∧ i < (sp4 (beginR i r).1 i v).length := ⟨by omega, sp4_len hp⟩
  have hU : pV (sp6 (sp3 (beginR i r).1 i (pO (beginR i r).1 i)) i 1) i = pO (beginR i r).1 i := by rw [sp_v hp]; exact getV_setV hp
  refine FnM.of_body tys_ok Try.func67 (by rfl) rfl Try.ntmps67 (by rw [Try.results67]) (by simp) ?_
  
  repeat' (first
 | refine W.seq ?_
 | refine W.block ?_
 | (refine W.regionM (id := 3) tys_ok [] [2] ?_; conv => whnf)
 | (refine W.drawPhTo (id := 11) tys_ok [] mixed [0, 1, 2, 4, 8, 24, 8, 72, 136, 264, 552, 1032, 2056] [([0], 1, 3), ([2, 3, 4, 6, 7, 8], 2, 1023), ([10, 11, 12], 0, 8191)] ⟨[(0, .padr 1000000000 0), (1, (.lit (.int .i64 (i : Int)))), (5, .padr 6000 0), (6, .oadr 1000000001 7 i 0), (60, .lit (.bool (decide (k = 1) && decide (v = pV (beginR i r).1 i))))], [(1000000000, .box [.lit (.bool true), .lit (.bool pet), .own 1000000001, .mown 5, (.lit (.int .i64 (((beginR i r)).2.2 : Int)))]), (1000000001, .row 105 PT true ((beginR i r)).1), (5, .mat 80 91 NT true ((beginR i r)).2.1 none), (6000, .box [(.lit (.int .i64 (k : Int))), (.lit (.int .i64 (v : Int)))])]⟩ (by decide +kernel) ?_ ?_ <;> (conv => whnf))
 | (refine W.drawPhTo (id := 17) tys_ok [] mixed [0, 1, 2, 4, 0, 16, 32, 64, 136, 256, 512, 1536, 2560, 4608, 512, 16896, 41472, 66048, 131584] [([0, 1, 2, 4, 5, 6], 2, 255), ([8, 9, 10, 11, 12, 14], 2, 65535), ([16, 17, 18], 0, 524287)] ⟨[(0, .padr 1000000000 0), (1, (.lit (.int .i64 (i : Int)))), (5, .padr 6000 0), (6, .oadr 1000000001 7 i 0), (101, .lit (.bool (decide (pV (beginR i r).1 i < pO (beginR i r).1 i) && decide (v < pO (beginR i r).1 i))))], [(1000000000, .box [.lit (.bool true), .lit (.bool pet), .own 1000000001, .mown 5, (.lit (.int .i64 (((beginR i r)).2.2 : Int)))]), (1000000001, .row 105 PT true ((beginR i r)).1), (5, .mat 80 91 NT true ((beginR i r)).2.1 none), (6000, .box [(.lit (.int .i64 (k : Int))), (.lit (.int .i64 (v : Int)))])]⟩ (by decide +kernel) ?_ ?_ <;> (conv => whnf))
 | (refine W.region tys_ok [] ?_; conv => whnf)
 | (refine W.drawAll tys_ok [] mixed rfl ?_; conv => whnf)
 | (refine W.ret ?_; conv => whnf)
 | (refine W.skip ?_; conv => whnf)
 | (refine W.exit ?_; conv => whnf)
 | (refine callM_at (c0) ?_; conv => whnf)
 | (refine Both.mk ?_ ?_ <;> (conv => whnf))
 | (refine W.cond rfl (fun hb => ?_) (fun hb => ?_) <;> (try simp only [Int.reduceToNat, Int.reduceTDiv, Int.reduceTMod, minL, maxL, pickB, zHB, zSH] at hb) <;> (try (first | (cases hb; done) | exact absurd hb (by decide) | (exfalso; omega) | (omega) | ((simp at hb; omega)) | ((simp_all; done)))))
 | (refine Or.inl (And.intro ?_ ?_); (focus (first | exact trivial | exact ⟨rfl, trivial⟩ | (refine ⟨?_, trivial⟩; dsimp only; simp only [Int.reduceToNat, Int.reduceTDiv, Int.reduceTMod, minL, maxL, pickB, zHB, zSH]; omega) | (refine ⟨?_, trivial⟩; dsimp only; (try simp only [Int.reduceToNat, Int.reduceTDiv, Int.reduceTMod, minL, maxL, pickB, zHB, zSH]); (simp_all; done)) | (refine ⟨?_, trivial⟩; dsimp only; (simp only [Int.reduceToNat, Int.reduceTDiv, Int.reduceTMod, minL, maxL, pickB, zHB, zSH]; done)) | (refine ⟨?_, trivial⟩; dsimp only; (simp; done)))); (conv => whnf))
 | (refine Or.inr (And.intro ?_ ?_); (focus (intro h; have h := h.1; dsimp only at h; first | (exact Bool.noConfusion h) | (simp only [Int.reduceToNat, Int.reduceTDiv, Int.reduceTMod, minL, maxL, pickB, zHB, zSH] at h; omega) | ((try simp only [Int.reduceToNat, Int.reduceTDiv, Int.reduceTMod, minL, maxL, pickB, zHB, zSH] at h); (simp_all; done)))); (conv => whnf))
 | ((with_reducible refine And.intro ?_ ?_); (focus (first | (with_reducible rfl) | omega | rfl | ((try simp only [Int.reduceToNat, Int.reduceTDiv, Int.reduceTMod, minL, maxL, pickB, zHB, zSH, InK, Path.imp, zL] at *); omega))); (conv => whnf))
 | ((with_reducible refine And.intro (Side.out ?_) ?_); rotate_left; (conv => whnf))
 | ((first | refine retM1 ?_ | refine retM2 ?_ | refine subF.leaf ?_ | refine subF.side ?_) <;> (conv => whnf) <;> repeat' (first
 | exact trivial
 | (with_reducible rfl)
 | ((with_reducible refine And.intro ?_ ?_) <;> conv => whnf)
 | omega
 | rfl
 | (refine congrArg (SV.arr _) ?_)
 | (refine congrArg (Value.int _) ?_)
 | (refine congrArg Value.bool ?_)))); all_goals (try unfold Side)
  all_goals try (repeat' (first | (with_reducible rfl) | (with_reducible refine And.intro ?_ ?_) | omega | rfl | exact Or.inl rfl | exact Or.inr rfl | exact of_decide_eq_true rfl | exact Path.imp_of (of_decide_eq_true rfl) | (focus ((try simp only [Int.reduceToNat, Int.reduceTDiv, Int.reduceTMod, minL, maxL, pickB, zHB, zSH, InK, Path.imp, zL] at *); omega)) | (refine app_le rfl ?_; omega)))
  all_goals first | rfl | exact sp3_len hp | exact sp4_len hp | exact Path.imp_of q3 | exact Path.imp_of q5 | exact Path.imp_of q4 | exact sp_no hp | exact sp_v hp | exact congrArg _ (sp_no hp) | exact congrArg _ (sp_v hp) | exact hU | skip
set_option maxHeartbeats 1000000 in
theorem peter_relay_u {i : Nat} {k v : Int} (hp0 : i < r.1.length) (hi0 : i < r.2.1.length) (hf0 : ((r.2.1.getD i []).length : Int) ≤ r.2.2) (hs0 : 0 ≤ r.2.2 ∧ r.2.2 ≤ 1000000) (hb0 : pB r.1 i = false) (hp : i < (beginR i r).1.length) (hi : i < (beginR i r).2.1.length) (hf : (((beginR i r).2.1.getD i []).length : Int) ≤ (beginR i r).2.2) (hs : 0 ≤ (beginR i r).2.2 ∧ (beginR i r).2.2 ≤ 1000000) (hk : k ≠ 3) (h1 : pR (beginR i r).1 i = true) :
    FnM Try.prog 67 [.padr 1000000000 0, (.lit (.int .i64 (i : Int))), .strct [(.lit (.int .i64 (k : Int))), (.lit (.int .i64 (v : Int)))]] [(1000000000, .box [.lit (.bool true), .lit (.bool pet), .own 1000000001, .mown 5, (.lit (.int .i64 ((r).2.2 : Int)))]), (1000000001, .row 105 PT true (r).1), (5, .mat 80 91 NT true (r).2.1 none)] (.tup []) [(1000000000, .box [.lit (.bool true), .lit (.bool pet), .own 1000000001, .mown 5, (.lit (.int .i64 (((sendR i k v (beginR i r))).2.2 : Int)))]), (1000000001, .row 105 PT true ((sendR i k v (beginR i r))).1), (5, .mat 80 91 NT true ((sendR i k v (beginR i r))).2.1 none)] := by
  have c1 := sendp_at (pet := pet) (r := ((beginR i r).1, (beginR i r).2)) (i := i) (k := k) (v := v) hi hf hs
  have hb1 : (r.1.getD i P0).2.1 = false := hb0
  have hl0 : @List.length PT.T r.1 = r.1.length := rfl
  have c0 := begin_ring (pet := pet) hp0 hi0 hf0 hs0
  have hl : @List.length PT.T (beginR i r).1 = (beginR i r).1.length := rfl
  have hV : ((beginR i r).1.getD i P0).2.2.2.1 = pV (beginR i r).1 i := rfl
  have hO : ((beginR i r).1.getD i P0).2.2.2.2.1 = pO (beginR i r).1 i := rfl
  have hL : ((beginR i r).1.getD i P0).2.2.1 = pL (beginR i r).1 i := rfl
  have hR : ((beginR i r).1.getD i P0).2.2.2.2.2.1 = pR (beginR i r).1 i := rfl
  have q3 : 0 ≤ (i : Int) ∧ i < (sp3 (beginR i r).1 i (pO (beginR i r).1 i)).length := ⟨by omega, sp3_len hp⟩
  have q5 : i < (sp6 (sp3 (beginR i r).1 i (pO (beginR i r).1 i)) i 1).length := by unfold sp6; rw [List.length_set]; exact sp3_len hp
  have q4 : 0 ≤ (i : Int) ∧ i < (sp4 (beginR i r).1 i v).length := ⟨by omega, sp4_len hp⟩
  have hU : pV (sp6 (sp3 (beginR i r).1 i (pO (beginR i r).1 i)) i 1) i = pO (beginR i r).1 i := by rw [sp_v hp]; exact getV_setV hp
  refine FnM.of_body tys_ok Try.func67 (by rfl) rfl Try.ntmps67 (by rw [Try.results67]) (by simp) ?_
  
  repeat' (first
 | refine W.seq ?_
 | refine W.block ?_
 | (refine W.regionM (id := 3) tys_ok [] [2] ?_; conv => whnf)
 | (refine W.regionM (id := 10) tys_ok [] [6] ?_; conv => whnf)
 | (refine W.drawPhTo (id := 11) tys_ok [] mixed [0, 1, 2, 4, 8, 24, 8, 72, 136, 264, 552, 1032, 2056] [([0], 1, 3), ([2, 3, 4, 6, 7, 8], 2, 1023), ([10, 11, 12], 0, 8191)] ⟨[(0, .padr 1000000000 0), (1, (.lit (.int .i64 (i : Int)))), (5, .padr 6000 0), (6, .oadr 1000000001 7 i 0), (60, .lit (.bool (decide (k = 1) && decide (v = pV (beginR i r).1 i))))], [(1000000000, .box [.lit (.bool true), .lit (.bool pet), .own 1000000001, .mown 5, (.lit (.int .i64 (((beginR i r)).2.2 : Int)))]), (1000000001, .row 105 PT true ((beginR i r)).1), (5, .mat 80 91 NT true ((beginR i r)).2.1 none), (6000, .box [(.lit (.int .i64 (k : Int))), (.lit (.int .i64 (v : Int)))])]⟩ (by decide +kernel) ?_ ?_ <;> (conv => whnf))
 | (refine W.drawPhTo (id := 17) tys_ok [] mixed [0, 1, 2, 4, 0, 16, 32, 64, 136, 256, 512, 1536, 2560, 4608, 512, 16896, 41472, 66048, 131584] [([0, 1, 2, 4, 5, 6], 2, 255), ([8, 9, 10, 11, 12, 14], 2, 65535), ([16, 17, 18], 0, 524287)] ⟨[(0, .padr 1000000000 0), (1, (.lit (.int .i64 (i : Int)))), (5, .padr 6000 0), (6, .oadr 1000000001 7 i 0), (101, .lit (.bool (decide (pV (beginR i r).1 i < pO (beginR i r).1 i) && decide (v < pO (beginR i r).1 i))))], [(1000000000, .box [.lit (.bool true), .lit (.bool pet), .own 1000000001, .mown 5, (.lit (.int .i64 (((beginR i r)).2.2 : Int)))]), (1000000001, .row 105 PT true ((beginR i r)).1), (5, .mat 80 91 NT true ((beginR i r)).2.1 none), (6000, .box [(.lit (.int .i64 (k : Int))), (.lit (.int .i64 (v : Int)))])]⟩ (by decide +kernel) ?_ ?_ <;> (conv => whnf))
 | (refine W.region tys_ok [] ?_; conv => whnf)
 | (refine W.drawAll tys_ok [] mixed rfl ?_; conv => whnf)
 | (refine W.ret ?_; conv => whnf)
 | (refine W.skip ?_; conv => whnf)
 | (refine W.exit ?_; conv => whnf)
 | (refine callM_at (c0) ?_; conv => whnf)
 | (refine callM_at (c1) ?_; conv => whnf)
 | (refine Both.mk ?_ ?_ <;> (conv => whnf))
 | (refine W.cond rfl (fun hb => ?_) (fun hb => ?_) <;> (try simp only [Int.reduceToNat, Int.reduceTDiv, Int.reduceTMod, minL, maxL, pickB, zHB, zSH] at hb) <;> (try (first | (cases hb; done) | exact absurd hb (by decide) | (exfalso; omega) | (omega) | ((simp at hb; omega)) | ((simp_all; done)))))
 | (refine Or.inl (And.intro ?_ ?_); (focus (first | exact trivial | exact ⟨rfl, trivial⟩ | (refine ⟨?_, trivial⟩; dsimp only; simp only [Int.reduceToNat, Int.reduceTDiv, Int.reduceTMod, minL, maxL, pickB, zHB, zSH]; omega) | (refine ⟨?_, trivial⟩; dsimp only; (try simp only [Int.reduceToNat, Int.reduceTDiv, Int.reduceTMod, minL, maxL, pickB, zHB, zSH]); (simp_all; done)) | (refine ⟨?_, trivial⟩; dsimp only; (simp only [Int.reduceToNat, Int.reduceTDiv, Int.reduceTMod, minL, maxL, pickB, zHB, zSH]; done)) | (refine ⟨?_, trivial⟩; dsimp only; (simp; done)))); (conv => whnf))
 | (refine Or.inr (And.intro ?_ ?_); (focus (intro h; have h := h.1; dsimp only at h; first | (exact Bool.noConfusion h) | (simp only [Int.reduceToNat, Int.reduceTDiv, Int.reduceTMod, minL, maxL, pickB, zHB, zSH] at h; omega) | ((try simp only [Int.reduceToNat, Int.reduceTDiv, Int.reduceTMod, minL, maxL, pickB, zHB, zSH] at h); (simp_all; done)))); (conv => whnf))
 | ((with_reducible refine And.intro ?_ ?_); (focus (first | (with_reducible rfl) | omega | rfl | ((try simp only [Int.reduceToNat, Int.reduceTDiv, Int.reduceTMod, minL, maxL, pickB, zHB, zSH, InK, Path.imp, zL] at *); omega))); (conv => whnf))
 | ((with_reducible refine And.intro (Side.out ?_) ?_); rotate_left; (conv => whnf))
 | ((first | refine retM1 ?_ | refine retM2 ?_ | refine subF.leaf ?_ | refine subF.side ?_) <;> (conv => whnf) <;> repeat' (first
 | exact trivial
 | (with_reducible rfl)
 | ((with_reducible refine And.intro ?_ ?_) <;> conv => whnf)
 | omega
 | rfl
 | (refine congrArg (SV.arr _) ?_)
 | (refine congrArg (Value.int _) ?_)
 | (refine congrArg Value.bool ?_)))); all_goals (try unfold Side)
  all_goals try (repeat' (first | (with_reducible rfl) | (with_reducible refine And.intro ?_ ?_) | omega | rfl | exact Or.inl rfl | exact Or.inr rfl | exact of_decide_eq_true rfl | exact Path.imp_of (of_decide_eq_true rfl) | (focus ((try simp only [Int.reduceToNat, Int.reduceTDiv, Int.reduceTMod, minL, maxL, pickB, zHB, zSH, InK, Path.imp, zL] at *); omega)) | (refine app_le rfl ?_; omega)))
  all_goals first | rfl | exact sp3_len hp | exact sp4_len hp | exact Path.imp_of q3 | exact Path.imp_of q5 | exact Path.imp_of q4 | exact sp_no hp | exact sp_v hp | exact congrArg _ (sp_no hp) | exact congrArg _ (sp_v hp) | exact hU | skip
set_option maxHeartbeats 1000000 in
theorem peter_win_u {i : Nat} {k v : Int} (hp0 : i < r.1.length) (hi0 : i < r.2.1.length) (hf0 : ((r.2.1.getD i []).length : Int) ≤ r.2.2) (hs0 : 0 ≤ r.2.2 ∧ r.2.2 ≤ 1000000) (hb0 : pB r.1 i = false) (hp : i < (beginR i r).1.length) (hi : i < (beginR i r).2.1.length) (hf : (((beginR i r).2.1.getD i []).length : Int) ≤ (beginR i r).2.2) (hs : 0 ≤ (beginR i r).2.2 ∧ (beginR i r).2.2 ≤ 1000000) (hk : k ≠ 3) (h1 : pR (beginR i r).1 i = false) (h2 : k = 1) (h3 : v = pV (beginR i r).1 i) :
    FnM Try.prog 67 [.padr 1000000000 0, (.lit (.int .i64 (i : Int))), .strct [(.lit (.int .i64 (k : Int))), (.lit (.int .i64 (v : Int)))]] [(1000000000, .box [.lit (.bool true), .lit (.bool pet), .own 1000000001, .mown 5, (.lit (.int .i64 ((r).2.2 : Int)))]), (1000000001, .row 105 PT true (r).1), (5, .mat 80 91 NT true (r).2.1 none)] (.tup []) [(1000000000, .box [.lit (.bool true), .lit (.bool pet), .own 1000000001, .mown 5, (.lit (.int .i64 (((sendR i 3 v (setL (beginR i r).1 i v, (beginR i r).2))).2.2 : Int)))]), (1000000001, .row 105 PT true ((sendR i 3 v (setL (beginR i r).1 i v, (beginR i r).2))).1), (5, .mat 80 91 NT true ((sendR i 3 v (setL (beginR i r).1 i v, (beginR i r).2))).2.1 none)] := by
  have c1 := sendp_at (pet := pet) (r := (setL (beginR i r).1 i v, (beginR i r).2)) (i := i) (k := 3) (v := v) hi hf hs
  have hb1 : (r.1.getD i P0).2.1 = false := hb0
  have hl0 : @List.length PT.T r.1 = r.1.length := rfl
  have c0 := begin_ring (pet := pet) hp0 hi0 hf0 hs0
  have hl : @List.length PT.T (beginR i r).1 = (beginR i r).1.length := rfl
  have hV : ((beginR i r).1.getD i P0).2.2.2.1 = pV (beginR i r).1 i := rfl
  have hO : ((beginR i r).1.getD i P0).2.2.2.2.1 = pO (beginR i r).1 i := rfl
  have hL : ((beginR i r).1.getD i P0).2.2.1 = pL (beginR i r).1 i := rfl
  have hR : ((beginR i r).1.getD i P0).2.2.2.2.2.1 = pR (beginR i r).1 i := rfl
  have q3 : 0 ≤ (i : Int) ∧ i < (sp3 (beginR i r).1 i (pO (beginR i r).1 i)).length := ⟨by omega, sp3_len hp⟩
  have q5 : i < (sp6 (sp3 (beginR i r).1 i (pO (beginR i r).1 i)) i 1).length := by unfold sp6; rw [List.length_set]; exact sp3_len hp
  have q4 : 0 ≤ (i : Int) ∧ i < (sp4 (beginR i r).1 i v).length := ⟨by omega, sp4_len hp⟩
  have hU : pV (sp6 (sp3 (beginR i r).1 i (pO (beginR i r).1 i)) i 1) i = pO (beginR i r).1 i := by rw [sp_v hp]; exact getV_setV hp
  refine FnM.of_body tys_ok Try.func67 (by rfl) rfl Try.ntmps67 (by rw [Try.results67]) (by simp) ?_
  
  repeat' (first
 | refine W.seq ?_
 | refine W.block ?_
 | (refine W.regionM (id := 3) tys_ok [] [2] ?_; conv => whnf)
 | (refine W.regionM (id := 13) tys_ok [] [4] ?_; conv => whnf)
 | (refine W.drawPhTo (id := 11) tys_ok [] mixed [0, 1, 2, 4, 8, 24, 8, 72, 136, 264, 552, 1032, 2056] [([0], 1, 3), ([2, 3, 4, 6, 7, 8], 2, 1023), ([10, 11, 12], 0, 8191)] ⟨[(0, .padr 1000000000 0), (1, (.lit (.int .i64 (i : Int)))), (5, .padr 6000 0), (6, .oadr 1000000001 7 i 0), (60, .lit (.bool (decide (k = 1) && decide (v = pV (beginR i r).1 i))))], [(1000000000, .box [.lit (.bool true), .lit (.bool pet), .own 1000000001, .mown 5, (.lit (.int .i64 (((beginR i r)).2.2 : Int)))]), (1000000001, .row 105 PT true ((beginR i r)).1), (5, .mat 80 91 NT true ((beginR i r)).2.1 none), (6000, .box [(.lit (.int .i64 (k : Int))), (.lit (.int .i64 (v : Int)))])]⟩ (by decide +kernel) ?_ ?_ <;> (conv => whnf))
 | (refine W.drawPhTo (id := 17) tys_ok [] mixed [0, 1, 2, 4, 0, 16, 32, 64, 136, 256, 512, 1536, 2560, 4608, 512, 16896, 41472, 66048, 131584] [([0, 1, 2, 4, 5, 6], 2, 255), ([8, 9, 10, 11, 12, 14], 2, 65535), ([16, 17, 18], 0, 524287)] ⟨[(0, .padr 1000000000 0), (1, (.lit (.int .i64 (i : Int)))), (5, .padr 6000 0), (6, .oadr 1000000001 7 i 0), (101, .lit (.bool (decide (pV (beginR i r).1 i < pO (beginR i r).1 i) && decide (v < pO (beginR i r).1 i))))], [(1000000000, .box [.lit (.bool true), .lit (.bool pet), .own 1000000001, .mown 5, (.lit (.int .i64 (((beginR i r)).2.2 : Int)))]), (1000000001, .row 105 PT true ((beginR i r)).1), (5, .mat 80 91 NT true ((beginR i r)).2.1 none), (6000, .box [(.lit (.int .i64 (k : Int))), (.lit (.int .i64 (v : Int)))])]⟩ (by decide +kernel) ?_ ?_ <;> (conv => whnf))
 | (refine W.region tys_ok [] ?_; conv => whnf)
 | (refine W.drawAll tys_ok [] mixed rfl ?_; conv => whnf)
 | (refine W.ret ?_; conv => whnf)
 | (refine W.skip ?_; conv => whnf)
 | (refine W.exit ?_; conv => whnf)
 | (refine callM_at (c0) ?_; conv => whnf)
 | (refine callM_at (c1) ?_; conv => whnf)
 | (refine Both.mk ?_ ?_ <;> (conv => whnf))
 | (refine W.cond rfl (fun hb => ?_) (fun hb => ?_) <;> (try simp only [Int.reduceToNat, Int.reduceTDiv, Int.reduceTMod, minL, maxL, pickB, zHB, zSH] at hb) <;> (try (first | (cases hb; done) | exact absurd hb (by decide) | (exfalso; omega) | (omega) | ((simp at hb; omega)) | ((simp_all; done)))))
 | (refine Or.inl (And.intro ?_ ?_); (focus (first | exact trivial | exact ⟨rfl, trivial⟩ | (refine ⟨?_, trivial⟩; dsimp only; simp only [Int.reduceToNat, Int.reduceTDiv, Int.reduceTMod, minL, maxL, pickB, zHB, zSH]; omega) | (refine ⟨?_, trivial⟩; dsimp only; (try simp only [Int.reduceToNat, Int.reduceTDiv, Int.reduceTMod, minL, maxL, pickB, zHB, zSH]); (simp_all; done)) | (refine ⟨?_, trivial⟩; dsimp only; (simp only [Int.reduceToNat, Int.reduceTDiv, Int.reduceTMod, minL, maxL, pickB, zHB, zSH]; done)) | (refine ⟨?_, trivial⟩; dsimp only; (simp; done)))); (conv => whnf))
 | (refine Or.inr (And.intro ?_ ?_); (focus (intro h; have h := h.1; dsimp only at h; first | (exact Bool.noConfusion h) | (simp only [Int.reduceToNat, Int.reduceTDiv, Int.reduceTMod, minL, maxL, pickB, zHB, zSH] at h; omega) | ((try simp only [Int.reduceToNat, Int.reduceTDiv, Int.reduceTMod, minL, maxL, pickB, zHB, zSH] at h); (simp_all; done)))); (conv => whnf))
 | ((with_reducible refine And.intro ?_ ?_); (focus (first | (with_reducible rfl) | omega | rfl | ((try simp only [Int.reduceToNat, Int.reduceTDiv, Int.reduceTMod, minL, maxL, pickB, zHB, zSH, InK, Path.imp, zL] at *); omega))); (conv => whnf))
 | ((with_reducible refine And.intro (Side.out ?_) ?_); rotate_left; (conv => whnf))
 | ((first | refine retM1 ?_ | refine retM2 ?_ | refine subF.leaf ?_ | refine subF.side ?_) <;> (conv => whnf) <;> repeat' (first
 | exact trivial
 | (with_reducible rfl)
 | ((with_reducible refine And.intro ?_ ?_) <;> conv => whnf)
 | omega
 | rfl
 | (refine congrArg (SV.arr _) ?_)
 | (refine congrArg (Value.int _) ?_)
 | (refine congrArg Value.bool ?_)))); all_goals (try unfold Side)
  all_goals try (repeat' (first | (with_reducible rfl) | (with_reducible refine And.intro ?_ ?_) | omega | rfl | exact Or.inl rfl | exact Or.inr rfl | exact of_decide_eq_true rfl | exact Path.imp_of (of_decide_eq_true rfl) | (focus ((try simp only [Int.reduceToNat, Int.reduceTDiv, Int.reduceTMod, minL, maxL, pickB, zHB, zSH, InK, Path.imp, zL] at *); omega)) | (refine app_le rfl ?_; omega)))
  all_goals first | rfl | exact sp3_len hp | exact sp4_len hp | exact Path.imp_of q3 | exact Path.imp_of q5 | exact Path.imp_of q4 | exact sp_no hp | exact sp_v hp | exact congrArg _ (sp_no hp) | exact congrArg _ (sp_v hp) | exact hU | skip
set_option maxHeartbeats 1000000 in
theorem peter_note_u {i : Nat} {k v : Int} (hp0 : i < r.1.length) (hi0 : i < r.2.1.length) (hf0 : ((r.2.1.getD i []).length : Int) ≤ r.2.2) (hs0 : 0 ≤ r.2.2 ∧ r.2.2 ≤ 1000000) (hb0 : pB r.1 i = false) (hp : i < (beginR i r).1.length) (hi : i < (beginR i r).2.1.length) (hf : (((beginR i r).2.1.getD i []).length : Int) ≤ (beginR i r).2.2) (hs : 0 ≤ (beginR i r).2.2 ∧ (beginR i r).2.2 ≤ 1000000) (hk : k ≠ 3) (h1 : pR (beginR i r).1 i = false) (h2 : k = 1) (h3 : v ≠ pV (beginR i r).1 i) :
    FnM Try.prog 67 [.padr 1000000000 0, (.lit (.int .i64 (i : Int))), .strct [(.lit (.int .i64 (k : Int))), (.lit (.int .i64 (v : Int)))]] [(1000000000, .box [.lit (.bool true), .lit (.bool pet), .own 1000000001, .mown 5, (.lit (.int .i64 ((r).2.2 : Int)))]), (1000000001, .row 105 PT true (r).1), (5, .mat 80 91 NT true (r).2.1 none)] (.tup []) [(1000000000, .box [.lit (.bool true), .lit (.bool pet), .own 1000000001, .mown 5, (.lit (.int .i64 (((sendR i 2 v (setNo (beginR i r).1 i v, (beginR i r).2))).2.2 : Int)))]), (1000000001, .row 105 PT true ((sendR i 2 v (setNo (beginR i r).1 i v, (beginR i r).2))).1), (5, .mat 80 91 NT true ((sendR i 2 v (setNo (beginR i r).1 i v, (beginR i r).2))).2.1 none)] := by
  have c1 := sendp_at (pet := pet) (r := (setNo (beginR i r).1 i v, (beginR i r).2)) (i := i) (k := 2) (v := v) hi hf hs
  have hb1 : (r.1.getD i P0).2.1 = false := hb0
  have hl0 : @List.length PT.T r.1 = r.1.length := rfl
  have c0 := begin_ring (pet := pet) hp0 hi0 hf0 hs0
  have hl : @List.length PT.T (beginR i r).1 = (beginR i r).1.length := rfl
  have hV : ((beginR i r).1.getD i P0).2.2.2.1 = pV (beginR i r).1 i := rfl
  have hO : ((beginR i r).1.getD i P0).2.2.2.2.1 = pO (beginR i r).1 i := rfl
  have hL : ((beginR i r).1.getD i P0).2.2.1 = pL (beginR i r).1 i := rfl
  have hR : ((beginR i r).1.getD i P0).2.2.2.2.2.1 = pR (beginR i r).1 i := rfl
  have q3 : 0 ≤ (i : Int) ∧ i < (sp3 (beginR i r).1 i (pO (beginR i r).1 i)).length := ⟨by omega, sp3_len hp⟩
  have q5 : i < (sp6 (sp3 (beginR i r).1 i (pO (beginR i r).1 i)) i 1).length := by unfold sp6; rw [List.length_set]; exact sp3_len hp
  have q4 : 0 ≤ (i : Int) ∧ i < (sp4 (beginR i r).1 i v).length := ⟨by omega, sp4_len hp⟩
  have hU : pV (sp6 (sp3 (beginR i r).1 i (pO (beginR i r).1 i)) i 1) i = pO (beginR i r).1 i := by rw [sp_v hp]; exact getV_setV hp
  refine FnM.of_body tys_ok Try.func67 (by rfl) rfl Try.ntmps67 (by rw [Try.results67]) (by simp) ?_
  
  repeat' (first
 | refine W.seq ?_
 | refine W.block ?_
 | (refine W.regionM (id := 3) tys_ok [] [2] ?_; conv => whnf)
 | (refine W.regionM (id := 16) tys_ok [] [4] ?_; conv => whnf)
 | (refine W.drawPhTo (id := 11) tys_ok [] mixed [0, 1, 2, 4, 8, 24, 8, 72, 136, 264, 552, 1032, 2056] [([0], 1, 3), ([2, 3, 4, 6, 7, 8], 2, 1023), ([10, 11, 12], 0, 8191)] ⟨[(0, .padr 1000000000 0), (1, (.lit (.int .i64 (i : Int)))), (5, .padr 6000 0), (6, .oadr 1000000001 7 i 0), (60, .lit (.bool (decide (k = 1) && decide (v = pV (beginR i r).1 i))))], [(1000000000, .box [.lit (.bool true), .lit (.bool pet), .own 1000000001, .mown 5, (.lit (.int .i64 (((beginR i r)).2.2 : Int)))]), (1000000001, .row 105 PT true ((beginR i r)).1), (5, .mat 80 91 NT true ((beginR i r)).2.1 none), (6000, .box [(.lit (.int .i64 (k : Int))), (.lit (.int .i64 (v : Int)))])]⟩ (by decide +kernel) ?_ ?_ <;> (conv => whnf))
 | (refine W.drawPhTo (id := 17) tys_ok [] mixed [0, 1, 2, 4, 0, 16, 32, 64, 136, 256, 512, 1536, 2560, 4608, 512, 16896, 41472, 66048, 131584] [([0, 1, 2, 4, 5, 6], 2, 255), ([8, 9, 10, 11, 12, 14], 2, 65535), ([16, 17, 18], 0, 524287)] ⟨[(0, .padr 1000000000 0), (1, (.lit (.int .i64 (i : Int)))), (5, .padr 6000 0), (6, .oadr 1000000001 7 i 0), (101, .lit (.bool (decide (pV (beginR i r).1 i < pO (beginR i r).1 i) && decide (v < pO (beginR i r).1 i))))], [(1000000000, .box [.lit (.bool true), .lit (.bool pet), .own 1000000001, .mown 5, (.lit (.int .i64 (((beginR i r)).2.2 : Int)))]), (1000000001, .row 105 PT true ((beginR i r)).1), (5, .mat 80 91 NT true ((beginR i r)).2.1 none), (6000, .box [(.lit (.int .i64 (k : Int))), (.lit (.int .i64 (v : Int)))])]⟩ (by decide +kernel) ?_ ?_ <;> (conv => whnf))
 | (refine W.region tys_ok [] ?_; conv => whnf)
 | (refine W.drawAll tys_ok [] mixed rfl ?_; conv => whnf)
 | (refine W.ret ?_; conv => whnf)
 | (refine W.skip ?_; conv => whnf)
 | (refine W.exit ?_; conv => whnf)
 | (refine callM_at (c0) ?_; conv => whnf)
 | (refine callM_at (c1) ?_; conv => whnf)
 | (refine Both.mk ?_ ?_ <;> (conv => whnf))
 | (refine W.cond rfl (fun hb => ?_) (fun hb => ?_) <;> (try simp only [Int.reduceToNat, Int.reduceTDiv, Int.reduceTMod, minL, maxL, pickB, zHB, zSH] at hb) <;> (try (first | (cases hb; done) | exact absurd hb (by decide) | (exfalso; omega) | (omega) | ((simp at hb; omega)) | ((simp_all; done)))))
 | (refine Or.inl (And.intro ?_ ?_); (focus (first | exact trivial | exact ⟨rfl, trivial⟩ | (refine ⟨?_, trivial⟩; dsimp only; simp only [Int.reduceToNat, Int.reduceTDiv, Int.reduceTMod, minL, maxL, pickB, zHB, zSH]; omega) | (refine ⟨?_, trivial⟩; dsimp only; (try simp only [Int.reduceToNat, Int.reduceTDiv, Int.reduceTMod, minL, maxL, pickB, zHB, zSH]); (simp_all; done)) | (refine ⟨?_, trivial⟩; dsimp only; (simp only [Int.reduceToNat, Int.reduceTDiv, Int.reduceTMod, minL, maxL, pickB, zHB, zSH]; done)) | (refine ⟨?_, trivial⟩; dsimp only; (simp; done)))); (conv => whnf))
 | (refine Or.inr (And.intro ?_ ?_); (focus (intro h; have h := h.1; dsimp only at h; first | (exact Bool.noConfusion h) | (simp only [Int.reduceToNat, Int.reduceTDiv, Int.reduceTMod, minL, maxL, pickB, zHB, zSH] at h; omega) | ((try simp only [Int.reduceToNat, Int.reduceTDiv, Int.reduceTMod, minL, maxL, pickB, zHB, zSH] at h); (simp_all; done)))); (conv => whnf))
 | ((with_reducible refine And.intro ?_ ?_); (focus (first | (with_reducible rfl) | omega | rfl | ((try simp only [Int.reduceToNat, Int.reduceTDiv, Int.reduceTMod, minL, maxL, pickB, zHB, zSH, InK, Path.imp, zL] at *); omega))); (conv => whnf))
 | ((with_reducible refine And.intro (Side.out ?_) ?_); rotate_left; (conv => whnf))
 | ((first | refine retM1 ?_ | refine retM2 ?_ | refine subF.leaf ?_ | refine subF.side ?_) <;> (conv => whnf) <;> repeat' (first
 | exact trivial
 | (with_reducible rfl)
 | ((with_reducible refine And.intro ?_ ?_) <;> conv => whnf)
 | omega
 | rfl
 | (refine congrArg (SV.arr _) ?_)
 | (refine congrArg (Value.int _) ?_)
 | (refine congrArg Value.bool ?_)))); all_goals (try unfold Side)
  all_goals try (repeat' (first | (with_reducible rfl) | (with_reducible refine And.intro ?_ ?_) | omega | rfl | exact Or.inl rfl | exact Or.inr rfl | exact of_decide_eq_true rfl | exact Path.imp_of (of_decide_eq_true rfl) | (focus ((try simp only [Int.reduceToNat, Int.reduceTDiv, Int.reduceTMod, minL, maxL, pickB, zHB, zSH, InK, Path.imp, zL] at *); omega)) | (refine app_le rfl ?_; omega)))
  all_goals first | rfl | exact sp3_len hp | exact sp4_len hp | exact Path.imp_of q3 | exact Path.imp_of q5 | exact Path.imp_of q4 | exact sp_no hp | exact sp_v hp | exact congrArg _ (sp_no hp) | exact congrArg _ (sp_v hp) | exact hU | skip
set_option maxHeartbeats 1000000 in
theorem peter_up_u {i : Nat} {k v : Int} (hp0 : i < r.1.length) (hi0 : i < r.2.1.length) (hf0 : ((r.2.1.getD i []).length : Int) ≤ r.2.2) (hs0 : 0 ≤ r.2.2 ∧ r.2.2 ≤ 1000000) (hb0 : pB r.1 i = false) (hp : i < (beginR i r).1.length) (hi : i < (beginR i r).2.1.length) (hf : (((beginR i r).2.1.getD i []).length : Int) ≤ (beginR i r).2.2) (hs : 0 ≤ (beginR i r).2.2 ∧ (beginR i r).2.2 ≤ 1000000) (hk : k ≠ 3) (h1 : pR (beginR i r).1 i = false) (h2 : k ≠ 1) (h3 : pV (beginR i r).1 i < pO (beginR i r).1 i) (h4 : v < pO (beginR i r).1 i) :
    FnM Try.prog 67 [.padr 1000000000 0, (.lit (.int .i64 (i : Int))), .strct [(.lit (.int .i64 (k : Int))), (.lit (.int .i64 (v : Int)))]] [(1000000000, .box [.lit (.bool true), .lit (.bool pet), .own 1000000001, .mown 5, (.lit (.int .i64 ((r).2.2 : Int)))]), (1000000001, .row 105 PT true (r).1), (5, .mat 80 91 NT true (r).2.1 none)] (.tup []) [(1000000000, .box [.lit (.bool true), .lit (.bool pet), .own 1000000001, .mown 5, (.lit (.int .i64 (((sendR i 1 (pO (beginR i r).1 i) (setV (beginR i r).1 i, (beginR i r).2))).2.2 : Int)))]), (1000000001, .row 105 PT true ((sendR i 1 (pO (beginR i r).1 i) (setV (beginR i r).1 i, (beginR i r).2))).1), (5, .mat 80 91 NT true ((sendR i 1 (pO (beginR i r).1 i) (setV (beginR i r).1 i, (beginR i r).2))).2.1 none)] := by
  have c1 := sendp_at (pet := pet) (r := (setV (beginR i r).1 i, (beginR i r).2)) (i := i) (k := 1) (v := pO (beginR i r).1 i) hi hf hs
  have hb1 : (r.1.getD i P0).2.1 = false := hb0
  have hl0 : @List.length PT.T r.1 = r.1.length := rfl
  have c0 := begin_ring (pet := pet) hp0 hi0 hf0 hs0
  have hl : @List.length PT.T (beginR i r).1 = (beginR i r).1.length := rfl
  have hV : ((beginR i r).1.getD i P0).2.2.2.1 = pV (beginR i r).1 i := rfl
  have hO : ((beginR i r).1.getD i P0).2.2.2.2.1 = pO (beginR i r).1 i := rfl
  have hL : ((beginR i r).1.getD i P0).2.2.1 = pL (beginR i r).1 i := rfl
  have hR : ((beginR i r).1.getD i P0).2.2.2.2.2.1 = pR (beginR i r).1 i := rfl
  have q3 : 0 ≤ (i : Int) ∧ i < (sp3 (beginR i r).1 i (pO (beginR i r).1 i)).length := ⟨by omega, sp3_len hp⟩
  have q5 : i < (sp6 (sp3 (beginR i r).1 i (pO (beginR i r).1 i)) i 1).length := by unfold sp6; rw [List.length_set]; exact sp3_len hp
  have q4 : 0 ≤ (i : Int) ∧ i < (sp4 (beginR i r).1 i v).length := ⟨by omega, sp4_len hp⟩
  have hU : pV (sp6 (sp3 (beginR i r).1 i (pO (beginR i r).1 i)) i 1) i = pO (beginR i r).1 i := by rw [sp_v hp]; exact getV_setV hp
  refine FnM.of_body tys_ok Try.func67 (by rfl) rfl Try.ntmps67 (by rw [Try.results67]) (by simp) ?_
  
  repeat' (first
 | refine W.seq ?_
 | refine W.block ?_
 | (refine W.regionM (id := 3) tys_ok [] [2] ?_; conv => whnf)
 | (refine W.regionM (id := 19) tys_ok [] [6] ?_; conv => whnf)
 | (refine W.drawPhTo (id := 11) tys_ok [] mixed [0, 1, 2, 4, 8, 24, 8, 72, 136, 264, 552, 1032, 2056] [([0], 1, 3), ([2, 3, 4, 6, 7, 8], 2, 1023), ([10, 11, 12], 0, 8191)] ⟨[(0, .padr 1000000000 0), (1, (.lit (.int .i64 (i : Int)))), (5, .padr 6000 0), (6, .oadr 1000000001 7 i 0), (60, .lit (.bool (decide (k = 1) && decide (v = pV (beginR i r).1 i))))], [(1000000000, .box [.lit (.bool true), .lit (.bool pet), .own 1000000001, .mown 5, (.lit (.int .i64 (((beginR i r)).2.2 : Int)))]), (1000000001, .row 105 PT true ((beginR i r)).1), (5, .mat 80 91 NT true ((beginR i r)).2.1 none), (6000, .box [(.lit (.int .i64 (k : Int))), (.lit (.int .i64 (v : Int)))])]⟩ (by decide +kernel) ?_ ?_ <;> (conv => whnf))
 | (refine W.drawPhTo (id := 17) tys_ok [] mixed [0, 1, 2, 4, 0, 16, 32, 64, 136, 256, 512, 1536, 2560, 4608, 512, 16896, 41472, 66048, 131584] [([0, 1, 2, 4, 5, 6], 2, 255), ([8, 9, 10, 11, 12, 14], 2, 65535), ([16, 17, 18], 0, 524287)] ⟨[(0, .padr 1000000000 0), (1, (.lit (.int .i64 (i : Int)))), (5, .padr 6000 0), (6, .oadr 1000000001 7 i 0), (101, .lit (.bool (decide (pV (beginR i r).1 i < pO (beginR i r).1 i) && decide (v < pO (beginR i r).1 i))))], [(1000000000, .box [.lit (.bool true), .lit (.bool pet), .own 1000000001, .mown 5, (.lit (.int .i64 (((beginR i r)).2.2 : Int)))]), (1000000001, .row 105 PT true ((beginR i r)).1), (5, .mat 80 91 NT true ((beginR i r)).2.1 none), (6000, .box [(.lit (.int .i64 (k : Int))), (.lit (.int .i64 (v : Int)))])]⟩ (by decide +kernel) ?_ ?_ <;> (conv => whnf))
 | (refine W.region tys_ok [] ?_; conv => whnf)
 | (refine W.drawAll tys_ok [] mixed rfl ?_; conv => whnf)
 | (refine W.ret ?_; conv => whnf)
 | (refine W.skip ?_; conv => whnf)
 | (refine W.exit ?_; conv => whnf)
 | (refine callM_at (c0) ?_; conv => whnf)
 | (refine callM_at (c1) ?_; conv => whnf)
 | (refine Both.mk ?_ ?_ <;> (conv => whnf))
 | (refine W.cond rfl (fun hb => ?_) (fun hb => ?_) <;> (try simp only [Int.reduceToNat, Int.reduceTDiv, Int.reduceTMod, minL, maxL, pickB, zHB, zSH] at hb) <;> (try (first | (cases hb; done) | exact absurd hb (by decide) | (exfalso; omega) | (omega) | ((simp at hb; omega)) | ((simp_all; done)))))
 | (refine Or.inl (And.intro ?_ ?_); (focus (first | exact trivial | exact ⟨rfl, trivial⟩ | (refine ⟨?_, trivial⟩; dsimp only; simp only [Int.reduceToNat, Int.reduceTDiv, Int.reduceTMod, minL, maxL, pickB, zHB, zSH]; omega) | (refine ⟨?_, trivial⟩; dsimp only; (try simp only [Int.reduceToNat, Int.reduceTDiv, Int.reduceTMod, minL, maxL, pickB, zHB, zSH]); (simp_all; done)) | (refine ⟨?_, trivial⟩; dsimp only; (simp only [Int.reduceToNat, Int.reduceTDiv, Int.reduceTMod, minL, maxL, pickB, zHB, zSH]; done)) | (refine ⟨?_, trivial⟩; dsimp only; (simp; done)))); (conv => whnf))
 | (refine Or.inr (And.intro ?_ ?_); (focus (intro h; have h := h.1; dsimp only at h; first | (exact Bool.noConfusion h) | (simp only [Int.reduceToNat, Int.reduceTDiv, Int.reduceTMod, minL, maxL, pickB, zHB, zSH] at h; omega) | ((try simp only [Int.reduceToNat, Int.reduceTDiv, Int.reduceTMod, minL, maxL, pickB, zHB, zSH] at h); (simp_all; done)))); (conv => whnf))
 | ((with_reducible refine And.intro ?_ ?_); (focus (first | (with_reducible rfl) | omega | rfl | ((try simp only [Int.reduceToNat, Int.reduceTDiv, Int.reduceTMod, minL, maxL, pickB, zHB, zSH, InK, Path.imp, zL] at *); omega))); (conv => whnf))
 | ((with_reducible refine And.intro (Side.out ?_) ?_); rotate_left; (conv => whnf))
 | ((first | refine retM1 ?_ | refine retM2 ?_ | refine subF.leaf ?_ | refine subF.side ?_) <;> (conv => whnf) <;> repeat' (first
 | exact trivial
 | (with_reducible rfl)
 | ((with_reducible refine And.intro ?_ ?_) <;> conv => whnf)
 | omega
 | rfl
 | (refine congrArg (SV.arr _) ?_)
 | (refine congrArg (Value.int _) ?_)
 | (refine congrArg Value.bool ?_)))); all_goals (try unfold Side)
  all_goals try (repeat' (first | (with_reducible rfl) | (with_reducible refine And.intro ?_ ?_) | omega | rfl | exact Or.inl rfl | exact Or.inr rfl | exact of_decide_eq_true rfl | exact Path.imp_of (of_decide_eq_true rfl) | (focus ((try simp only [Int.reduceToNat, Int.reduceTDiv, Int.reduceTMod, minL, maxL, pickB, zHB, zSH, InK, Path.imp, zL] at *); omega)) | (refine app_le rfl ?_; omega)))
  all_goals first | rfl | exact sp3_len hp | exact sp4_len hp | exact Path.imp_of q3 | exact Path.imp_of q5 | exact Path.imp_of q4 | exact sp_no hp | exact sp_v hp | exact congrArg _ (sp_no hp) | exact congrArg _ (sp_v hp) | exact hU | skip
set_option maxHeartbeats 1000000 in
theorem peter_down_u {i : Nat} {k v : Int} (hp0 : i < r.1.length) (hi0 : i < r.2.1.length) (hf0 : ((r.2.1.getD i []).length : Int) ≤ r.2.2) (hs0 : 0 ≤ r.2.2 ∧ r.2.2 ≤ 1000000) (hb0 : pB r.1 i = false) (hp : i < (beginR i r).1.length) (hi : i < (beginR i r).2.1.length) (hf : (((beginR i r).2.1.getD i []).length : Int) ≤ (beginR i r).2.2) (hs : 0 ≤ (beginR i r).2.2 ∧ (beginR i r).2.2 ≤ 1000000) (hk : k ≠ 3) (h1 : pR (beginR i r).1 i = false) (h2 : k ≠ 1) (h3 : ¬ (pV (beginR i r).1 i < pO (beginR i r).1 i ∧ v < pO (beginR i r).1 i)) :
    FnM Try.prog 67 [.padr 1000000000 0, (.lit (.int .i64 (i : Int))), .strct [(.lit (.int .i64 (k : Int))), (.lit (.int .i64 (v : Int)))]] [(1000000000, .box [.lit (.bool true), .lit (.bool pet), .own 1000000001, .mown 5, (.lit (.int .i64 ((r).2.2 : Int)))]), (1000000001, .row 105 PT true (r).1), (5, .mat 80 91 NT true (r).2.1 none)] (.tup []) [(1000000000, .box [.lit (.bool true), .lit (.bool pet), .own 1000000001, .mown 5, (.lit (.int .i64 (((setR (beginR i r).1 i, (beginR i r).2)).2.2 : Int)))]), (1000000001, .row 105 PT true ((setR (beginR i r).1 i, (beginR i r).2)).1), (5, .mat 80 91 NT true ((setR (beginR i r).1 i, (beginR i r).2)).2.1 none)] := by
  have hb1 : (r.1.getD i P0).2.1 = false := hb0
  have hl0 : @List.length PT.T r.1 = r.1.length := rfl
  have c0 := begin_ring (pet := pet) hp0 hi0 hf0 hs0
  have hl : @List.length PT.T (beginR i r).1 = (beginR i r).1.length := rfl
  have hV : ((beginR i r).1.getD i P0).2.2.2.1 = pV (beginR i r).1 i := rfl
  have hO : ((beginR i r).1.getD i P0).2.2.2.2.1 = pO (beginR i r).1 i := rfl
  have hL : ((beginR i r).1.getD i P0).2.2.1 = pL (beginR i r).1 i := rfl
  have hR : ((beginR i r).1.getD i P0).2.2.2.2.2.1 = pR (beginR i r).1 i := rfl
  have q3 : 0 ≤ (i : Int) ∧ i < (sp3 (beginR i r).1 i (pO (beginR i r).1 i)).length := ⟨by omega, sp3_len hp⟩
  have q5 : i < (sp6 (sp3 (beginR i r).1 i (pO (beginR i r).1 i)) i 1).length := by unfold sp6; rw [List.length_set]; exact sp3_len hp
  have q4 : 0 ≤ (i : Int) ∧ i < (sp4 (beginR i r).1 i v).length := ⟨by omega, sp4_len hp⟩
  have hU : pV (sp6 (sp3 (beginR i r).1 i (pO (beginR i r).1 i)) i 1) i = pO (beginR i r).1 i := by rw [sp_v hp]; exact getV_setV hp
  refine FnM.of_body tys_ok Try.func67 (by rfl) rfl Try.ntmps67 (by rw [Try.results67]) (by simp) ?_
  
  repeat' (first
 | refine W.seq ?_
 | refine W.block ?_
 | (refine W.regionM (id := 3) tys_ok [] [2] ?_; conv => whnf)
 | (refine W.drawPhTo (id := 11) tys_ok [] mixed [0, 1, 2, 4, 8, 24, 8, 72, 136, 264, 552, 1032, 2056] [([0], 1, 3), ([2, 3, 4, 6, 7, 8], 2, 1023), ([10, 11, 12], 0, 8191)] ⟨[(0, .padr 1000000000 0), (1, (.lit (.int .i64 (i : Int)))), (5, .padr 6000 0), (6, .oadr 1000000001 7 i 0), (60, .lit (.bool (decide (k = 1) && decide (v = pV (beginR i r).1 i))))], [(1000000000, .box [.lit (.bool true), .lit (.bool pet), .own 1000000001, .mown 5, (.lit (.int .i64 (((beginR i r)).2.2 : Int)))]), (1000000001, .row 105 PT true ((beginR i r)).1), (5, .mat 80 91 NT true ((beginR i r)).2.1 none), (6000, .box [(.lit (.int .i64 (k : Int))), (.lit (.int .i64 (v : Int)))])]⟩ (by decide +kernel) ?_ ?_ <;> (conv => whnf))
 | (refine W.drawPhTo (id := 17) tys_ok [] mixed [0, 1, 2, 4, 0, 16, 32, 64, 136, 256, 512, 1536, 2560, 4608, 512, 16896, 41472, 66048, 131584] [([0, 1, 2, 4, 5, 6], 2, 255), ([8, 9, 10, 11, 12, 14], 2, 65535), ([16, 17, 18], 0, 524287)] ⟨[(0, .padr 1000000000 0), (1, (.lit (.int .i64 (i : Int)))), (5, .padr 6000 0), (6, .oadr 1000000001 7 i 0), (101, .lit (.bool (decide (pV (beginR i r).1 i < pO (beginR i r).1 i) && decide (v < pO (beginR i r).1 i))))], [(1000000000, .box [.lit (.bool true), .lit (.bool pet), .own 1000000001, .mown 5, (.lit (.int .i64 (((beginR i r)).2.2 : Int)))]), (1000000001, .row 105 PT true ((beginR i r)).1), (5, .mat 80 91 NT true ((beginR i r)).2.1 none), (6000, .box [(.lit (.int .i64 (k : Int))), (.lit (.int .i64 (v : Int)))])]⟩ (by decide +kernel) ?_ ?_ <;> (conv => whnf))
 | (refine W.region tys_ok [] ?_; conv => whnf)
 | (refine W.drawAll tys_ok [] mixed rfl ?_; conv => whnf)
 | (refine W.ret ?_; conv => whnf)
 | (refine W.skip ?_; conv => whnf)
 | (refine W.exit ?_; conv => whnf)
 | (refine callM_at (c0) ?_; conv => whnf)
 | (refine Both.mk ?_ ?_ <;> (conv => whnf))
 | (refine W.cond rfl (fun hb => ?_) (fun hb => ?_) <;> (try simp only [Int.reduceToNat, Int.reduceTDiv, Int.reduceTMod, minL, maxL, pickB, zHB, zSH] at hb) <;> (try (first | (cases hb; done) | exact absurd hb (by decide) | (exfalso; omega) | (omega) | ((simp at hb; omega)) | ((simp_all; done)))))
 | (refine Or.inl (And.intro ?_ ?_); (focus (first | exact trivial | exact ⟨rfl, trivial⟩ | (refine ⟨?_, trivial⟩; dsimp only; simp only [Int.reduceToNat, Int.reduceTDiv, Int.reduceTMod, minL, maxL, pickB, zHB, zSH]; omega) | (refine ⟨?_, trivial⟩; dsimp only; (try simp only [Int.reduceToNat, Int.reduceTDiv, Int.reduceTMod, minL, maxL, pickB, zHB, zSH]); (simp_all; done)) | (refine ⟨?_, trivial⟩; dsimp only; (simp only [Int.reduceToNat, Int.reduceTDiv, Int.reduceTMod, minL, maxL, pickB, zHB, zSH]; done)) | (refine ⟨?_, trivial⟩; dsimp only; (simp; done)))); (conv => whnf))
 | (refine Or.inr (And.intro ?_ ?_); (focus (intro h; have h := h.1; dsimp only at h; first | (exact Bool.noConfusion h) | (simp only [Int.reduceToNat, Int.reduceTDiv, Int.reduceTMod, minL, maxL, pickB, zHB, zSH] at h; omega) | ((try simp only [Int.reduceToNat, Int.reduceTDiv, Int.reduceTMod, minL, maxL, pickB, zHB, zSH] at h); (simp_all; done)))); (conv => whnf))
 | ((with_reducible refine And.intro ?_ ?_); (focus (first | (with_reducible rfl) | omega | rfl | ((try simp only [Int.reduceToNat, Int.reduceTDiv, Int.reduceTMod, minL, maxL, pickB, zHB, zSH, InK, Path.imp, zL] at *); omega))); (conv => whnf))
 | ((with_reducible refine And.intro (Side.out ?_) ?_); rotate_left; (conv => whnf))
 | ((first | refine retM1 ?_ | refine retM2 ?_ | refine subF.leaf ?_ | refine subF.side ?_) <;> (conv => whnf) <;> repeat' (first
 | exact trivial
 | (with_reducible rfl)
 | ((with_reducible refine And.intro ?_ ?_) <;> conv => whnf)
 | omega
 | rfl
 | (refine congrArg (SV.arr _) ?_)
 | (refine congrArg (Value.int _) ?_)
 | (refine congrArg Value.bool ?_)))); all_goals (try unfold Side)
  all_goals try (repeat' (first | (with_reducible rfl) | (with_reducible refine And.intro ?_ ?_) | omega | rfl | exact Or.inl rfl | exact Or.inr rfl | exact of_decide_eq_true rfl | exact Path.imp_of (of_decide_eq_true rfl) | (focus ((try simp only [Int.reduceToNat, Int.reduceTDiv, Int.reduceTMod, minL, maxL, pickB, zHB, zSH, InK, Path.imp, zL] at *); omega)) | (refine app_le rfl ?_; omega)))
  all_goals first | rfl | exact sp3_len hp | exact sp4_len hp | exact Path.imp_of q3 | exact Path.imp_of q5 | exact Path.imp_of q4 | exact sp_no hp | exact sp_v hp | exact congrArg _ (sp_no hp) | exact congrArg _ (sp_v hp) | exact hU | skip
end Go.Proofs.Ytkjcnegkdlmapaa

