/- Joined of: H23 H24 H35 H39. No condition. -/
import Derived.Test.YtmfholchenihaaaJ13
import Derived.Test.YtmfholchenihaaaJ12

namespace Go.Proofs.Ytmfholchenihaaa
open Go Go.Vc Go.Sh
set_option linter.unusedVariables false
set_option linter.unusedSimpArgs false
set_option maxHeartbeats 8000000 in
theorem rprovesMF_at {P : Int} {os : List Od} {pf : List Nd} (hP : 0 ≤ P ∧ P ≤ 100) (hpf : pf.length ≤ 100000) {k num : Nat} {l : List Jb} {sn : List Bool} (hnum : num < pf.length) (hsn : sn.length = pf.length) (hbd : Bd l) (ho : Ords os l.length) (hs : sn.getD num false = false) (h1 : (pf.getD num N0).1 = 1) (hc : ((pf.getD num N0).2.2.2.1 = 0 ∧ (0 ≤ (pf.getD num N0).2.1 ∧ (pf.getD num N0).2.1 < l.length) ∧ (jf l (pf.getD num N0).2.1.toNat ≤ (pf.getD num N0).2.2.1 ∧ (pf.getD num N0).2.2.1 < jt l (pf.getD num N0).2.1.toNat - jl l (pf.getD num N0).2.1.toNat) ∧ (((num : Int) < (pf.getD num N0).2.2.2.2.1 ∧ (num : Int) < (pf.getD num N0).2.2.2.2.2.1) ∧ (pf.getD num N0).2.2.2.2.1 < pf.length ∧ (pf.getD num N0).2.2.2.2.2.1 < pf.length))) {L R : List Jb} (hL : L = partL l (pf.getD num N0).2.1.toNat (pf.getD num N0).2.2.1) (hR : R = partR l (pf.getD num N0).2.1.toNat (pf.getD num N0).2.2.1) {S1 S2 : List Bool} {B2 : Bool} (hl1 : S1.length = pf.length)
    (c1 : FnM Try.prog 42 [.st false (.agg [I64 P, .arr JT L, .arr OT os]), .st false (.arr NT pf), .lit (.int .i64 (pf.getD num N0).2.2.2.2.1), .own 1000000000] [(1000000000, .row 4 .bool true (sn.set num true))] (.lit (.bool false)) [(1000000000, .row 4 .bool true S1)]) :
    FnM Try.prog 42 [.st false (.agg [I64 P, .arr JT l, .arr OT os]), .st false (.arr NT pf), .lit (.int .i64 num), .own 1000000000] [(1000000000, .row 4 .bool true sn)] (.lit (.bool false)) [(1000000000, .row 4 .bool true S1)] := by
  have hll : @List.length JT.T l = l.length := rfl
  have hlp : @List.length NT.T pf = pf.length := rfl
  have hlo : @List.length OT.T os = os.length := rfl
  have hls : @List.length Ty.bool.T sn = pf.length := hsn
  have hol := ho.1
  have hjl := hbd.len
  have hrj := hbd.rg (pf.getD num N0).2.1.toNat (by omega)
  have hjn : (pf.getD num N0).2.1.toNat < l.length := by omega
  have hc' := hc
  unfold jf jt jl jp at hrj
  unfold jf jt jl at hc'
  have eL : l.set (pf.getD num N0).2.1.toNat ((l.getD (pf.getD num N0).2.1.toNat J0).1, (pf.getD num N0).2.2.1 + (l.getD (pf.getD num N0).2.1.toNat J0).2.2.1, (l.getD (pf.getD num N0).2.1.toNat J0).2.2) = L := by rw [hL]; rfl
  have eR : l.set (pf.getD num N0).2.1.toNat ((pf.getD num N0).2.2.1 + 1, (l.getD (pf.getD num N0).2.1.toNat J0).2) = R := by rw [hR]; rfl
  refine FnM.of_body tys_ok Try.func42 (by rfl) rfl Try.ntmps42 (by rw [Try.results42]) (by simp) ?_
  
  repeat' (first
 | refine W.seq ?_
 | refine W.block ?_
 | (refine W.resub (x := Code.region 15 _ _) (Γ' := ⟨[(1, .st false (.arr NT pf)), (2, .lit (.int .i64 (num))), (3, .own 1000000000), (4, .st false (.sadr (.agg [I64 P, .arr JT l, .arr OT os]))), (9, .st true (.sadr (.agg [I64 (pf.getD num N0).1, I64 (pf.getD num N0).2.1, I64 (pf.getD num N0).2.2.1, I64 (pf.getD num N0).2.2.2.1, I64 (pf.getD num N0).2.2.2.2.1, I64 (pf.getD num N0).2.2.2.2.2.1]))), (28, .lit (.int .i64 ((pf.getD num N0).1)))], [(1000000000, .row 4 .bool true (sn.set num true))]⟩) ?_ (W.drawPh (id := 15) tys_ok [] mixed [0, 1, 2, 4, 8, 24, 8, 72, 136, 264, 552, 1032, 2056, 5120, 8192, 24576, 8192, 73728, 8192, 270336, 532480, 1220608, 2105344, 4202496, 10485760, 16777216, 50331648, 16777216, 150994944, 16777216, 553648128, 1090519040, 2499805184, 4311744512, 8606711808] [([0, 1, 2, 3, 4, 5, 6, 7, 8, 9], 1, 2047), ([11, 12, 13, 14, 15, 16, 17, 18, 19, 20], 1, 4194303), ([22, 23, 24, 25, 26, 27, 28, 29, 30, 31], 1, 8589934591), ([33, 34], 0, 34359738367)] (by decide +kernel) ?_); rotate_left; (conv => whnf))
 | (refine W.resub (x := Code.region 18 _ _) (Γ' := ⟨[(1, .st false (.arr NT pf)), (2, .lit (.int .i64 (num))), (3, .own 1000000000), (4, .st false (.sadr (.agg [I64 P, .arr JT l, .arr OT os]))), (9, .st true (.sadr (.agg [I64 (pf.getD num N0).1, I64 (pf.getD num N0).2.1, I64 (pf.getD num N0).2.2.1, I64 (pf.getD num N0).2.2.2.1, I64 (pf.getD num N0).2.2.2.2.1, I64 (pf.getD num N0).2.2.2.2.2.1]))), (28, .lit (.int .i64 ((pf.getD num N0).1))), (13, .st true (.sadr (.agg [I64 (l.getD (pf.getD num N0).2.1.toNat J0).1, I64 (l.getD (pf.getD num N0).2.1.toNat J0).2.1, I64 (l.getD (pf.getD num N0).2.1.toNat J0).2.2.1, I64 (l.getD (pf.getD num N0).2.1.toNat J0).2.2.2.1])))], [(1000000000, .row 4 .bool true (sn.set num true))]⟩) ?_ (W.drawPh (id := 18) tys_ok [] mixed [0, 1, 0, 4, 10, 16, 32, 96, 32, 288, 32, 1056, 2592, 4256, 8224] [([0, 1, 2, 3, 4, 5, 6, 7, 8, 9, 10, 11, 12, 13, 14], 0, 32767)] (by decide +kernel) ?_); rotate_left; (conv => whnf))
 | (refine W.drawPhTo (id := 20) tys_ok [] mixed [0, 0, 0, 0, 13, 31] [([], 5, 31), ([], 1, 63)] ⟨[(1, .st false (.arr NT pf)), (2, .lit (.int .i64 (num))), (3, .own 1000000000), (4, .st false (.sadr (.agg [I64 P, .arr JT l, .arr OT os]))), (9, .st true (.sadr (.agg [I64 (pf.getD num N0).1, I64 (pf.getD num N0).2.1, I64 (pf.getD num N0).2.2.1, I64 (pf.getD num N0).2.2.2.1, I64 (pf.getD num N0).2.2.2.2.1, I64 (pf.getD num N0).2.2.2.2.2.1]))), (28, .lit (.int .i64 ((pf.getD num N0).1))), (13, .st true (.sadr (.agg [I64 (l.getD (pf.getD num N0).2.1.toNat J0).1, I64 (l.getD (pf.getD num N0).2.1.toNat J0).2.1, I64 (l.getD (pf.getD num N0).2.1.toNat J0).2.2.1, I64 (l.getD (pf.getD num N0).2.1.toNat J0).2.2.2.1]))), (14, .padr 15000 0), (15, .padr 16000 0)], [(1000000000, .row 4 .bool true (sn.set num true)), (15000, .box [.lit (.int .i64 P), .st false (.arr JT l), .st false (.arr OT os)]), (16000, .box [.lit (.int .i64 P), .st false (.arr JT l), .st false (.arr OT os)])]⟩ (by decide +kernel) ?_ ?_ <;> (conv => whnf))
 | (refine W.drawPhTo (id := 21) tys_ok [] mixed [0, 0, 2, 5, 0, 0, 32, 88, 15, 399, 1023, 2047] [([1, 2, 5, 6], 5, 511), ([], 1, 1023), ([10], 1, 4095)] ⟨[(1, .st false (.arr NT pf)), (2, .lit (.int .i64 (num))), (3, .own 1000000000), (4, .st false (.sadr (.agg [I64 P, .arr JT l, .arr OT os]))), (9, .st true (.sadr (.agg [I64 (pf.getD num N0).1, I64 (pf.getD num N0).2.1, I64 (pf.getD num N0).2.2.1, I64 (pf.getD num N0).2.2.2.1, I64 (pf.getD num N0).2.2.2.2.1, I64 (pf.getD num N0).2.2.2.2.2.1]))), (28, .lit (.int .i64 ((pf.getD num N0).1))), (13, .st true (.sadr (.agg [I64 (l.getD (pf.getD num N0).2.1.toNat J0).1, I64 (l.getD (pf.getD num N0).2.1.toNat J0).2.1, I64 (l.getD (pf.getD num N0).2.1.toNat J0).2.2.1, I64 (l.getD (pf.getD num N0).2.1.toNat J0).2.2.2.1]))), (14, .padr 15000 0), (15, .padr 16000 0)], [(1000000000, .row 4 .bool true (sn.set num true)), (15000, .box [.lit (.int .i64 P), .own 197000, .st false (.arr OT os)]), (16000, .box [.lit (.int .i64 P), .own 201000, .st false (.arr OT os)]), (197000, .row 45 JT true l), (201000, .row 45 JT true l)]⟩ (by decide +kernel) ?_ ?_ <;> (conv => whnf))
 | (refine W.drawPhTo (id := 22) tys_ok [] mixed [0, 1, 0, 4, 0, 16, 0, 64, 0, 256, 0, 1024, 2560, 0, 8192, 16384, 7951, 73487, 139023, 524287, 1048575, 1572863] [([0, 2, 3, 4, 6, 7, 8, 9, 10, 11, 12, 13, 14, 15], 5, 524287), ([], 1, 1048575), ([], 1, 2097151), ([], 1, 4194303)] ⟨[(1, .st false (.arr NT pf)), (3, .own 1000000000), (9, .st true (.sadr (.agg [I64 (pf.getD num N0).1, I64 (pf.getD num N0).2.1, I64 (pf.getD num N0).2.2.1, I64 (pf.getD num N0).2.2.2.1, I64 (pf.getD num N0).2.2.2.2.1, I64 (pf.getD num N0).2.2.2.2.2.1]))), (14, .st false (.sadr (.agg [I64 P, .arr JT L, .arr OT os]))), (15, .st false (.sadr (.agg [I64 P, .arr JT R, .arr OT os])))], [(1000000000, .row 4 .bool true (sn.set num true))]⟩ (by decide +kernel) ?_ ?_ <;> (conv => whnf))
 | (refine W.regionM (id := 23) tys_ok [] [5,12] ?_; conv => whnf)
 | (refine W.region tys_ok [] ?_; conv => whnf)
 | (refine W.drawAll tys_ok [] mixed rfl ?_; conv => whnf)
 | (refine W.ret ?_; conv => whnf)
 | (refine W.skip ?_; conv => whnf)
 | (refine W.exit ?_; conv => whnf)
 | (refine call_at (al := false) (in_at _ _ _) rfl rfl rfl rfl ?_; conv => whnf)
 | (refine callM_at (c1) ?_; clear c1; conv => whnf)
 | (refine Both.mk ?_ ?_ <;> (conv => whnf))
 | (refine W.cond rfl (fun hb => ?_) (fun hb => ?_) <;> (try simp only [Int.reduceToNat, Int.reduceTDiv, Int.reduceTMod, minL, maxL, pickB, zHB, zSH] at hb) <;> (try (first | (cases hb; done) | exact absurd hb (by decide) | (exfalso; omega) | (first | exact Bool.noConfusion (hb.symm.trans hs) | omega))))
 | (refine Or.inl (And.intro ?_ ?_); (focus (first | exact trivial | exact ⟨rfl, trivial⟩ | (refine ⟨?_, trivial⟩; dsimp only; simp only [Int.reduceToNat, Int.reduceTDiv, Int.reduceTMod, minL, maxL, pickB, zHB, zSH]; omega))); (conv => whnf))
 | (refine Or.inr (And.intro ?_ ?_); (focus (intro h; have h := h.1; dsimp only at h; first | (exact Bool.noConfusion h) | (simp only [Int.reduceToNat, Int.reduceTDiv, Int.reduceTMod, minL, maxL, pickB, zHB, zSH] at h; omega))); (conv => whnf))
 | ((with_reducible refine And.intro ?_ ?_); (focus ((repeat' (first | (with_reducible rfl) | (with_reducible refine And.intro ?_ ?_) | omega | rfl | exact Or.inl rfl | exact Or.inr rfl | exact of_decide_eq_true rfl | exact Path.imp_of (of_decide_eq_true rfl) | (focus ((try simp only [Int.reduceToNat, Int.reduceTDiv, Int.reduceTMod, minL, maxL, pickB, zHB, zSH, InK, Path.imp, zL] at *); omega)) | (refine app_le rfl ?_; omega))); done)); (conv => whnf))
 | ((with_reducible refine And.intro (Side.out ?_) ?_); rotate_left; (conv => whnf))
 | ((first | refine retM1 ?_ | refine retM2 ?_ | refine subF.leaf ?_ | refine subF.side ?_) <;> (conv => whnf) <;> repeat' (first
 | exact trivial
 | (with_reducible rfl)
 | ((with_reducible refine And.intro ?_ ?_) <;> conv => whnf)
 | omega
 | rfl
 | (refine congrArg (SV.arr _) ?_)
 | (refine congrArg (Value.int _) ?_)
 | (refine congrArg Value.bool ?_)))); all_goals (try unfold Side)
  all_goals try (repeat' (first | (with_reducible rfl) | (with_reducible refine And.intro ?_ ?_) | omega | rfl | exact Or.inl rfl | exact Or.inr rfl | exact of_decide_eq_true rfl | exact Path.imp_of (of_decide_eq_true rfl) | (focus ((try simp only [Int.reduceToNat, Int.reduceTDiv, Int.reduceTMod, minL, maxL, pickB, zHB, zSH, InK, Path.imp, zL] at *); omega)) | (refine app_le rfl ?_; omega)))
  all_goals try refine subF.ok ?_ <;> (conv => whnf) <;> repeat' (first
 | exact trivial
 | (with_reducible rfl)
 | ((with_reducible refine And.intro ?_ ?_) <;> conv => whnf)
 | omega
 | rfl
 | (refine congrArg (SV.arr _) ?_)
 | (refine congrArg (Value.int _) ?_)
 | (refine congrArg Value.bool ?_))
  all_goals try (first | exact eL | exact eR)
set_option maxHeartbeats 8000000 in
theorem rprovesMT_at {P : Int} {os : List Od} {pf : List Nd} (hP : 0 ≤ P ∧ P ≤ 100) (hpf : pf.length ≤ 100000) {k num : Nat} {l : List Jb} {sn : List Bool} (hnum : num < pf.length) (hsn : sn.length = pf.length) (hbd : Bd l) (ho : Ords os l.length) (hs : sn.getD num false = false) (h1 : (pf.getD num N0).1 = 1) (hc : ((pf.getD num N0).2.2.2.1 = 0 ∧ (0 ≤ (pf.getD num N0).2.1 ∧ (pf.getD num N0).2.1 < l.length) ∧ (jf l (pf.getD num N0).2.1.toNat ≤ (pf.getD num N0).2.2.1 ∧ (pf.getD num N0).2.2.1 < jt l (pf.getD num N0).2.1.toNat - jl l (pf.getD num N0).2.1.toNat) ∧ (((num : Int) < (pf.getD num N0).2.2.2.2.1 ∧ (num : Int) < (pf.getD num N0).2.2.2.2.2.1) ∧ (pf.getD num N0).2.2.2.2.1 < pf.length ∧ (pf.getD num N0).2.2.2.2.2.1 < pf.length))) {L R : List Jb} (hL : L = partL l (pf.getD num N0).2.1.toNat (pf.getD num N0).2.2.1) (hR : R = partR l (pf.getD num N0).2.1.toNat (pf.getD num N0).2.2.1) {S1 S2 : List Bool} {B2 : Bool} (hl1 : S1.length = pf.length)
    (c1 : FnM Try.prog 42 [.st false (.agg [I64 P, .arr JT L, .arr OT os]), .st false (.arr NT pf), .lit (.int .i64 (pf.getD num N0).2.2.2.2.1), .own 1000000000] [(1000000000, .row 4 .bool true (sn.set num true))] (.lit (.bool true)) [(1000000000, .row 4 .bool true S1)])
    (c2 : FnM Try.prog 42 [.st false (.agg [I64 P, .arr JT R, .arr OT os]), .st false (.arr NT pf), .lit (.int .i64 (pf.getD num N0).2.2.2.2.2.1), .own 1000000000] [(1000000000, .row 4 .bool true S1)] (.lit (.bool B2)) [(1000000000, .row 4 .bool true S2)]) :
    FnM Try.prog 42 [.st false (.agg [I64 P, .arr JT l, .arr OT os]), .st false (.arr NT pf), .lit (.int .i64 num), .own 1000000000] [(1000000000, .row 4 .bool true sn)] (.lit (.bool B2)) [(1000000000, .row 4 .bool true S2)] := by
  have hll : @List.length JT.T l = l.length := rfl
  have hlp : @List.length NT.T pf = pf.length := rfl
  have hlo : @List.length OT.T os = os.length := rfl
  have hls : @List.length Ty.bool.T sn = pf.length := hsn
  have hol := ho.1
  have hjl := hbd.len
  have hrj := hbd.rg (pf.getD num N0).2.1.toNat (by omega)
  have hjn : (pf.getD num N0).2.1.toNat < l.length := by omega
  have hc' := hc
  unfold jf jt jl jp at hrj
  unfold jf jt jl at hc'
  have eL : l.set (pf.getD num N0).2.1.toNat ((l.getD (pf.getD num N0).2.1.toNat J0).1, (pf.getD num N0).2.2.1 + (l.getD (pf.getD num N0).2.1.toNat J0).2.2.1, (l.getD (pf.getD num N0).2.1.toNat J0).2.2) = L := by rw [hL]; rfl
  have eR : l.set (pf.getD num N0).2.1.toNat ((pf.getD num N0).2.2.1 + 1, (l.getD (pf.getD num N0).2.1.toNat J0).2) = R := by rw [hR]; rfl
  refine FnM.of_body tys_ok Try.func42 (by rfl) rfl Try.ntmps42 (by rw [Try.results42]) (by simp) ?_
  
  repeat' (first
 | refine W.seq ?_
 | refine W.block ?_
 | (refine W.resub (x := Code.region 15 _ _) (Γ' := ⟨[(1, .st false (.arr NT pf)), (2, .lit (.int .i64 (num))), (3, .own 1000000000), (4, .st false (.sadr (.agg [I64 P, .arr JT l, .arr OT os]))), (9, .st true (.sadr (.agg [I64 (pf.getD num N0).1, I64 (pf.getD num N0).2.1, I64 (pf.getD num N0).2.2.1, I64 (pf.getD num N0).2.2.2.1, I64 (pf.getD num N0).2.2.2.2.1, I64 (pf.getD num N0).2.2.2.2.2.1]))), (28, .lit (.int .i64 ((pf.getD num N0).1)))], [(1000000000, .row 4 .bool true (sn.set num true))]⟩) ?_ (W.drawPh (id := 15) tys_ok [] mixed [0, 1, 2, 4, 8, 24, 8, 72, 136, 264, 552, 1032, 2056, 5120, 8192, 24576, 8192, 73728, 8192, 270336, 532480, 1220608, 2105344, 4202496, 10485760, 16777216, 50331648, 16777216, 150994944, 16777216, 553648128, 1090519040, 2499805184, 4311744512, 8606711808] [([0, 1, 2, 3, 4, 5, 6, 7, 8, 9], 1, 2047), ([11, 12, 13, 14, 15, 16, 17, 18, 19, 20], 1, 4194303), ([22, 23, 24, 25, 26, 27, 28, 29, 30, 31], 1, 8589934591), ([33, 34], 0, 34359738367)] (by decide +kernel) ?_); rotate_left; (conv => whnf))
 | (refine W.resub (x := Code.region 18 _ _) (Γ' := ⟨[(1, .st false (.arr NT pf)), (2, .lit (.int .i64 (num))), (3, .own 1000000000), (4, .st false (.sadr (.agg [I64 P, .arr JT l, .arr OT os]))), (9, .st true (.sadr (.agg [I64 (pf.getD num N0).1, I64 (pf.getD num N0).2.1, I64 (pf.getD num N0).2.2.1, I64 (pf.getD num N0).2.2.2.1, I64 (pf.getD num N0).2.2.2.2.1, I64 (pf.getD num N0).2.2.2.2.2.1]))), (28, .lit (.int .i64 ((pf.getD num N0).1))), (13, .st true (.sadr (.agg [I64 (l.getD (pf.getD num N0).2.1.toNat J0).1, I64 (l.getD (pf.getD num N0).2.1.toNat J0).2.1, I64 (l.getD (pf.getD num N0).2.1.toNat J0).2.2.1, I64 (l.getD (pf.getD num N0).2.1.toNat J0).2.2.2.1])))], [(1000000000, .row 4 .bool true (sn.set num true))]⟩) ?_ (W.drawPh (id := 18) tys_ok [] mixed [0, 1, 0, 4, 10, 16, 32, 96, 32, 288, 32, 1056, 2592, 4256, 8224] [([0, 1, 2, 3, 4, 5, 6, 7, 8, 9, 10, 11, 12, 13, 14], 0, 32767)] (by decide +kernel) ?_); rotate_left; (conv => whnf))
 | (refine W.drawPhTo (id := 20) tys_ok [] mixed [0, 0, 0, 0, 13, 31] [([], 5, 31), ([], 1, 63)] ⟨[(1, .st false (.arr NT pf)), (2, .lit (.int .i64 (num))), (3, .own 1000000000), (4, .st false (.sadr (.agg [I64 P, .arr JT l, .arr OT os]))), (9, .st true (.sadr (.agg [I64 (pf.getD num N0).1, I64 (pf.getD num N0).2.1, I64 (pf.getD num N0).2.2.1, I64 (pf.getD num N0).2.2.2.1, I64 (pf.getD num N0).2.2.2.2.1, I64 (pf.getD num N0).2.2.2.2.2.1]))), (28, .lit (.int .i64 ((pf.getD num N0).1))), (13, .st true (.sadr (.agg [I64 (l.getD (pf.getD num N0).2.1.toNat J0).1, I64 (l.getD (pf.getD num N0).2.1.toNat J0).2.1, I64 (l.getD (pf.getD num N0).2.1.toNat J0).2.2.1, I64 (l.getD (pf.getD num N0).2.1.toNat J0).2.2.2.1]))), (14, .padr 15000 0), (15, .padr 16000 0)], [(1000000000, .row 4 .bool true (sn.set num true)), (15000, .box [.lit (.int .i64 P), .st false (.arr JT l), .st false (.arr OT os)]), (16000, .box [.lit (.int .i64 P), .st false (.arr JT l), .st false (.arr OT os)])]⟩ (by decide +kernel) ?_ ?_ <;> (conv => whnf))
 | (refine W.drawPhTo (id := 21) tys_ok [] mixed [0, 0, 2, 5, 0, 0, 32, 88, 15, 399, 1023, 2047] [([1, 2, 5, 6], 5, 511), ([], 1, 1023), ([10], 1, 4095)] ⟨[(1, .st false (.arr NT pf)), (2, .lit (.int .i64 (num))), (3, .own 1000000000), (4, .st false (.sadr (.agg [I64 P, .arr JT l, .arr OT os]))), (9, .st true (.sadr (.agg [I64 (pf.getD num N0).1, I64 (pf.getD num N0).2.1, I64 (pf.getD num N0).2.2.1, I64 (pf.getD num N0).2.2.2.1, I64 (pf.getD num N0).2.2.2.2.1, I64 (pf.getD num N0).2.2.2.2.2.1]))), (28, .lit (.int .i64 ((pf.getD num N0).1))), (13, .st true (.sadr (.agg [I64 (l.getD (pf.getD num N0).2.1.toNat J0).1, I64 (l.getD (pf.getD num N0).2.1.toNat J0).2.1, I64 (l.getD (pf.getD num N0).2.1.toNat J0).2.2.1, I64 (l.getD (pf.getD num N0).2.1.toNat J0).2.2.2.1]))), (14, .padr 15000 0), (15, .padr 16000 0)], [(1000000000, .row 4 .bool true (sn.set num true)), (15000, .box [.lit (.int .i64 P), .own 197000, .st false (.arr OT os)]), (16000, .box [.lit (.int .i64 P), .own 201000, .st false (.arr OT os)]), (197000, .row 45 JT true l), (201000, .row 45 JT true l)]⟩ (by decide +kernel) ?_ ?_ <;> (conv => whnf))
 | (refine W.drawPhTo (id := 22) tys_ok [] mixed [0, 1, 0, 4, 0, 16, 0, 64, 0, 256, 0, 1024, 2560, 0, 8192, 16384, 7951, 73487, 139023, 524287, 1048575, 1572863] [([0, 2, 3, 4, 6, 7, 8, 9, 10, 11, 12, 13, 14, 15], 5, 524287), ([], 1, 1048575), ([], 1, 2097151), ([], 1, 4194303)] ⟨[(1, .st false (.arr NT pf)), (3, .own 1000000000), (9, .st true (.sadr (.agg [I64 (pf.getD num N0).1, I64 (pf.getD num N0).2.1, I64 (pf.getD num N0).2.2.1, I64 (pf.getD num N0).2.2.2.1, I64 (pf.getD num N0).2.2.2.2.1, I64 (pf.getD num N0).2.2.2.2.2.1]))), (14, .st false (.sadr (.agg [I64 P, .arr JT L, .arr OT os]))), (15, .st false (.sadr (.agg [I64 P, .arr JT R, .arr OT os])))], [(1000000000, .row 4 .bool true (sn.set num true))]⟩ (by decide +kernel) ?_ ?_ <;> (conv => whnf))
 | (refine W.regionM (id := 23) tys_ok [] [5,12] ?_; conv => whnf)
 | (refine W.region tys_ok [] ?_; conv => whnf)
 | (refine W.drawAll tys_ok [] mixed rfl ?_; conv => whnf)
 | (refine W.ret ?_; conv => whnf)
 | (refine W.skip ?_; conv => whnf)
 | (refine W.exit ?_; conv => whnf)
 | (refine call_at (al := false) (in_at _ _ _) rfl rfl rfl rfl ?_; conv => whnf)
 | (refine callM_at (c1) ?_; clear c1; conv => whnf)
 | (refine callM_at (c2) ?_; conv => whnf)
 | (refine Both.mk ?_ ?_ <;> (conv => whnf))
 | (refine W.cond rfl (fun hb => ?_) (fun hb => ?_) <;> (try simp only [Int.reduceToNat, Int.reduceTDiv, Int.reduceTMod, minL, maxL, pickB, zHB, zSH] at hb) <;> (try (first | (cases hb; done) | exact absurd hb (by decide) | (exfalso; omega) | (first | exact Bool.noConfusion (hb.symm.trans hs) | omega))))
 | (refine Or.inl (And.intro ?_ ?_); (focus (first | exact trivial | exact ⟨rfl, trivial⟩ | (refine ⟨?_, trivial⟩; dsimp only; simp only [Int.reduceToNat, Int.reduceTDiv, Int.reduceTMod, minL, maxL, pickB, zHB, zSH]; omega))); (conv => whnf))
 | (refine Or.inr (And.intro ?_ ?_); (focus (intro h; have h := h.1; dsimp only at h; first | (exact Bool.noConfusion h) | (simp only [Int.reduceToNat, Int.reduceTDiv, Int.reduceTMod, minL, maxL, pickB, zHB, zSH] at h; omega))); (conv => whnf))
 | ((with_reducible refine And.intro ?_ ?_); (focus ((repeat' (first | (with_reducible rfl) | (with_reducible refine And.intro ?_ ?_) | omega | rfl | exact Or.inl rfl | exact Or.inr rfl | exact of_decide_eq_true rfl | exact Path.imp_of (of_decide_eq_true rfl) | (focus ((try simp only [Int.reduceToNat, Int.reduceTDiv, Int.reduceTMod, minL, maxL, pickB, zHB, zSH, InK, Path.imp, zL] at *); omega)) | (refine app_le rfl ?_; omega))); done)); (conv => whnf))
 | ((with_reducible refine And.intro (Side.out ?_) ?_); rotate_left; (conv => whnf))
 | ((first | refine retM1 ?_ | refine retM2 ?_ | refine subF.leaf ?_ | refine subF.side ?_) <;> (conv => whnf) <;> repeat' (first
 | exact trivial
 | (with_reducible rfl)
 | ((with_reducible refine And.intro ?_ ?_) <;> conv => whnf)
 | omega
 | rfl
 | (refine congrArg (SV.arr _) ?_)
 | (refine congrArg (Value.int _) ?_)
 | (refine congrArg Value.bool ?_)))); all_goals (try unfold Side)
  all_goals try (repeat' (first | (with_reducible rfl) | (with_reducible refine And.intro ?_ ?_) | omega | rfl | exact Or.inl rfl | exact Or.inr rfl | exact of_decide_eq_true rfl | exact Path.imp_of (of_decide_eq_true rfl) | (focus ((try simp only [Int.reduceToNat, Int.reduceTDiv, Int.reduceTMod, minL, maxL, pickB, zHB, zSH, InK, Path.imp, zL] at *); omega)) | (refine app_le rfl ?_; omega)))
  all_goals try refine subF.ok ?_ <;> (conv => whnf) <;> repeat' (first
 | exact trivial
 | (with_reducible rfl)
 | ((with_reducible refine And.intro ?_ ?_) <;> conv => whnf)
 | omega
 | rfl
 | (refine congrArg (SV.arr _) ?_)
 | (refine congrArg (Value.int _) ?_)
 | (refine congrArg Value.bool ?_))
  all_goals try (first | exact eL | exact eR)
end Go.Proofs.Ytmfholchenihaaa
namespace Go.Proofs.Ytmfholchenihaaa
open Go Go.Vc Go.Sh
set_option linter.unusedVariables false
set_option linter.unusedSimpArgs false
set_option maxHeartbeats 8000000 in
theorem rprovesM_at {P : Int} {os : List Od} {pf : List Nd} (hP : 0 ≤ P ∧ P ≤ 100) (hpf : pf.length ≤ 100000) {k num : Nat} {l : List Jb} {sn : List Bool} (hnum : num < pf.length) (hsn : sn.length = pf.length) (hbd : Bd l) (ho : Ords os l.length) (hs : sn.getD num false = false) (h1 : (pf.getD num N0).1 = 1) (hc : ((pf.getD num N0).2.2.2.1 = 0 ∧ (0 ≤ (pf.getD num N0).2.1 ∧ (pf.getD num N0).2.1 < l.length) ∧ (jf l (pf.getD num N0).2.1.toNat ≤ (pf.getD num N0).2.2.1 ∧ (pf.getD num N0).2.2.1 < jt l (pf.getD num N0).2.1.toNat - jl l (pf.getD num N0).2.1.toNat) ∧ (((num : Int) < (pf.getD num N0).2.2.2.2.1 ∧ (num : Int) < (pf.getD num N0).2.2.2.2.2.1) ∧ (pf.getD num N0).2.2.2.2.1 < pf.length ∧ (pf.getD num N0).2.2.2.2.2.1 < pf.length)))
    (ih : ∀ (n : Nat) (l' : List Jb) (sn' : List Bool), num < n → n < pf.length → sn'.length = pf.length → Bd l' → l'.length = l.length →
      FnM Try.prog 42 [.st false (.agg [I64 P, .arr JT l', .arr OT os]), .st false (.arr NT pf), .lit (.int .i64 n), .own 1000000000] [(1000000000, .row 4 .bool true sn')] (.lit (.bool (pvT P os pf k n l' sn').1)) [(1000000000, .row 4 .bool true (pvT P os pf k n l' sn').2)]) :
    FnM Try.prog 42 [.st false (.agg [I64 P, .arr JT l, .arr OT os]), .st false (.arr NT pf), .lit (.int .i64 num), .own 1000000000] [(1000000000, .row 4 .bool true sn)] (.lit (.bool (pvT P os pf (k + 1) num l sn).1)) [(1000000000, .row 4 .bool true (pvT P os pf (k + 1) num l sn).2)] := by
  have hll : @List.length JT.T l = l.length := rfl
  have hlp : @List.length NT.T pf = pf.length := rfl
  have hlo : @List.length OT.T os = os.length := rfl
  have hls : @List.length Ty.bool.T sn = pf.length := hsn
  have hol := ho.1
  have hjl := hbd.len
  rw [pv_split hs h1 (split_iff.2 hc)]
  have hjn : (pf.getD num N0).2.1.toNat < l.length := by omega
  obtain ⟨bL, bR, lL, lR⟩ := part_bd hbd hjn hc.2.2.1
  have hlf : (((pf.getD num N0).2.2.2.2.1.toNat : Nat) : Int) = (pf.getD num N0).2.2.2.2.1 := by omega
  have hrt : (((pf.getD num N0).2.2.2.2.2.1.toNat : Nat) : Int) = (pf.getD num N0).2.2.2.2.2.1 := by omega
  have hsl1 : (sn.set num true).length = pf.length := by rw [List.length_set]; exact hsn
  have c1 := ih (pf.getD num N0).2.2.2.2.1.toNat (partL l (pf.getD num N0).2.1.toNat (pf.getD num N0).2.2.1) (sn.set num true) (by omega) (by omega) hsl1 bL lL
  have c2 := fun sn' hsn' => ih (pf.getD num N0).2.2.2.2.2.1.toNat (partR l (pf.getD num N0).2.1.toNat (pf.getD num N0).2.2.1) sn' (by omega) (by omega) hsn' bR lR
  have hl1 := pv_len (P := P) (os := os) (pf := pf) (k := k) (num := (pf.getD num N0).2.2.2.2.1.toNat) (l := (partL l (pf.getD num N0).2.1.toNat (pf.getD num N0).2.2.1)) (sn := sn.set num true)
  rw [hlf] at c1
  rw [hrt] at c2
  obtain ⟨r1, hr1⟩ : ∃ r1, r1 = pvT P os pf k (pf.getD num N0).2.2.2.2.1.toNat (partL l (pf.getD num N0).2.1.toNat (pf.getD num N0).2.2.1) (sn.set num true) := ⟨_, rfl⟩
  rw [← hr1] at c1 hl1 ⊢
  obtain ⟨B1, S1⟩ := r1
  have hl1' : S1.length = pf.length := by rw [← hsl1]; exact hl1
  have c2 := c2 S1 hl1'
  obtain ⟨r2, hr2⟩ : ∃ r2, r2 = pvT P os pf k (pf.getD num N0).2.2.2.2.2.1.toNat (partR l (pf.getD num N0).2.1.toNat (pf.getD num N0).2.2.1) S1 := ⟨_, rfl⟩
  have hr2' : pvT P os pf k (pf.getD num N0).2.2.2.2.2.1.toNat (partR l (pf.getD num N0).2.1.toNat (pf.getD num N0).2.2.1) (B1, S1).2 = r2 := hr2.symm
  rw [hr2']
  rw [← hr2] at c2
  obtain ⟨B2, S2⟩ := r2
  clear hr1 hr2 hr2'
  cases B1 with
  | false =>
    dsimp only
    rw [if_neg Bool.false_ne_true]
    exact rprovesMF_at (k := k) (S1 := S1) (S2 := S1) (B2 := false) hP hpf hnum hsn hbd ho hs h1 hc rfl rfl hl1' c1
  | true =>
    rw [if_pos rfl]
    exact rprovesMT_at (k := k) (S1 := S1) (S2 := S2) (B2 := B2) hP hpf hnum hsn hbd ho hs h1 hc rfl rfl hl1' c1 c2
theorem rproves_at {P : Int} {os : List Od} {pf : List Nd} (hP : 0 ≤ P ∧ P ≤ 100) (hpf : pf.length ≤ 100000) : ∀ {k num : Nat} {l : List Jb} {sn : List Bool}, num < pf.length → pf.length ≤ num + k → sn.length = pf.length → Bd l → Ords os l.length →
    FnM Try.prog 42 [.st false (.agg [I64 P, .arr JT l, .arr OT os]), .st false (.arr NT pf), .lit (.int .i64 num), .own 1000000000] [(1000000000, .row 4 .bool true sn)] (.lit (.bool (pvT P os pf k num l sn).1)) [(1000000000, .row 4 .bool true (pvT P os pf k num l sn).2)]
  | 0, num, l, sn, h1, h2, _, _, _ => by omega
  | k + 1, num, l, sn, hnum, hk, hsn, hbd, ho => by
    have ih : ∀ (n : Nat) (l' : List Jb) (sn' : List Bool), num < n → n < pf.length → sn'.length = pf.length → Bd l' → l'.length = l.length →
      FnM Try.prog 42 [.st false (.agg [I64 P, .arr JT l', .arr OT os]), .st false (.arr NT pf), .lit (.int .i64 n), .own 1000000000] [(1000000000, .row 4 .bool true sn')] (.lit (.bool (pvT P os pf k n l' sn').1)) [(1000000000, .row 4 .bool true (pvT P os pf k n l' sn').2)] :=
      fun n l' sn' h1 h2 h3 h4 h5 => rproves_at hP hpf h2 (by omega) h3 h4 (by rw [h5]; exact ho)
    cases hs : sn.getD num false with
    | true => exact rprovesS_at hP hpf hnum hsn hbd ho hs
    | false =>
      by_cases h1 : (pf.getD num N0).1 = 1
      · by_cases hc : ((pf.getD num N0).2.2.2.1 = 0 ∧ (0 ≤ (pf.getD num N0).2.1 ∧ (pf.getD num N0).2.1 < l.length) ∧ (jf l (pf.getD num N0).2.1.toNat ≤ (pf.getD num N0).2.2.1 ∧ (pf.getD num N0).2.2.1 < jt l (pf.getD num N0).2.1.toNat - jl l (pf.getD num N0).2.1.toNat) ∧ (((num : Int) < (pf.getD num N0).2.2.2.2.1 ∧ (num : Int) < (pf.getD num N0).2.2.2.2.2.1) ∧ (pf.getD num N0).2.2.2.2.1 < pf.length ∧ (pf.getD num N0).2.2.2.2.2.1 < pf.length))
        · exact rprovesM_at hP hpf hnum hsn hbd ho hs h1 hc ih
        · exact rprovesN_at hP hpf hnum hsn hbd ho hs h1 hc
      · by_cases h2 : (pf.getD num N0).1 = 2
        · exact rproves2_at hP hpf hnum hsn hbd ho hs h2
        · by_cases h3 : (pf.getD num N0).1 = 3
          · exact rproves3_at hP hpf hnum hsn hbd ho hs h3
          · exact rprovesE_at hP hpf hnum hsn hbd ho hs h1 h2 h3
set_option maxHeartbeats 4000000 in
theorem rProves_at {P : Int} {l : List Jb} {os : List Od} {pf : List Nd} (h : VS P l os) (hp : pf.length ≤ 20000) : FnAt Try.prog false 25 [.agg [I64 P, .arr JT l, .arr OT os], .arr NT pf] (.lit (.bool (provesB P l os pf))) [] := by
  have hlp : @List.length NT.T pf = pf.length := rfl
  by_cases hz : 0 < pf.length
  · have hc := rproves_at (P := P) (os := os) (pf := pf) (k := pf.length) (num := 0) (l := l) (sn := List.replicate pf.length false) (by have := h.pw; omega) (by omega) hz (by omega) (by simp) (bd_of h) (ords_of h)
    have hB : provesB P l os pf = (pvT P os pf pf.length 0 l (List.replicate pf.length false)).1 := by unfold provesB; rw [decide_eq_true hz, Bool.true_and]
    rw [hB]
    obtain ⟨r, hr⟩ : ∃ r, r = pvT P os pf pf.length 0 l (List.replicate pf.length false) := ⟨_, rfl⟩
    rw [← hr] at hc ⊢
    clear hr hB
    have hs : List.replicate ((pf.length : Nat) : Int).toNat false = List.replicate pf.length false := by rw [Int.toNat_natCast]
    have hfin : ∀ b : Bool, pickB (decide (0 < (pf.length : Int))) (Operand.tmp 14) (Operand.const (Value.bool false)) b false = b := fun b => by
      rw [decide_eq_true (by omega)]; rfl
    refine FnAt.of_body tys_ok Try.func25 (by rfl) rfl Try.ntmps25 (by rw [Try.results25]) (by simp) ?_
  
    repeat' (first
 | refine W.seq ?_
 | refine W.block ?_
 | (refine W.resub (x := Code.region 1 _ _) (Γ' := ⟨[(1, .st false (.arr NT pf)), (2, .st false (.sadr (.agg [I64 P, .arr JT l, .arr OT os])))], []⟩) ?_ (W.drawM (id := 1) tys_ok [] [8, 9] mixed [0, 1, 2, 4, 8, 8, 8, 72, 136, 312, 520, 2047] [([0, 1, 2, 3, 4, 5, 6, 7], 1, 511), ([], 1, 1023), ([10, 11], 0, 4095)] (by decide +kernel) ?_); rotate_left; (conv => whnf))
 | (refine W.region tys_ok [] ?_; conv => whnf)
 | (refine W.drawAll tys_ok [] mixed rfl ?_; conv => whnf)
 | (refine W.ret ?_; conv => whnf)
 | (refine W.skip ?_; conv => whnf)
 | (refine W.exit ?_; conv => whnf)
 | (refine callM_at (hc) ?_; conv => whnf)
 | (refine Both.mk ?_ ?_ <;> (conv => whnf))
 | (refine W.cond rfl (fun hb => ?_) (fun hb => ?_) <;> (try simp only [Int.reduceToNat, Int.reduceTDiv, Int.reduceTMod, minL, maxL, pickB, zHB, zSH] at hb) <;> (try (first | (cases hb; done) | exact absurd hb (by decide) | (exfalso; omega) | (omega))))
 | (refine Or.inl (And.intro ?_ ?_); (focus (first | exact trivial | exact ⟨rfl, trivial⟩ | (refine ⟨?_, trivial⟩; dsimp only; simp only [Int.reduceToNat, Int.reduceTDiv, Int.reduceTMod, minL, maxL, pickB, zHB, zSH]; omega))); (conv => whnf))
 | (refine Or.inr (And.intro ?_ ?_); (focus (intro h; have h := h.1; dsimp only at h; first | (exact Bool.noConfusion h) | (simp only [Int.reduceToNat, Int.reduceTDiv, Int.reduceTMod, minL, maxL, pickB, zHB, zSH] at h; omega))); (conv => whnf))
 | ((with_reducible refine And.intro ?_ ?_); (focus (first | (with_reducible rfl) | omega | rfl | ((try simp only [Int.reduceToNat, Int.reduceTDiv, Int.reduceTMod, minL, maxL, pickB, zHB, zSH, InK, Path.imp, zL] at *); omega))); (conv => whnf))
 | ((with_reducible refine And.intro (Side.out ?_) ?_); rotate_left; (conv => whnf))
 | ((first | refine retF1 ?_ | refine retF2 ?_ | refine subF.leaf ?_ | refine subF.side ?_) <;> (conv => whnf) <;> repeat' (first
 | exact trivial
 | (with_reducible rfl)
 | ((with_reducible refine And.intro ?_ ?_) <;> conv => whnf)
 | omega
 | rfl
 | (refine congrArg (SV.arr _) ?_)
 | (refine congrArg (Value.int _) ?_)
 | (refine congrArg Value.bool ?_)))); all_goals (try unfold Side)
    all_goals try (repeat' (first | (with_reducible rfl) | (with_reducible refine And.intro ?_ ?_) | omega | rfl | exact Or.inl rfl | exact Or.inr rfl | exact of_decide_eq_true rfl | exact Path.imp_of (of_decide_eq_true rfl) | (focus ((try simp only [Int.reduceToNat, Int.reduceTDiv, Int.reduceTMod, minL, maxL, pickB, zHB, zSH, InK, Path.imp, zL] at *); omega)) | (refine app_le rfl ?_; omega)))
    all_goals exact hfin _
  · have hB : provesB P l os pf = false := by unfold provesB; rw [decide_eq_false hz, Bool.false_and]
    rw [hB]
    have hfin : pickB (decide (0 < (pf.length : Int))) (Operand.tmp 14) (Operand.const (Value.bool false)) false false = false := by
      rw [decide_eq_false (by omega)]; rfl
    refine FnAt.of_body tys_ok Try.func25 (by rfl) rfl Try.ntmps25 (by rw [Try.results25]) (by simp) ?_
  
    repeat' (first
 | refine W.seq ?_
 | refine W.block ?_
 | (refine W.resub (x := Code.region 1 _ _) (Γ' := ⟨[(1, .st false (.arr NT pf)), (2, .st false (.sadr (.agg [I64 P, .arr JT l, .arr OT os])))], []⟩) ?_ (W.drawM (id := 1) tys_ok [] [8, 9] mixed [0, 1, 2, 4, 8, 8, 8, 72, 136, 312, 520, 2047] [([0, 1, 2, 3, 4, 5, 6, 7], 1, 511), ([], 1, 1023), ([10, 11], 0, 4095)] (by decide +kernel) ?_); rotate_left; (conv => whnf))
 | (refine W.region tys_ok [] ?_; conv => whnf)
 | (refine W.drawAll tys_ok [] mixed rfl ?_; conv => whnf)
 | (refine W.ret ?_; conv => whnf)
 | (refine W.skip ?_; conv => whnf)
 | (refine W.exit ?_; conv => whnf)
 | (refine Both.mk ?_ ?_ <;> (conv => whnf))
 | (refine W.cond rfl (fun hb => ?_) (fun hb => ?_) <;> (try simp only [Int.reduceToNat, Int.reduceTDiv, Int.reduceTMod, minL, maxL, pickB, zHB, zSH] at hb) <;> (try (first | (cases hb; done) | exact absurd hb (by decide) | (exfalso; omega) | (omega))))
 | (refine Or.inl (And.intro ?_ ?_); (focus (first | exact trivial | exact ⟨rfl, trivial⟩ | (refine ⟨?_, trivial⟩; dsimp only; simp only [Int.reduceToNat, Int.reduceTDiv, Int.reduceTMod, minL, maxL, pickB, zHB, zSH]; omega))); (conv => whnf))
 | (refine Or.inr (And.intro ?_ ?_); (focus (intro h; have h := h.1; dsimp only at h; first | (exact Bool.noConfusion h) | (simp only [Int.reduceToNat, Int.reduceTDiv, Int.reduceTMod, minL, maxL, pickB, zHB, zSH] at h; omega))); (conv => whnf))
 | ((with_reducible refine And.intro ?_ ?_); (focus (first | (with_reducible rfl) | omega | rfl | ((try simp only [Int.reduceToNat, Int.reduceTDiv, Int.reduceTMod, minL, maxL, pickB, zHB, zSH, InK, Path.imp, zL] at *); omega))); (conv => whnf))
 | ((with_reducible refine And.intro (Side.out ?_) ?_); rotate_left; (conv => whnf))
 | ((first | refine retF1 ?_ | refine retF2 ?_ | refine subF.leaf ?_ | refine subF.side ?_) <;> (conv => whnf) <;> repeat' (first
 | exact trivial
 | (with_reducible rfl)
 | ((with_reducible refine And.intro ?_ ?_) <;> conv => whnf)
 | omega
 | rfl
 | (refine congrArg (SV.arr _) ?_)
 | (refine congrArg (Value.int _) ?_)
 | (refine congrArg Value.bool ?_)))); all_goals (try unfold Side)
    all_goals try (repeat' (first | (with_reducible rfl) | (with_reducible refine And.intro ?_ ?_) | omega | rfl | exact Or.inl rfl | exact Or.inr rfl | exact of_decide_eq_true rfl | exact Path.imp_of (of_decide_eq_true rfl) | (focus ((try simp only [Int.reduceToNat, Int.reduceTDiv, Int.reduceTMod, minL, maxL, pickB, zHB, zSH, InK, Path.imp, zL] at *); omega)) | (refine app_le rfl ?_; omega)))
    all_goals exact hfin
end Go.Proofs.Ytmfholchenihaaa
namespace Go.Proofs.Ytmfholchenihaaa
open Go Go.Vc Go.Sh
set_option linter.unusedVariables false
set_option linter.unusedSimpArgs false
theorem refT_len {P : Int} {l : List Jb} {os : List Od} : (refT P l os).2.length ≤ 20000 := (growR_len (P := P) (os := os) (k := waysT l) (l := l) (N := []) (by simp)).2
end Go.Proofs.Ytmfholchenihaaa
namespace Go.Proofs.Ytmfholchenihaaa
open Go Go.Vc Go.Sh
set_option linter.unusedVariables false
set_option linter.unusedSimpArgs false
theorem ref_ok {P : Int} {l : List Jb} {os : List Od} (h : VS P l os) (hn : ∀ s, ¬ Fit P l os s) (hW : waysT l ≤ 4096) : (refT P l os).1 = true :=
  (growR_full (P := P) (os := os) (k := waysT l) (l := l) (N := []) h.pre hn (Nat.le_refl _) (by simp; omega)).1
theorem ref_proves {P : Int} {l : List Jb} {os : List Od} (h : (refT P l os).1 = true) : provesB P l os (refT P l os).2 = true := by
  obtain ⟨h1, _, h3⟩ := growR_tr (P := P) (os := os) (k := waysT l) (l := l) (N := []) h
  have h4 : Tr P os (refT P l os).2 0 (refT P l os).2.length l := h3 (refT P l os).2 fun i _ _ => rfl
  have h5 : 0 < (refT P l os).2.length := h1
  have h6 := (h4.pv (Nat.le_refl _) (refT P l os).2.length (List.replicate (refT P l os).2.length false) (by omega) (by simp) (fun i _ _ => by
    rw [List.getD_eq_getElem?_getD, List.getElem?_replicate]; split <;> rfl)).1
  unfold provesB
  rw [decide_eq_true h5, Bool.true_and]
  exact h6
set_option maxHeartbeats 16000000 in
theorem ShaftRefuses_at (P : Int) (l0 : List Jb) (os0 : List Od) : FnAt Try.prog false 4 [.agg [I64 P, .arr JT l0, .arr OT os0]] (.lit (.bool true)) [] := by
  obtain ⟨l, hl⟩ : ∃ l, l = l0.take 7 := ⟨_, rfl⟩
  obtain ⟨os, hos⟩ : ∃ os, os = os0.take 21 := ⟨_, rfl⟩
  have hll : l.length ≤ 1000 := by rw [hl, List.length_take]; omega
  have hlo : os.length ≤ 1000 := by rw [hos, List.length_take]; omega
  have hfw := few_eq (P := P) hl hos
  have hv := validR_at (P := P) hll hlo
  by_cases h : VS P l os
  · rw [validB_yes h] at hv
    have hw := ways_at h
    by_cases hW : waysT l ≤ 4096
    · have hm : min (4097 : Int) (waysT l) = waysT l := by omega
      rw [hm] at hw
      have ha := allR_at h (by omega)
      rcases first_spec h with ⟨h1, h2⟩ | ⟨h1, h2, h3⟩
      · have hg := ref_ok h h2 hW
        have c1 := Refuse_ok h h1 hg
        have hN := refT_len (P := P) (l := l) (os := os)
        have hB := ref_proves hg
        have hr := rProves_at h hN
        rw [hB] at hr
        rw [all_none h2] at ha
        obtain ⟨N, hNd⟩ : ∃ N, N = (refT P l os).2 := ⟨_, rfl⟩
        rw [← hNd] at c1 hr hN
        have hlN : @List.length NT.T N = N.length := rfl
        refine FnAt.of_body tys_ok Try.func4 (by rfl) rfl Try.ntmps4 (by rw [Try.results4]) (by simp) ?_
  
        repeat' (first
 | refine W.seq ?_
 | refine W.block ?_
 | (refine W.resub (x := Code.region 2 _ _) (Γ' := ⟨[(3, .st true (.sadr (.agg [I64 P, .arr JT l, .arr OT os])))], []⟩) ?_ (W.region tys_ok [] ?_); rotate_left; (conv => whnf))
 | (refine W.resub (x := Code.region 9 _ _) (Γ' := ⟨[(3, .st true (.sadr (.agg [I64 P, .arr JT l, .arr OT os]))), (4, .st true (.arr NT N)), (5, .lit (.int .i64 (0)))], []⟩) ?_ (W.region tys_ok [] ?_); rotate_left; (conv => whnf))
 | (refine W.region tys_ok [] ?_; conv => whnf)
 | (refine W.drawAll tys_ok [] mixed rfl ?_; conv => whnf)
 | (refine W.ret ?_; conv => whnf)
 | (refine W.skip ?_; conv => whnf)
 | (refine W.exit ?_; conv => whnf)
 | (refine call_at (al := false) (hfw) rfl rfl rfl rfl ?_; conv => whnf)
 | (refine call_at (al := true) (c1) rfl rfl rfl rfl ?_; conv => whnf)
 | (refine call_at (al := false) (hv) rfl rfl rfl rfl ?_; conv => whnf)
 | (refine call_at (al := false) (hw) rfl rfl rfl rfl ?_; conv => whnf)
 | (refine call_at (al := false) (ha) rfl rfl rfl rfl ?_; conv => whnf)
 | (refine call_at (al := false) (hr) rfl rfl rfl rfl ?_; conv => whnf)
 | (refine call_at (al := false) (lives_at) rfl rfl rfl rfl ?_; conv => whnf)
 | (refine W.cond rfl (fun hb => ?_) (fun hb => ?_) <;> (try simp only [Int.reduceToNat, Int.reduceTDiv, Int.reduceTMod, minL, maxL, pickB, zHB, zSH] at hb) <;> (try (first | (cases hb; done) | exact absurd hb (by decide) | (exfalso; omega) | (omega))))
 | ((with_reducible refine And.intro ?_ ?_); (focus (first | (with_reducible rfl) | omega | rfl | ((try simp only [Int.reduceToNat, Int.reduceTDiv, Int.reduceTMod, minL, maxL, pickB, zHB, zSH, InK, Path.imp, zL] at *); omega))); (conv => whnf))
 | ((with_reducible refine And.intro (Side.out ?_) ?_); rotate_left; (conv => whnf))
 | ((first | refine retF1 ?_ | refine retF2 ?_) <;> (conv => whnf) <;> repeat' (first
 | exact trivial
 | (with_reducible rfl)
 | ((with_reducible refine And.intro ?_ ?_) <;> conv => whnf)
 | omega
 | rfl
 | (refine congrArg (SV.arr _) ?_)
 | (refine congrArg (Value.int _) ?_)
 | (refine congrArg Value.bool ?_)))); all_goals (try unfold Side)
        all_goals try (repeat' (first | (with_reducible rfl) | (with_reducible refine And.intro ?_ ?_) | omega | rfl | exact Or.inl rfl | exact Or.inr rfl | exact of_decide_eq_true rfl | exact Path.imp_of (of_decide_eq_true rfl) | (focus ((try simp only [Int.reduceToNat, Int.reduceTDiv, Int.reduceTMod, minL, maxL, pickB, zHB, zSH, InK, Path.imp, zL] at *); omega)) | (refine app_le rfl ?_; omega)))
        all_goals try refine subF.ok ?_ <;> (conv => whnf) <;> repeat' (first
 | exact trivial
 | (with_reducible rfl)
 | ((with_reducible refine And.intro ?_ ?_) <;> conv => whnf)
 | omega
 | rfl
 | (refine congrArg (SV.arr _) ?_)
 | (refine congrArg (Value.int _) ?_)
 | (refine congrArg Value.bool ?_))
      · have c1 := Refuse_none h h1
        obtain ⟨i0, hi0, _⟩ := all_has h2
        have hAl : (allL P l os (waysT l)).length ≤ 4096 := Nat.le_trans allL_len hW
        have hAp : 0 < (allL P l os (waysT l)).length := by omega
        obtain ⟨A, hA⟩ : ∃ A, A = allL P l os (waysT l) := ⟨_, rfl⟩
        rw [← hA] at ha hAl hAp
        have hlA : @List.length (Ty.sl (.int .i64)).T A = A.length := rfl
        refine FnAt.of_body tys_ok Try.func4 (by rfl) rfl Try.ntmps4 (by rw [Try.results4]) (by simp) ?_
  
        repeat' (first
 | refine W.seq ?_
 | refine W.block ?_
 | (refine W.resub (x := Code.region 2 _ _) (Γ' := ⟨[(3, .st true (.sadr (.agg [I64 P, .arr JT l, .arr OT os])))], []⟩) ?_ (W.region tys_ok [] ?_); rotate_left; (conv => whnf))
 | (refine W.region tys_ok [] ?_; conv => whnf)
 | (refine W.drawAll tys_ok [] mixed rfl ?_; conv => whnf)
 | (refine W.ret ?_; conv => whnf)
 | (refine W.skip ?_; conv => whnf)
 | (refine W.exit ?_; conv => whnf)
 | (refine call_at (al := false) (hfw) rfl rfl rfl rfl ?_; conv => whnf)
 | (refine call_at (al := true) (c1) rfl rfl rfl rfl ?_; conv => whnf)
 | (refine call_at (al := false) (hv) rfl rfl rfl rfl ?_; conv => whnf)
 | (refine call_at (al := false) (hw) rfl rfl rfl rfl ?_; conv => whnf)
 | (refine call_at (al := false) (ha) rfl rfl rfl rfl ?_; conv => whnf)
 | (refine call_at (al := false) (lives_at) rfl rfl rfl rfl ?_; conv => whnf)
 | (refine W.cond rfl (fun hb => ?_) (fun hb => ?_) <;> (try simp only [Int.reduceToNat, Int.reduceTDiv, Int.reduceTMod, minL, maxL, pickB, zHB, zSH] at hb) <;> (try (first | (cases hb; done) | exact absurd hb (by decide) | (exfalso; omega) | (omega))))
 | ((with_reducible refine And.intro ?_ ?_); (focus (first | (with_reducible rfl) | omega | rfl | ((try simp only [Int.reduceToNat, Int.reduceTDiv, Int.reduceTMod, minL, maxL, pickB, zHB, zSH, InK, Path.imp, zL] at *); omega))); (conv => whnf))
 | ((with_reducible refine And.intro (Side.out ?_) ?_); rotate_left; (conv => whnf))
 | ((first | refine retF1 ?_ | refine retF2 ?_) <;> (conv => whnf) <;> repeat' (first
 | exact trivial
 | (with_reducible rfl)
 | ((with_reducible refine And.intro ?_ ?_) <;> conv => whnf)
 | omega
 | rfl
 | (refine congrArg (SV.arr _) ?_)
 | (refine congrArg (Value.int _) ?_)
 | (refine congrArg Value.bool ?_)))); all_goals (try unfold Side)
        all_goals try (repeat' (first | (with_reducible rfl) | (with_reducible refine And.intro ?_ ?_) | omega | rfl | exact Or.inl rfl | exact Or.inr rfl | exact of_decide_eq_true rfl | exact Path.imp_of (of_decide_eq_true rfl) | (focus ((try simp only [Int.reduceToNat, Int.reduceTDiv, Int.reduceTMod, minL, maxL, pickB, zHB, zSH, InK, Path.imp, zL] at *); omega)) | (refine app_le rfl ?_; omega)))
        all_goals try refine subF.ok ?_ <;> (conv => whnf) <;> repeat' (first
 | exact trivial
 | (with_reducible rfl)
 | ((with_reducible refine And.intro ?_ ?_) <;> conv => whnf)
 | omega
 | rfl
 | (refine congrArg (SV.arr _) ?_)
 | (refine congrArg (Value.int _) ?_)
 | (refine congrArg Value.bool ?_))
    · have hm : min (4097 : Int) (waysT l) = 4097 := by omega
      rw [hm] at hw
      refine FnAt.of_body tys_ok Try.func4 (by rfl) rfl Try.ntmps4 (by rw [Try.results4]) (by simp) ?_
  
      repeat' (first
 | refine W.seq ?_
 | refine W.block ?_
 | (refine W.resub (x := Code.region 2 _ _) (Γ' := ⟨[(3, .st true (.sadr (.agg [I64 P, .arr JT l, .arr OT os])))], []⟩) ?_ (W.region tys_ok [] ?_); rotate_left; (conv => whnf))
 | (refine W.region tys_ok [] ?_; conv => whnf)
 | (refine W.drawAll tys_ok [] mixed rfl ?_; conv => whnf)
 | (refine W.ret ?_; conv => whnf)
 | (refine W.skip ?_; conv => whnf)
 | (refine W.exit ?_; conv => whnf)
 | (refine call_at (al := false) (hfw) rfl rfl rfl rfl ?_; conv => whnf)
 | (refine call_at (al := false) (hv) rfl rfl rfl rfl ?_; conv => whnf)
 | (refine call_at (al := false) (hw) rfl rfl rfl rfl ?_; conv => whnf)
 | (refine call_at (al := false) (lives_at) rfl rfl rfl rfl ?_; conv => whnf)
 | (refine W.cond rfl (fun hb => ?_) (fun hb => ?_) <;> (try simp only [Int.reduceToNat, Int.reduceTDiv, Int.reduceTMod, minL, maxL, pickB, zHB, zSH] at hb) <;> (try (first | (cases hb; done) | exact absurd hb (by decide) | (exfalso; omega) | (omega))))
 | ((with_reducible refine And.intro ?_ ?_); (focus (first | (with_reducible rfl) | omega | rfl | ((try simp only [Int.reduceToNat, Int.reduceTDiv, Int.reduceTMod, minL, maxL, pickB, zHB, zSH, InK, Path.imp, zL] at *); omega))); (conv => whnf))
 | ((with_reducible refine And.intro (Side.out ?_) ?_); rotate_left; (conv => whnf))
 | ((first | refine retF1 ?_ | refine retF2 ?_) <;> (conv => whnf) <;> repeat' (first
 | exact trivial
 | (with_reducible rfl)
 | ((with_reducible refine And.intro ?_ ?_) <;> conv => whnf)
 | omega
 | rfl
 | (refine congrArg (SV.arr _) ?_)
 | (refine congrArg (Value.int _) ?_)
 | (refine congrArg Value.bool ?_)))); all_goals (try unfold Side)
      all_goals try (repeat' (first | (with_reducible rfl) | (with_reducible refine And.intro ?_ ?_) | omega | rfl | exact Or.inl rfl | exact Or.inr rfl | exact of_decide_eq_true rfl | exact Path.imp_of (of_decide_eq_true rfl) | (focus ((try simp only [Int.reduceToNat, Int.reduceTDiv, Int.reduceTMod, minL, maxL, pickB, zHB, zSH, InK, Path.imp, zL] at *); omega)) | (refine app_le rfl ?_; omega)))
      all_goals try refine subF.ok ?_ <;> (conv => whnf) <;> repeat' (first
 | exact trivial
 | (with_reducible rfl)
 | ((with_reducible refine And.intro ?_ ?_) <;> conv => whnf)
 | omega
 | rfl
 | (refine congrArg (SV.arr _) ?_)
 | (refine congrArg (Value.int _) ?_)
 | (refine congrArg Value.bool ?_))
  · rw [validB_no h] at hv
    have c1 := Refuse_no (P := P) hll hlo h
    refine FnAt.of_body tys_ok Try.func4 (by rfl) rfl Try.ntmps4 (by rw [Try.results4]) (by simp) ?_
  
    repeat' (first
 | refine W.seq ?_
 | refine W.block ?_
 | (refine W.resub (x := Code.region 2 _ _) (Γ' := ⟨[(3, .st true (.sadr (.agg [I64 P, .arr JT l, .arr OT os])))], []⟩) ?_ (W.region tys_ok [] ?_); rotate_left; (conv => whnf))
 | (refine W.region tys_ok [] ?_; conv => whnf)
 | (refine W.drawAll tys_ok [] mixed rfl ?_; conv => whnf)
 | (refine W.ret ?_; conv => whnf)
 | (refine W.skip ?_; conv => whnf)
 | (refine W.exit ?_; conv => whnf)
 | (refine call_at (al := false) (hfw) rfl rfl rfl rfl ?_; conv => whnf)
 | (refine call_at (al := true) (c1) rfl rfl rfl rfl ?_; conv => whnf)
 | (refine call_at (al := false) (hv) rfl rfl rfl rfl ?_; conv => whnf)
 | (refine ⟨false, _, _, _, _, rfl, fun h => (show FnAt Try.prog false 17 [.agg [I64 P, .arr JT l, .arr OT os], I64 4097] (.lit (.int .i64 0)) [] from (by exfalso; simp only [Int.reduceToNat, Int.reduceTDiv, Int.reduceTMod, minL, maxL, pickB, zHB, zSH] at h)), rfl, rfl, rfl, ?_⟩; conv => whnf)
 | (refine call_at (al := false) (lives_at) rfl rfl rfl rfl ?_; conv => whnf)
 | (refine W.cond rfl (fun hb => ?_) (fun hb => ?_) <;> (try simp only [Int.reduceToNat, Int.reduceTDiv, Int.reduceTMod, minL, maxL, pickB, zHB, zSH] at hb) <;> (try (first | (cases hb; done) | exact absurd hb (by decide) | (exfalso; omega) | (omega))))
 | ((with_reducible refine And.intro ?_ ?_); (focus (first | (with_reducible rfl) | omega | rfl | ((try simp only [Int.reduceToNat, Int.reduceTDiv, Int.reduceTMod, minL, maxL, pickB, zHB, zSH, InK, Path.imp, zL] at *); omega))); (conv => whnf))
 | ((with_reducible refine And.intro (Side.out ?_) ?_); rotate_left; (conv => whnf))
 | ((first | refine retF1 ?_ | refine retF2 ?_) <;> (conv => whnf) <;> repeat' (first
 | exact trivial
 | (with_reducible rfl)
 | ((with_reducible refine And.intro ?_ ?_) <;> conv => whnf)
 | omega
 | rfl
 | (refine congrArg (SV.arr _) ?_)
 | (refine congrArg (Value.int _) ?_)
 | (refine congrArg Value.bool ?_)))); all_goals (try unfold Side)
    all_goals try (repeat' (first | (with_reducible rfl) | (with_reducible refine And.intro ?_ ?_) | omega | rfl | exact Or.inl rfl | exact Or.inr rfl | exact of_decide_eq_true rfl | exact Path.imp_of (of_decide_eq_true rfl) | (focus ((try simp only [Int.reduceToNat, Int.reduceTDiv, Int.reduceTMod, minL, maxL, pickB, zHB, zSH, InK, Path.imp, zL] at *); omega)) | (refine app_le rfl ?_; omega)))
    all_goals try refine subF.ok ?_ <;> (conv => whnf) <;> repeat' (first
 | exact trivial
 | (with_reducible rfl)
 | ((with_reducible refine And.intro ?_ ?_) <;> conv => whnf)
 | omega
 | rfl
 | (refine congrArg (SV.arr _) ?_)
 | (refine congrArg (Value.int _) ?_)
 | (refine congrArg Value.bool ?_))
end Go.Proofs.Ytmfholchenihaaa

