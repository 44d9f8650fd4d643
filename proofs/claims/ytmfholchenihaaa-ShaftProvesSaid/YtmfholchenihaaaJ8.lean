/- Joined of: H22 H23 H16 H24 Ha15. No condition. -/
import Derived.Test.YtmfholchenihaaaJ7

namespace Go.Proofs.Ytmfholchenihaaa
open Go Go.Vc Go.Sh
set_option linter.unusedVariables false
set_option linter.unusedSimpArgs false
set_option maxHeartbeats 8000000 in
theorem rprovesS_at {P : Int} {os : List Od} {pf : List Nd} (hP : 0 ≤ P ∧ P ≤ 100) (hpf : pf.length ≤ 100000) {k num : Nat} {l : List Jb} {sn : List Bool} (hnum : num < pf.length) (hsn : sn.length = pf.length) (hbd : Bd l) (ho : Ords os l.length) (hs : sn.getD num false = true) :
    FnM Try.prog 42 [.st false (.agg [I64 P, .arr JT l, .arr OT os]), .st false (.arr NT pf), .lit (.int .i64 num), .own 1000000000] [(1000000000, .row 4 .bool true sn)] (.lit (.bool (pvT P os pf (k + 1) num l sn).1)) [(1000000000, .row 4 .bool true (pvT P os pf (k + 1) num l sn).2)] := by
  have hll : @List.length JT.T l = l.length := rfl
  have hlp : @List.length NT.T pf = pf.length := rfl
  have hlo : @List.length OT.T os = os.length := rfl
  have hls : @List.length Ty.bool.T sn = pf.length := hsn
  have hol := ho.1
  have hjl := hbd.len
  rw [pv_seen hs]
  refine FnM.of_body tys_ok Try.func42 (by rfl) rfl Try.ntmps42 (by rw [Try.results42]) (by simp) ?_
  
  repeat' (first
 | refine W.seq ?_
 | refine W.block ?_
 | (refine W.region tys_ok [] ?_; conv => whnf)
 | (refine W.drawAll tys_ok [] mixed rfl ?_; conv => whnf)
 | (refine W.ret ?_; conv => whnf)
 | (refine W.skip ?_; conv => whnf)
 | (refine W.exit ?_; conv => whnf)
 | (refine W.cond rfl (fun hb => ?_) (fun hb => ?_) <;> (try simp only [Int.reduceToNat, Int.reduceTDiv, Int.reduceTMod, minL, maxL, pickB, zHB, zSH] at hb) <;> (try (first | (cases hb; done) | exact absurd hb (by decide) | (exfalso; omega) | (first | exact Bool.noConfusion (hb.symm.trans hs) | omega))))
 | ((with_reducible refine And.intro ?_ ?_); (focus ((repeat' (first | (with_reducible rfl) | (with_reducible refine And.intro ?_ ?_) | omega | rfl | exact Or.inl rfl | exact Or.inr rfl | exact of_decide_eq_true rfl | exact Path.imp_of (of_decide_eq_true rfl) | (focus ((try simp only [Int.reduceToNat, Int.reduceTDiv, Int.reduceTMod, minL, maxL, pickB, zHB, zSH, InK, Path.imp, List.length_replicate, List.length_set, List.length_append, List.length_cons, List.length_nil] at *); omega)) | (refine app_le rfl ?_; omega))); done)); (conv => whnf))
 | ((with_reducible refine And.intro (Side.out ?_) ?_); rotate_left; (conv => whnf))
 | ((first | refine retM1 ?_ | refine retM2 ?_) <;> (conv => whnf) <;> repeat' (first
 | exact trivial
 | (with_reducible rfl)
 | ((with_reducible refine And.intro ?_ ?_) <;> conv => whnf)
 | omega
 | rfl
 | (refine congrArg (SV.arr _) ?_)
 | (refine congrArg (Value.int _) ?_)
 | (refine congrArg Value.bool ?_)))); all_goals (try unfold Side)
  all_goals try (repeat' (first | (with_reducible rfl) | (with_reducible refine And.intro ?_ ?_) | omega | rfl | exact Or.inl rfl | exact Or.inr rfl | exact of_decide_eq_true rfl | exact Path.imp_of (of_decide_eq_true rfl) | (focus ((try simp only [Int.reduceToNat, Int.reduceTDiv, Int.reduceTMod, minL, maxL, pickB, zHB, zSH, InK, Path.imp, List.length_replicate, List.length_set, List.length_append, List.length_cons, List.length_nil] at *); omega)) | (refine app_le rfl ?_; omega)))
set_option maxHeartbeats 8000000 in
theorem rprovesE_at {P : Int} {os : List Od} {pf : List Nd} (hP : 0 ≤ P ∧ P ≤ 100) (hpf : pf.length ≤ 100000) {k num : Nat} {l : List Jb} {sn : List Bool} (hnum : num < pf.length) (hsn : sn.length = pf.length) (hbd : Bd l) (ho : Ords os l.length) (hs : sn.getD num false = false) (h1 : (pf.getD num N0).1 ≠ 1) (h2 : (pf.getD num N0).1 ≠ 2) (h3 : (pf.getD num N0).1 ≠ 3) :
    FnM Try.prog 42 [.st false (.agg [I64 P, .arr JT l, .arr OT os]), .st false (.arr NT pf), .lit (.int .i64 num), .own 1000000000] [(1000000000, .row 4 .bool true sn)] (.lit (.bool (pvT P os pf (k + 1) num l sn).1)) [(1000000000, .row 4 .bool true (pvT P os pf (k + 1) num l sn).2)] := by
  have hll : @List.length JT.T l = l.length := rfl
  have hlp : @List.length NT.T pf = pf.length := rfl
  have hlo : @List.length OT.T os = os.length := rfl
  have hls : @List.length Ty.bool.T sn = pf.length := hsn
  have hol := ho.1
  have hjl := hbd.len
  rw [pv_else hs h1 h2 h3]
  refine FnM.of_body tys_ok Try.func42 (by rfl) rfl Try.ntmps42 (by rw [Try.results42]) (by simp) ?_
  
  repeat' (first
 | refine W.seq ?_
 | refine W.block ?_
 | (refine W.region tys_ok [] ?_; conv => whnf)
 | (refine W.drawAll tys_ok [] mixed rfl ?_; conv => whnf)
 | (refine W.ret ?_; conv => whnf)
 | (refine W.skip ?_; conv => whnf)
 | (refine W.exit ?_; conv => whnf)
 | (refine W.cond rfl (fun hb => ?_) (fun hb => ?_) <;> (try simp only [Int.reduceToNat, Int.reduceTDiv, Int.reduceTMod, minL, maxL, pickB, zHB, zSH] at hb) <;> (try (first | (cases hb; done) | exact absurd hb (by decide) | (exfalso; omega) | (first | exact Bool.noConfusion (hb.symm.trans hs) | omega))))
 | ((with_reducible refine And.intro ?_ ?_); (focus ((repeat' (first | (with_reducible rfl) | (with_reducible refine And.intro ?_ ?_) | omega | rfl | exact Or.inl rfl | exact Or.inr rfl | exact of_decide_eq_true rfl | exact Path.imp_of (of_decide_eq_true rfl) | (focus ((try simp only [Int.reduceToNat, Int.reduceTDiv, Int.reduceTMod, minL, maxL, pickB, zHB, zSH, InK, Path.imp, List.length_replicate, List.length_set, List.length_append, List.length_cons, List.length_nil] at *); omega)) | (refine app_le rfl ?_; omega))); done)); (conv => whnf))
 | ((with_reducible refine And.intro (Side.out ?_) ?_); rotate_left; (conv => whnf))
 | ((first | refine retM1 ?_ | refine retM2 ?_) <;> (conv => whnf) <;> repeat' (first
 | exact trivial
 | (with_reducible rfl)
 | ((with_reducible refine And.intro ?_ ?_) <;> conv => whnf)
 | omega
 | rfl
 | (refine congrArg (SV.arr _) ?_)
 | (refine congrArg (Value.int _) ?_)
 | (refine congrArg Value.bool ?_)))); all_goals (try unfold Side)
  all_goals try (repeat' (first | (with_reducible rfl) | (with_reducible refine And.intro ?_ ?_) | omega | rfl | exact Or.inl rfl | exact Or.inr rfl | exact of_decide_eq_true rfl | exact Path.imp_of (of_decide_eq_true rfl) | (focus ((try simp only [Int.reduceToNat, Int.reduceTDiv, Int.reduceTMod, minL, maxL, pickB, zHB, zSH, InK, Path.imp, List.length_replicate, List.length_set, List.length_append, List.length_cons, List.length_nil] at *); omega)) | (refine app_le rfl ?_; omega)))
set_option maxHeartbeats 8000000 in
theorem rproves2_at {P : Int} {os : List Od} {pf : List Nd} (hP : 0 ≤ P ∧ P ≤ 100) (hpf : pf.length ≤ 100000) {k num : Nat} {l : List Jb} {sn : List Bool} (hnum : num < pf.length) (hsn : sn.length = pf.length) (hbd : Bd l) (ho : Ords os l.length) (hs : sn.getD num false = false) (h2 : (pf.getD num N0).1 = 2) :
    FnM Try.prog 42 [.st false (.agg [I64 P, .arr JT l, .arr OT os]), .st false (.arr NT pf), .lit (.int .i64 num), .own 1000000000] [(1000000000, .row 4 .bool true sn)] (.lit (.bool (pvT P os pf (k + 1) num l sn).1)) [(1000000000, .row 4 .bool true (pvT P os pf (k + 1) num l sn).2)] := by
  have hll : @List.length JT.T l = l.length := rfl
  have hlp : @List.length NT.T pf = pf.length := rfl
  have hlo : @List.length OT.T os = os.length := rfl
  have hls : @List.length Ty.bool.T sn = pf.length := hsn
  have hol := ho.1
  have hjl := hbd.len
  rw [pv_crowd hs h2]
  have hbB : crowdB P l (pf.getD num N0) = (decide ((pf.getD num N0).2.1 = 0 ∧ (pf.getD num N0).2.2.2.2.1 = 0 ∧ (pf.getD num N0).2.2.2.2.2.1 = 0) && (decide (0 ≤ (pf.getD num N0).2.2.1 ∧ (pf.getD num N0).2.2.1 < (pf.getD num N0).2.2.2.1 ∧ (pf.getD num N0).2.2.2.1 ≤ 24) && decide (P * ((pf.getD num N0).2.2.2.1 - (pf.getD num N0).2.2.1) < needsT l (pf.getD num N0).2.2.1 (pf.getD num N0).2.2.2.1))) := rfl
  by_cases hc : ((pf.getD num N0).2.1 = 0 ∧ (pf.getD num N0).2.2.2.2.1 = 0 ∧ (pf.getD num N0).2.2.2.2.2.1 = 0) ∧ 0 ≤ (pf.getD num N0).2.2.1 ∧ (pf.getD num N0).2.2.1 < (pf.getD num N0).2.2.2.1 ∧ (pf.getD num N0).2.2.2.1 ≤ 24
  · have hn := needsR_at (P := P) (os := os) hbd (a := (pf.getD num N0).2.2.1) (b := (pf.getD num N0).2.2.2.1) (by omega)
    have hm : 0 ≤ P * ((pf.getD num N0).2.2.2.1 - (pf.getD num N0).2.2.1) ∧ P * ((pf.getD num N0).2.2.2.1 - (pf.getD num N0).2.2.1) ≤ 2500 := by
      refine ⟨Int.mul_nonneg hP.1 (by omega), ?_⟩
      have := Int.mul_le_mul (a := P) (b := (pf.getD num N0).2.2.2.1 - (pf.getD num N0).2.2.1) (c := 100) (d := 25) hP.2 (by omega) (by omega) (by omega)
      omega
    rw [hbB, decide_eq_true hc.1, decide_eq_true hc.2]
    refine FnM.of_body tys_ok Try.func42 (by rfl) rfl Try.ntmps42 (by rw [Try.results42]) (by simp) ?_
  
    repeat' (first
 | refine W.seq ?_
 | refine W.block ?_
 | (refine W.resub (x := Code.region 7 _ _) (Γ' := ⟨[(1, .st false (.arr NT pf)), (2, .lit (.int .i64 (num))), (3, .own 1000000000), (4, .st false (.sadr (.agg [I64 P, .arr JT l, .arr OT os]))), (9, .st true (.sadr (.agg [I64 (pf.getD num N0).1, I64 (pf.getD num N0).2.1, I64 (pf.getD num N0).2.2.1, I64 (pf.getD num N0).2.2.2.1, I64 (pf.getD num N0).2.2.2.2.1, I64 (pf.getD num N0).2.2.2.2.2.1]))), (28, .lit (.int .i64 ((pf.getD num N0).1)))], [(1000000000, .row 4 .bool true (sn.set num true))]⟩) ?_ (W.drawPh (id := 7) tys_ok [] mixed [0, 1, 2, 4, 8, 24, 40, 72, 136, 256, 768, 1280, 2304, 4352, 8192, 24576, 40960, 73728, 196608, 262144, 786432, 262144, 2359296, 4456448, 9699328, 17039360, 50331648, 67108864, 67108864, 335544320, 67108864, 1140850688, 2885681152, 67108864, 8657043456, 67108864, 34426847232, 67108864, 137506062336, 343664492544, 567002791936, 1103873703936, 2199090364416, 8796093022207] [([0, 1, 2, 3, 4, 5, 6, 7, 8, 9, 10, 11, 12, 13, 14, 15], 1, 131071), ([17, 18, 19, 20, 21, 22, 23], 1, 33554431), ([25, 26, 27, 28, 29, 30, 31, 33, 34, 35, 36, 37, 38, 39, 40], 1, 2199023255551), ([41, 42, 43], 0, 17592186044415)] (by decide +kernel) ?_); rotate_left; (conv => whnf))
 | (refine W.region tys_ok [] ?_; conv => whnf)
 | (refine W.drawAll tys_ok [] mixed rfl ?_; conv => whnf)
 | (refine W.ret ?_; conv => whnf)
 | (refine W.skip ?_; conv => whnf)
 | (refine W.exit ?_; conv => whnf)
 | (refine call_at (al := false) (in_at _ _ _) rfl rfl rfl rfl ?_; conv => whnf)
 | (refine call_at (al := false) (hn) rfl rfl rfl rfl ?_; conv => whnf)
 | (refine Both.mk ?_ ?_ <;> (conv => whnf))
 | (refine W.cond rfl (fun hb => ?_) (fun hb => ?_) <;> (try simp only [Int.reduceToNat, Int.reduceTDiv, Int.reduceTMod, minL, maxL, pickB, zHB, zSH] at hb) <;> (try (first | (cases hb; done) | exact absurd hb (by decide) | (exfalso; omega) | (first | exact Bool.noConfusion (hb.symm.trans hs) | omega))))
 | ((with_reducible refine And.intro ?_ ?_); (focus ((repeat' (first | (with_reducible rfl) | (with_reducible refine And.intro ?_ ?_) | omega | rfl | exact Or.inl rfl | exact Or.inr rfl | exact of_decide_eq_true rfl | exact Path.imp_of (of_decide_eq_true rfl) | (focus ((try simp only [Int.reduceToNat, Int.reduceTDiv, Int.reduceTMod, minL, maxL, pickB, zHB, zSH, InK, Path.imp, List.length_replicate, List.length_set, List.length_append, List.length_cons, List.length_nil] at *); omega)) | (refine app_le rfl ?_; omega))); done)); (conv => whnf))
 | ((with_reducible refine And.intro (Side.out ?_) ?_); rotate_left; (conv => whnf))
 | ((first | refine retM1 ?_ | refine retM2 ?_ | refine subF.leaf ?_ | refine subF.side ?_) <;> (conv => whnf) <;> repeat' (first
 | exact trivial
 | (with_reducible rfl)
 | ((with_reducible refine And.intro ?_ ?_) <;> conv => whnf)
 | omega
 | rfl
 | (refine congrArg (SV.arr _) ?_)
 | (refine congrArg (Value.int _) ?_)
 | (refine congrArg Value.bool ?_)))); all_goals (try unfold Side)
    all_goals try (repeat' (first | (with_reducible rfl) | (with_reducible refine And.intro ?_ ?_) | omega | rfl | exact Or.inl rfl | exact Or.inr rfl | exact of_decide_eq_true rfl | exact Path.imp_of (of_decide_eq_true rfl) | (focus ((try simp only [Int.reduceToNat, Int.reduceTDiv, Int.reduceTMod, minL, maxL, pickB, zHB, zSH, InK, Path.imp, List.length_replicate, List.length_set, List.length_append, List.length_cons, List.length_nil] at *); omega)) | (refine app_le rfl ?_; omega)))
    all_goals try refine subF.ok ?_ <;> (conv => whnf) <;> repeat' (first
 | exact trivial
 | (with_reducible rfl)
 | ((with_reducible refine And.intro ?_ ?_) <;> conv => whnf)
 | omega
 | rfl
 | (refine congrArg (SV.arr _) ?_)
 | (refine congrArg (Value.int _) ?_)
 | (refine congrArg Value.bool ?_))
    all_goals (rw [decide_eq_true hc.1.1, decide_eq_true hc.1.2.1, decide_eq_true hc.1.2.2, decide_eq_true hc.2.1, decide_eq_true (show (pf.getD num N0).2.2.1 ≤ 23 by omega), decide_eq_true (show (pf.getD num N0).2.2.1 + 1 ≤ (pf.getD num N0).2.2.2.1 by omega), decide_eq_true hc.2.2.2]; rfl)
  · have hf : crowdB P l (pf.getD num N0) = false := by
      rw [hbB, Bool.eq_false_iff]
      intro h
      simp only [Bool.and_eq_true, decide_eq_true_eq] at h
      exact hc ⟨h.1, h.2.1⟩
    rw [hf]
    refine FnM.of_body tys_ok Try.func42 (by rfl) rfl Try.ntmps42 (by rw [Try.results42]) (by simp) ?_
  
    repeat' (first
 | refine W.seq ?_
 | refine W.block ?_
 | (refine W.resub (x := Code.region 7 _ _) (Γ' := ⟨[(1, .st false (.arr NT pf)), (2, .lit (.int .i64 (num))), (3, .own 1000000000), (4, .st false (.sadr (.agg [I64 P, .arr JT l, .arr OT os]))), (9, .st true (.sadr (.agg [I64 (pf.getD num N0).1, I64 (pf.getD num N0).2.1, I64 (pf.getD num N0).2.2.1, I64 (pf.getD num N0).2.2.2.1, I64 (pf.getD num N0).2.2.2.2.1, I64 (pf.getD num N0).2.2.2.2.2.1]))), (28, .lit (.int .i64 ((pf.getD num N0).1)))], [(1000000000, .row 4 .bool true (sn.set num true))]⟩) ?_ (W.drawPh (id := 7) tys_ok [] mixed [0, 1, 2, 4, 8, 24, 40, 72, 136, 256, 768, 1280, 2304, 4352, 8192, 24576, 40960, 73728, 196608, 262144, 786432, 262144, 2359296, 4456448, 9699328, 17039360, 50331648, 67108864, 67108864, 335544320, 67108864, 1140850688, 2885681152, 67108864, 8657043456, 67108864, 34426847232, 67108864, 137506062336, 343664492544, 567002791936, 1103873703936, 2199090364416, 8796093022207] [([0, 1, 2, 3, 4, 5, 6, 7, 8, 9, 10, 11, 12, 13, 14, 15], 1, 131071), ([17, 18, 19, 20, 21, 22, 23], 1, 33554431), ([25, 26, 27, 28, 29, 30, 31, 33, 34, 35, 36, 37, 38, 39, 40], 1, 2199023255551), ([41, 42, 43], 0, 17592186044415)] (by decide +kernel) ?_); rotate_left; (conv => whnf))
 | (refine W.region tys_ok [] ?_; conv => whnf)
 | (refine W.drawAll tys_ok [] mixed rfl ?_; conv => whnf)
 | (refine W.ret ?_; conv => whnf)
 | (refine W.skip ?_; conv => whnf)
 | (refine W.exit ?_; conv => whnf)
 | (refine call_at (al := false) (in_at _ _ _) rfl rfl rfl rfl ?_; conv => whnf)
 | (refine ⟨false, _, _, _, _, rfl, fun h => (show FnAt Try.prog false 33 [.agg [I64 P, .arr JT l, .arr OT os], I64 (pf.getD num N0).2.2.1, I64 (pf.getD num N0).2.2.2.1] (.lit (.int .i64 0)) [] from (by exfalso; simp only [Int.reduceToNat, Int.reduceTDiv, Int.reduceTMod, minL, maxL, pickB, zHB, zSH] at h; omega)), rfl, rfl, rfl, ?_⟩; conv => whnf)
 | (refine Both.mk ?_ ?_ <;> (conv => whnf))
 | (refine W.cond rfl (fun hb => ?_) (fun hb => ?_) <;> (try simp only [Int.reduceToNat, Int.reduceTDiv, Int.reduceTMod, minL, maxL, pickB, zHB, zSH] at hb) <;> (try (first | (cases hb; done) | exact absurd hb (by decide) | (exfalso; omega) | (first | exact Bool.noConfusion (hb.symm.trans hs) | omega))))
 | ((with_reducible refine And.intro ?_ ?_); (focus ((repeat' (first | (with_reducible rfl) | (with_reducible refine And.intro ?_ ?_) | omega | rfl | exact Or.inl rfl | exact Or.inr rfl | exact of_decide_eq_true rfl | exact Path.imp_of (of_decide_eq_true rfl) | (focus ((try simp only [Int.reduceToNat, Int.reduceTDiv, Int.reduceTMod, minL, maxL, pickB, zHB, zSH, InK, Path.imp, List.length_replicate, List.length_set, List.length_append, List.length_cons, List.length_nil] at *); omega)) | (refine app_le rfl ?_; omega))); done)); (conv => whnf))
 | ((with_reducible refine And.intro (Side.out ?_) ?_); rotate_left; (conv => whnf))
 | ((first | refine retM1 ?_ | refine retM2 ?_ | refine subF.leaf ?_ | refine subF.side ?_) <;> (conv => whnf) <;> repeat' (first
 | exact trivial
 | (with_reducible rfl)
 | ((with_reducible refine And.intro ?_ ?_) <;> conv => whnf)
 | omega
 | rfl
 | (refine congrArg (SV.arr _) ?_)
 | (refine congrArg (Value.int _) ?_)
 | (refine congrArg Value.bool ?_)))); all_goals (try unfold Side)
    all_goals try (repeat' (first | (with_reducible rfl) | (with_reducible refine And.intro ?_ ?_) | omega | rfl | exact Or.inl rfl | exact Or.inr rfl | exact of_decide_eq_true rfl | exact Path.imp_of (of_decide_eq_true rfl) | (focus ((try simp only [Int.reduceToNat, Int.reduceTDiv, Int.reduceTMod, minL, maxL, pickB, zHB, zSH, InK, Path.imp, List.length_replicate, List.length_set, List.length_append, List.length_cons, List.length_nil] at *); omega)) | (refine app_le rfl ?_; omega)))
    all_goals try refine subF.ok ?_ <;> (conv => whnf) <;> repeat' (first
 | exact trivial
 | (with_reducible rfl)
 | ((with_reducible refine And.intro ?_ ?_) <;> conv => whnf)
 | omega
 | rfl
 | (refine congrArg (SV.arr _) ?_)
 | (refine congrArg (Value.int _) ?_)
 | (refine congrArg Value.bool ?_))
set_option maxHeartbeats 8000000 in
theorem rproves3_at {P : Int} {os : List Od} {pf : List Nd} (hP : 0 ≤ P ∧ P ≤ 100) (hpf : pf.length ≤ 100000) {k num : Nat} {l : List Jb} {sn : List Bool} (hnum : num < pf.length) (hsn : sn.length = pf.length) (hbd : Bd l) (ho : Ords os l.length) (hs : sn.getD num false = false) (h3 : (pf.getD num N0).1 = 3) :
    FnM Try.prog 42 [.st false (.agg [I64 P, .arr JT l, .arr OT os]), .st false (.arr NT pf), .lit (.int .i64 num), .own 1000000000] [(1000000000, .row 4 .bool true sn)] (.lit (.bool (pvT P os pf (k + 1) num l sn).1)) [(1000000000, .row 4 .bool true (pvT P os pf (k + 1) num l sn).2)] := by
  have hll : @List.length JT.T l = l.length := rfl
  have hlp : @List.length NT.T pf = pf.length := rfl
  have hlo : @List.length OT.T os = os.length := rfl
  have hls : @List.length Ty.bool.T sn = pf.length := hsn
  have hol := ho.1
  have hjl := hbd.len
  rw [pv_behind hs h3]
  have hbB : behindB l os (pf.getD num N0) = (decide ((pf.getD num N0).2.2.1 = 0 ∧ (pf.getD num N0).2.2.2.1 = 0 ∧ (pf.getD num N0).2.2.2.2.1 = 0 ∧ (pf.getD num N0).2.2.2.2.2.1 = 0) && (decide (0 ≤ (pf.getD num N0).2.1 ∧ (pf.getD num N0).2.1 < os.length) && lateT l (os.getD (pf.getD num N0).2.1.toNat O0))) := rfl
  by_cases hc : ((pf.getD num N0).2.2.1 = 0 ∧ (pf.getD num N0).2.2.2.1 = 0 ∧ (pf.getD num N0).2.2.2.2.1 = 0 ∧ (pf.getD num N0).2.2.2.2.2.1 = 0) ∧ 0 ≤ (pf.getD num N0).2.1 ∧ (pf.getD num N0).2.1 < os.length
  · have hoj := ho.2 (pf.getD num N0).2.1.toNat (by omega)
    have h1 := hbd.rg (os.getD (pf.getD num N0).2.1.toNat O0).1.toNat (by omega)
    have h2 := hbd.rg (os.getD (pf.getD num N0).2.1.toNat O0).2.1.toNat (by omega)
    unfold jf jt jl jp at h1 h2
    rw [hbB, decide_eq_true hc.1, decide_eq_true hc.2]
    refine FnM.of_body tys_ok Try.func42 (by rfl) rfl Try.ntmps42 (by rw [Try.results42]) (by simp) ?_
  
    repeat' (first
 | refine W.seq ?_
 | refine W.block ?_
 | (refine W.resub (x := Code.region 9 _ _) (Γ' := ⟨[(1, .st false (.arr NT pf)), (2, .lit (.int .i64 (num))), (3, .own 1000000000), (4, .st false (.sadr (.agg [I64 P, .arr JT l, .arr OT os]))), (9, .st true (.sadr (.agg [I64 (pf.getD num N0).1, I64 (pf.getD num N0).2.1, I64 (pf.getD num N0).2.2.1, I64 (pf.getD num N0).2.2.2.1, I64 (pf.getD num N0).2.2.2.2.1, I64 (pf.getD num N0).2.2.2.2.2.1]))), (28, .lit (.int .i64 ((pf.getD num N0).1)))], [(1000000000, .row 4 .bool true (sn.set num true))]⟩) ?_ (W.drawPh (id := 9) tys_ok [] mixed [0, 1, 2, 4, 8, 24, 40, 72, 136, 256, 768, 1280, 2304, 4352, 8192, 24576, 40960, 73728, 139264, 262144, 786432, 262144, 2359296, 4456448, 8650752, 18087936, 33816576, 67371008] [([0, 1, 2, 3, 4, 5, 6, 7, 8, 9, 10, 11, 12, 13, 14, 15, 16, 17, 18, 19, 20, 21, 22, 23, 24], 1, 67108863), ([26, 27], 0, 268435455)] (by decide +kernel) ?_); rotate_left; (conv => whnf))
 | (refine W.resub (x := Code.region 12 _ _) (Γ' := ⟨[(1, .st false (.arr NT pf)), (2, .lit (.int .i64 (num))), (3, .own 1000000000), (4, .st false (.sadr (.agg [I64 P, .arr JT l, .arr OT os]))), (9, .st true (.sadr (.agg [I64 (pf.getD num N0).1, I64 (pf.getD num N0).2.1, I64 (pf.getD num N0).2.2.1, I64 (pf.getD num N0).2.2.2.1, I64 (pf.getD num N0).2.2.2.2.1, I64 (pf.getD num N0).2.2.2.2.2.1]))), (28, .lit (.int .i64 ((pf.getD num N0).1))), (10, .st true (.sadr (.agg [I64 (os.getD (pf.getD num N0).2.1.toNat O0).1, I64 (os.getD (pf.getD num N0).2.1.toNat O0).2.1])))], [(1000000000, .row 4 .bool true (sn.set num true))]⟩) ?_ (W.drawPh (id := 12) tys_ok [] mixed [0, 1, 0, 4, 10, 16, 0, 64, 0, 256, 640, 1024, 0, 0, 12351, 32767] [([0, 1, 2, 3, 4, 5, 6, 7, 8, 9, 10, 11], 2, 16383), ([], 1, 32767), ([], 1, 65535)] (by decide +kernel) ?_); rotate_left; (conv => whnf))
 | (refine W.region tys_ok [] ?_; conv => whnf)
 | (refine W.drawAll tys_ok [] mixed rfl ?_; conv => whnf)
 | (refine W.ret ?_; conv => whnf)
 | (refine W.skip ?_; conv => whnf)
 | (refine W.exit ?_; conv => whnf)
 | (refine call_at (al := false) (in_at _ _ _) rfl rfl rfl rfl ?_; conv => whnf)
 | (refine Both.mk ?_ ?_ <;> (conv => whnf))
 | (refine W.cond rfl (fun hb => ?_) (fun hb => ?_) <;> (try simp only [Int.reduceToNat, Int.reduceTDiv, Int.reduceTMod, minL, maxL, pickB, zHB, zSH] at hb) <;> (try (first | (cases hb; done) | exact absurd hb (by decide) | (exfalso; omega) | (first | exact Bool.noConfusion (hb.symm.trans hs) | omega))))
 | ((with_reducible refine And.intro ?_ ?_); (focus ((repeat' (first | (with_reducible rfl) | (with_reducible refine And.intro ?_ ?_) | omega | rfl | exact Or.inl rfl | exact Or.inr rfl | exact of_decide_eq_true rfl | exact Path.imp_of (of_decide_eq_true rfl) | (focus ((try simp only [Int.reduceToNat, Int.reduceTDiv, Int.reduceTMod, minL, maxL, pickB, zHB, zSH, InK, Path.imp, List.length_replicate, List.length_set, List.length_append, List.length_cons, List.length_nil] at *); omega)) | (refine app_le rfl ?_; omega))); done)); (conv => whnf))
 | ((with_reducible refine And.intro (Side.out ?_) ?_); rotate_left; (conv => whnf))
 | ((first | refine retM1 ?_ | refine retM2 ?_ | refine subF.leaf ?_ | refine subF.side ?_) <;> (conv => whnf) <;> repeat' (first
 | exact trivial
 | (with_reducible rfl)
 | ((with_reducible refine And.intro ?_ ?_) <;> conv => whnf)
 | omega
 | rfl
 | (refine congrArg (SV.arr _) ?_)
 | (refine congrArg (Value.int _) ?_)
 | (refine congrArg Value.bool ?_)))); all_goals (try unfold Side)
    all_goals try (repeat' (first | (with_reducible rfl) | (with_reducible refine And.intro ?_ ?_) | omega | rfl | exact Or.inl rfl | exact Or.inr rfl | exact of_decide_eq_true rfl | exact Path.imp_of (of_decide_eq_true rfl) | (focus ((try simp only [Int.reduceToNat, Int.reduceTDiv, Int.reduceTMod, minL, maxL, pickB, zHB, zSH, InK, Path.imp, List.length_replicate, List.length_set, List.length_append, List.length_cons, List.length_nil] at *); omega)) | (refine app_le rfl ?_; omega)))
    all_goals try refine subF.ok ?_ <;> (conv => whnf) <;> repeat' (first
 | exact trivial
 | (with_reducible rfl)
 | ((with_reducible refine And.intro ?_ ?_) <;> conv => whnf)
 | omega
 | rfl
 | (refine congrArg (SV.arr _) ?_)
 | (refine congrArg (Value.int _) ?_)
 | (refine congrArg Value.bool ?_))
  · have hf : behindB l os (pf.getD num N0) = false := by
      rw [hbB, Bool.eq_false_iff]
      intro h
      simp only [Bool.and_eq_true, decide_eq_true_eq] at h
      exact hc ⟨h.1, h.2.1⟩
    rw [hf]
    refine FnM.of_body tys_ok Try.func42 (by rfl) rfl Try.ntmps42 (by rw [Try.results42]) (by simp) ?_
  
    repeat' (first
 | refine W.seq ?_
 | refine W.block ?_
 | (refine W.resub (x := Code.region 9 _ _) (Γ' := ⟨[(1, .st false (.arr NT pf)), (2, .lit (.int .i64 (num))), (3, .own 1000000000), (4, .st false (.sadr (.agg [I64 P, .arr JT l, .arr OT os]))), (9, .st true (.sadr (.agg [I64 (pf.getD num N0).1, I64 (pf.getD num N0).2.1, I64 (pf.getD num N0).2.2.1, I64 (pf.getD num N0).2.2.2.1, I64 (pf.getD num N0).2.2.2.2.1, I64 (pf.getD num N0).2.2.2.2.2.1]))), (28, .lit (.int .i64 ((pf.getD num N0).1)))], [(1000000000, .row 4 .bool true (sn.set num true))]⟩) ?_ (W.drawPh (id := 9) tys_ok [] mixed [0, 1, 2, 4, 8, 24, 40, 72, 136, 256, 768, 1280, 2304, 4352, 8192, 24576, 40960, 73728, 139264, 262144, 786432, 262144, 2359296, 4456448, 8650752, 18087936, 33816576, 67371008] [([0, 1, 2, 3, 4, 5, 6, 7, 8, 9, 10, 11, 12, 13, 14, 15, 16, 17, 18, 19, 20, 21, 22, 23, 24], 1, 67108863), ([26, 27], 0, 268435455)] (by decide +kernel) ?_); rotate_left; (conv => whnf))
 | (refine W.region tys_ok [] ?_; conv => whnf)
 | (refine W.drawAll tys_ok [] mixed rfl ?_; conv => whnf)
 | (refine W.ret ?_; conv => whnf)
 | (refine W.skip ?_; conv => whnf)
 | (refine W.exit ?_; conv => whnf)
 | (refine call_at (al := false) (in_at _ _ _) rfl rfl rfl rfl ?_; conv => whnf)
 | (refine Both.mk ?_ ?_ <;> (conv => whnf))
 | (refine W.cond rfl (fun hb => ?_) (fun hb => ?_) <;> (try simp only [Int.reduceToNat, Int.reduceTDiv, Int.reduceTMod, minL, maxL, pickB, zHB, zSH] at hb) <;> (try (first | (cases hb; done) | exact absurd hb (by decide) | (exfalso; omega) | (first | exact Bool.noConfusion (hb.symm.trans hs) | omega))))
 | ((with_reducible refine And.intro ?_ ?_); (focus ((repeat' (first | (with_reducible rfl) | (with_reducible refine And.intro ?_ ?_) | omega | rfl | exact Or.inl rfl | exact Or.inr rfl | exact of_decide_eq_true rfl | exact Path.imp_of (of_decide_eq_true rfl) | (focus ((try simp only [Int.reduceToNat, Int.reduceTDiv, Int.reduceTMod, minL, maxL, pickB, zHB, zSH, InK, Path.imp, List.length_replicate, List.length_set, List.length_append, List.length_cons, List.length_nil] at *); omega)) | (refine app_le rfl ?_; omega))); done)); (conv => whnf))
 | ((with_reducible refine And.intro (Side.out ?_) ?_); rotate_left; (conv => whnf))
 | ((first | refine retM1 ?_ | refine retM2 ?_ | refine subF.leaf ?_ | refine subF.side ?_) <;> (conv => whnf) <;> repeat' (first
 | exact trivial
 | (with_reducible rfl)
 | ((with_reducible refine And.intro ?_ ?_) <;> conv => whnf)
 | omega
 | rfl
 | (refine congrArg (SV.arr _) ?_)
 | (refine congrArg (Value.int _) ?_)
 | (refine congrArg Value.bool ?_)))); all_goals (try unfold Side)
    all_goals try (repeat' (first | (with_reducible rfl) | (with_reducible refine And.intro ?_ ?_) | omega | rfl | exact Or.inl rfl | exact Or.inr rfl | exact of_decide_eq_true rfl | exact Path.imp_of (of_decide_eq_true rfl) | (focus ((try simp only [Int.reduceToNat, Int.reduceTDiv, Int.reduceTMod, minL, maxL, pickB, zHB, zSH, InK, Path.imp, List.length_replicate, List.length_set, List.length_append, List.length_cons, List.length_nil] at *); omega)) | (refine app_le rfl ?_; omega)))
    all_goals try refine subF.ok ?_ <;> (conv => whnf) <;> repeat' (first
 | exact trivial
 | (with_reducible rfl)
 | ((with_reducible refine And.intro ?_ ?_) <;> conv => whnf)
 | omega
 | rfl
 | (refine congrArg (SV.arr _) ?_)
 | (refine congrArg (Value.int _) ?_)
 | (refine congrArg Value.bool ?_))
set_option maxHeartbeats 8000000 in
theorem rprovesN_at {P : Int} {os : List Od} {pf : List Nd} (hP : 0 ≤ P ∧ P ≤ 100) (hpf : pf.length ≤ 100000) {k num : Nat} {l : List Jb} {sn : List Bool} (hnum : num < pf.length) (hsn : sn.length = pf.length) (hbd : Bd l) (ho : Ords os l.length) (hs : sn.getD num false = false) (h1 : (pf.getD num N0).1 = 1) (hc : ¬ ((pf.getD num N0).2.2.2.1 = 0 ∧ (0 ≤ (pf.getD num N0).2.1 ∧ (pf.getD num N0).2.1 < l.length) ∧ (jf l (pf.getD num N0).2.1.toNat ≤ (pf.getD num N0).2.2.1 ∧ (pf.getD num N0).2.2.1 < jt l (pf.getD num N0).2.1.toNat - jl l (pf.getD num N0).2.1.toNat) ∧ (((num : Int) < (pf.getD num N0).2.2.2.2.1 ∧ (num : Int) < (pf.getD num N0).2.2.2.2.2.1) ∧ (pf.getD num N0).2.2.2.2.1 < pf.length ∧ (pf.getD num N0).2.2.2.2.2.1 < pf.length))) :
    FnM Try.prog 42 [.st false (.agg [I64 P, .arr JT l, .arr OT os]), .st false (.arr NT pf), .lit (.int .i64 num), .own 1000000000] [(1000000000, .row 4 .bool true sn)] (.lit (.bool (pvT P os pf (k + 1) num l sn).1)) [(1000000000, .row 4 .bool true (pvT P os pf (k + 1) num l sn).2)] := by
  have hll : @List.length JT.T l = l.length := rfl
  have hlp : @List.length NT.T pf = pf.length := rfl
  have hlo : @List.length OT.T os = os.length := rfl
  have hls : @List.length Ty.bool.T sn = pf.length := hsn
  have hol := ho.1
  have hjl := hbd.len
  rw [pv_nosplit hs h1 (by rw [Bool.eq_false_iff]; intro h; exact hc (split_iff.1 h))]
  have hrj := fun h => hbd.rg (pf.getD num N0).2.1.toNat h
  by_cases hq : 0 ≤ (pf.getD num N0).2.1 ∧ (pf.getD num N0).2.1 < l.length
  · have hrj := hrj (by omega)
    unfold jf jt jl jp at hrj
    unfold jf jt jl at hc
    refine FnM.of_body tys_ok Try.func42 (by rfl) rfl Try.ntmps42 (by rw [Try.results42]) (by simp) ?_
  
    repeat' (first
 | refine W.seq ?_
 | refine W.block ?_
 | (refine W.resub (x := Code.region 15 _ _) (Γ' := ⟨[(1, .st false (.arr NT pf)), (2, .lit (.int .i64 (num))), (3, .own 1000000000), (4, .st false (.sadr (.agg [I64 P, .arr JT l, .arr OT os]))), (9, .st true (.sadr (.agg [I64 (pf.getD num N0).1, I64 (pf.getD num N0).2.1, I64 (pf.getD num N0).2.2.1, I64 (pf.getD num N0).2.2.2.1, I64 (pf.getD num N0).2.2.2.2.1, I64 (pf.getD num N0).2.2.2.2.2.1]))), (28, .lit (.int .i64 ((pf.getD num N0).1)))], [(1000000000, .row 4 .bool true (sn.set num true))]⟩) ?_ (W.drawPh (id := 15) tys_ok [] mixed [0, 1, 2, 4, 8, 24, 8, 72, 136, 264, 552, 1032, 2056, 5120, 8192, 24576, 8192, 73728, 8192, 270336, 532480, 1220608, 2105344, 4202496, 10485760, 16777216, 50331648, 16777216, 150994944, 16777216, 553648128, 1090519040, 2499805184, 4311744512, 8606711808] [([0, 1, 2, 3, 4, 5, 6, 7, 8, 9], 1, 2047), ([11, 12, 13, 14, 15, 16, 17, 18, 19, 20], 1, 4194303), ([22, 23, 24, 25, 26, 27, 28, 29, 30, 31], 1, 8589934591), ([33, 34], 0, 34359738367)] (by decide +kernel) ?_); rotate_left; (conv => whnf))
 | (refine W.resub (x := Code.region 18 _ _) (Γ' := ⟨[(1, .st false (.arr NT pf)), (2, .lit (.int .i64 (num))), (3, .own 1000000000), (4, .st false (.sadr (.agg [I64 P, .arr JT l, .arr OT os]))), (9, .st true (.sadr (.agg [I64 (pf.getD num N0).1, I64 (pf.getD num N0).2.1, I64 (pf.getD num N0).2.2.1, I64 (pf.getD num N0).2.2.2.1, I64 (pf.getD num N0).2.2.2.2.1, I64 (pf.getD num N0).2.2.2.2.2.1]))), (28, .lit (.int .i64 ((pf.getD num N0).1))), (13, .st true (.sadr (.agg [I64 (l.getD (pf.getD num N0).2.1.toNat J0).1, I64 (l.getD (pf.getD num N0).2.1.toNat J0).2.1, I64 (l.getD (pf.getD num N0).2.1.toNat J0).2.2.1, I64 (l.getD (pf.getD num N0).2.1.toNat J0).2.2.2.1])))], [(1000000000, .row 4 .bool true (sn.set num true))]⟩) ?_ (W.drawPh (id := 18) tys_ok [] mixed [0, 1, 0, 4, 10, 16, 32, 96, 32, 288, 32, 1056, 2592, 4256, 8224] [([0, 1, 2, 3, 4, 5, 6, 7, 8, 9, 10, 11, 12, 13, 14], 0, 32767)] (by decide +kernel) ?_); rotate_left; (conv => whnf))
 | (refine W.region tys_ok [] ?_; conv => whnf)
 | (refine W.drawAll tys_ok [] mixed rfl ?_; conv => whnf)
 | (refine W.ret ?_; conv => whnf)
 | (refine W.skip ?_; conv => whnf)
 | (refine W.exit ?_; conv => whnf)
 | (refine call_at (al := false) (in_at _ _ _) rfl rfl rfl rfl ?_; conv => whnf)
 | (refine Both.mk ?_ ?_ <;> (conv => whnf))
 | (refine W.cond rfl (fun hb => ?_) (fun hb => ?_) <;> (try simp only [Int.reduceToNat, Int.reduceTDiv, Int.reduceTMod, minL, maxL, pickB, zHB, zSH] at hb) <;> (try (first | (cases hb; done) | exact absurd hb (by decide) | (exfalso; omega) | (first | exact Bool.noConfusion (hb.symm.trans hs) | omega))))
 | ((with_reducible refine And.intro ?_ ?_); (focus ((repeat' (first | (with_reducible rfl) | (with_reducible refine And.intro ?_ ?_) | omega | rfl | exact Or.inl rfl | exact Or.inr rfl | exact of_decide_eq_true rfl | exact Path.imp_of (of_decide_eq_true rfl) | (focus ((try simp only [Int.reduceToNat, Int.reduceTDiv, Int.reduceTMod, minL, maxL, pickB, zHB, zSH, InK, Path.imp, List.length_replicate, List.length_set, List.length_append, List.length_cons, List.length_nil] at *); omega)) | (refine app_le rfl ?_; omega))); done)); (conv => whnf))
 | ((with_reducible refine And.intro (Side.out ?_) ?_); rotate_left; (conv => whnf))
 | ((first | refine retM1 ?_ | refine retM2 ?_ | refine subF.leaf ?_ | refine subF.side ?_) <;> (conv => whnf) <;> repeat' (first
 | exact trivial
 | (with_reducible rfl)
 | ((with_reducible refine And.intro ?_ ?_) <;> conv => whnf)
 | omega
 | rfl
 | (refine congrArg (SV.arr _) ?_)
 | (refine congrArg (Value.int _) ?_)
 | (refine congrArg Value.bool ?_)))); all_goals (try unfold Side)
    all_goals try (repeat' (first | (with_reducible rfl) | (with_reducible refine And.intro ?_ ?_) | omega | rfl | exact Or.inl rfl | exact Or.inr rfl | exact of_decide_eq_true rfl | exact Path.imp_of (of_decide_eq_true rfl) | (focus ((try simp only [Int.reduceToNat, Int.reduceTDiv, Int.reduceTMod, minL, maxL, pickB, zHB, zSH, InK, Path.imp, List.length_replicate, List.length_set, List.length_append, List.length_cons, List.length_nil] at *); omega)) | (refine app_le rfl ?_; omega)))
    all_goals try refine subF.ok ?_ <;> (conv => whnf) <;> repeat' (first
 | exact trivial
 | (with_reducible rfl)
 | ((with_reducible refine And.intro ?_ ?_) <;> conv => whnf)
 | omega
 | rfl
 | (refine congrArg (SV.arr _) ?_)
 | (refine congrArg (Value.int _) ?_)
 | (refine congrArg Value.bool ?_))
  · refine FnM.of_body tys_ok Try.func42 (by rfl) rfl Try.ntmps42 (by rw [Try.results42]) (by simp) ?_
  
    repeat' (first
 | refine W.seq ?_
 | refine W.block ?_
 | (refine W.resub (x := Code.region 15 _ _) (Γ' := ⟨[(1, .st false (.arr NT pf)), (2, .lit (.int .i64 (num))), (3, .own 1000000000), (4, .st false (.sadr (.agg [I64 P, .arr JT l, .arr OT os]))), (9, .st true (.sadr (.agg [I64 (pf.getD num N0).1, I64 (pf.getD num N0).2.1, I64 (pf.getD num N0).2.2.1, I64 (pf.getD num N0).2.2.2.1, I64 (pf.getD num N0).2.2.2.2.1, I64 (pf.getD num N0).2.2.2.2.2.1]))), (28, .lit (.int .i64 ((pf.getD num N0).1)))], [(1000000000, .row 4 .bool true (sn.set num true))]⟩) ?_ (W.drawPh (id := 15) tys_ok [] mixed [0, 1, 2, 4, 8, 24, 8, 72, 136, 264, 552, 1032, 2056, 5120, 8192, 24576, 8192, 73728, 8192, 270336, 532480, 1220608, 2105344, 4202496, 10485760, 16777216, 50331648, 16777216, 150994944, 16777216, 553648128, 1090519040, 2499805184, 4311744512, 8606711808] [([0, 1, 2, 3, 4, 5, 6, 7, 8, 9], 1, 2047), ([11, 12, 13, 14, 15, 16, 17, 18, 19, 20], 1, 4194303), ([22, 23, 24, 25, 26, 27, 28, 29, 30, 31], 1, 8589934591), ([33, 34], 0, 34359738367)] (by decide +kernel) ?_); rotate_left; (conv => whnf))
 | (refine W.region tys_ok [] ?_; conv => whnf)
 | (refine W.drawAll tys_ok [] mixed rfl ?_; conv => whnf)
 | (refine W.ret ?_; conv => whnf)
 | (refine W.skip ?_; conv => whnf)
 | (refine W.exit ?_; conv => whnf)
 | (refine call_at (al := false) (in_at _ _ _) rfl rfl rfl rfl ?_; conv => whnf)
 | (refine Both.mk ?_ ?_ <;> (conv => whnf))
 | (refine W.cond rfl (fun hb => ?_) (fun hb => ?_) <;> (try simp only [Int.reduceToNat, Int.reduceTDiv, Int.reduceTMod, minL, maxL, pickB, zHB, zSH] at hb) <;> (try (first | (cases hb; done) | exact absurd hb (by decide) | (exfalso; omega) | (first | exact Bool.noConfusion (hb.symm.trans hs) | omega))))
 | ((with_reducible refine And.intro ?_ ?_); (focus ((repeat' (first | (with_reducible rfl) | (with_reducible refine And.intro ?_ ?_) | omega | rfl | exact Or.inl rfl | exact Or.inr rfl | exact of_decide_eq_true rfl | exact Path.imp_of (of_decide_eq_true rfl) | (focus ((try simp only [Int.reduceToNat, Int.reduceTDiv, Int.reduceTMod, minL, maxL, pickB, zHB, zSH, InK, Path.imp, List.length_replicate, List.length_set, List.length_append, List.length_cons, List.length_nil] at *); omega)) | (refine app_le rfl ?_; omega))); done)); (conv => whnf))
 | ((with_reducible refine And.intro (Side.out ?_) ?_); rotate_left; (conv => whnf))
 | ((first | refine retM1 ?_ | refine retM2 ?_ | refine subF.leaf ?_ | refine subF.side ?_) <;> (conv => whnf) <;> repeat' (first
 | exact trivial
 | (with_reducible rfl)
 | ((with_reducible refine And.intro ?_ ?_) <;> conv => whnf)
 | omega
 | rfl
 | (refine congrArg (SV.arr _) ?_)
 | (refine congrArg (Value.int _) ?_)
 | (refine congrArg Value.bool ?_)))); all_goals (try unfold Side)
    all_goals try (repeat' (first | (with_reducible rfl) | (with_reducible refine And.intro ?_ ?_) | omega | rfl | exact Or.inl rfl | exact Or.inr rfl | exact of_decide_eq_true rfl | exact Path.imp_of (of_decide_eq_true rfl) | (focus ((try simp only [Int.reduceToNat, Int.reduceTDiv, Int.reduceTMod, minL, maxL, pickB, zHB, zSH, InK, Path.imp, List.length_replicate, List.length_set, List.length_append, List.length_cons, List.length_nil] at *); omega)) | (refine app_le rfl ?_; omega)))
    all_goals try refine subF.ok ?_ <;> (conv => whnf) <;> repeat' (first
 | exact trivial
 | (with_reducible rfl)
 | ((with_reducible refine And.intro ?_ ?_) <;> conv => whnf)
 | omega
 | rfl
 | (refine congrArg (SV.arr _) ?_)
 | (refine congrArg (Value.int _) ?_)
 | (refine congrArg Value.bool ?_))
end Go.Proofs.Ytmfholchenihaaa
namespace Go.Proofs.Ytmfholchenihaaa
open Go Go.Vc Go.Sh
set_option linter.unusedVariables false
set_option linter.unusedSimpArgs false
set_option maxHeartbeats 8000000 in
theorem rprovesMF_at {P : Int} {os : List Od} {pf : List Nd} (hP : 0 ≤ P ∧ P ≤ 100) (hpf : pf.length ≤ 100000) {k num : Nat} {l : List Jb} {sn : List Bool} (hnum : num < pf.length) (hsn : sn.length = pf.length) (hbd : Bd l) (ho : Ords os l.length) (hs : sn.getD num false = false) (h1 : (pf.getD num N0).1 = 1) (hc : ((pf.getD num N0).2.2.2.1 = 0 ∧ (0 ≤ (pf.getD num N0).2.1 ∧ (pf.getD num N0).2.1 < l.length) ∧ (jf l (pf.getD num N0).2.1.toNat ≤ (pf.getD num N0).2.2.1 ∧ (pf.getD num N0).2.2.1 < jt l (pf.getD num N0).2.1.toNat - jl l (pf.getD num N0).2.1.toNat) ∧ (((num : Int) < (pf.getD num N0).2.2.2.2.1 ∧ (num : Int) < (pf.getD num N0).2.2.2.2.2.1) ∧ (pf.getD num N0).2.2.2.2.1 < pf.length ∧ (pf.getD num N0).2.2.2.2.2.1 < pf.length))) {L R : List Jb} (hL : L = partL l (pf.getD num N0).2.1.toNat (pf.getD num N0).2.2.1) (hR : R = partR l (pf.getD num N0).2.1.toNat (pf.getD num N0).2.2.1) {S1 S2 : List Bool} {B2 : Bool} (hl1 : S1.length = pf.length)
    (c1 : FnM Try.prog 42 [.st false (.agg [I64 P, .arr JT L, .arr OT os]), .st false (.arr NT pf), .lit (.int .i64 (pf.getD num N0).2.2.2.2.1), .own 1000000000] [(1000000000, .row 4 .bool true (sn.set num true))] (.lit (.bool false)) [(1000000000, .row 4 .bool true S1)]) :
    FnM Try.prog 42 [.st false (.agg [I64 P, .arr JT l, .arr OT os]), .st false (.arr NT pf), .lit (.int .i64 num), .own 1000000000] [(1000000000, .row 4 .bool true sn)] (.lit (.bool false)) [(1000000000, .row 4 .bool true S1)] := by
  have hll : @List.length JT.T l = l.length := rfl
  have hlp : @List.length NT.T pf = pf.length := rfl
  have hlo : @List.length OT.T os = os.length := rfl
  have hls : @List.length Ty.bool.T sn = pf.length := hsn
  have hol := ho.1
  have hjl := hbd.len
  have hrj := hbd.rg (pf.getD num N0).2.1.toNat (by omega)
  have hjn : (pf.getD num N0).2.1.toNat < l.length := by omega
  have hc' := hc
  unfold jf jt jl jp at hrj
  unfold jf jt jl at hc'
  have eL : l.set (pf.getD num N0).2.1.toNat ((l.getD (pf.getD num N0).2.1.toNat J0).1, (pf.getD num N0).2.2.1 + (l.getD (pf.getD num N0).2.1.toNat J0).2.2.1, (l.getD (pf.getD num N0).2.1.toNat J0).2.2) = L := by rw [hL]; rfl
  have eR : l.set (pf.getD num N0).2.1.toNat ((pf.getD num N0).2.2.1 + 1, (l.getD (pf.getD num N0).2.1.toNat J0).2) = R := by rw [hR]; rfl
  refine FnM.of_body tys_ok Try.func42 (by rfl) rfl Try.ntmps42 (by rw [Try.results42]) (by simp) ?_
  
  repeat' (first
 | refine W.seq ?_
 | refine W.block ?_
 | (refine W.resub (x := Code.region 15 _ _) (Γ' := ⟨[(1, .st false (.arr NT pf)), (2, .lit (.int .i64 (num))), (3, .own 1000000000), (4, .st false (.sadr (.agg [I64 P, .arr JT l, .arr OT os]))), (9, .st true (.sadr (.agg [I64 (pf.getD num N0).1, I64 (pf.getD num N0).2.1, I64 (pf.getD num N0).2.2.1, I64 (pf.getD num N0).2.2.2.1, I64 (pf.getD num N0).2.2.2.2.1, I64 (pf.getD num N0).2.2.2.2.2.1]))), (28, .lit (.int .i64 ((pf.getD num N0).1)))], [(1000000000, .row 4 .bool true (sn.set num true))]⟩) ?_ (W.drawPh (id := 15) tys_ok [] mixed [0, 1, 2, 4, 8, 24, 8, 72, 136, 264, 552, 1032, 2056, 5120, 8192, 24576, 8192, 73728, 8192, 270336, 532480, 1220608, 2105344, 4202496, 10485760, 16777216, 50331648, 16777216, 150994944, 16777216, 553648128, 1090519040, 2499805184, 4311744512, 8606711808] [([0, 1, 2, 3, 4, 5, 6, 7, 8, 9], 1, 2047), ([11, 12, 13, 14, 15, 16, 17, 18, 19, 20], 1, 4194303), ([22, 23, 24, 25, 26, 27, 28, 29, 30, 31], 1, 8589934591), ([33, 34], 0, 34359738367)] (by decide +kernel) ?_); rotate_left; (conv => whnf))
 | (refine W.resub (x := Code.region 18 _ _) (Γ' := ⟨[(1, .st false (.arr NT pf)), (2, .lit (.int .i64 (num))), (3, .own 1000000000), (4, .st false (.sadr (.agg [I64 P, .arr JT l, .arr OT os]))), (9, .st true (.sadr (.agg [I64 (pf.getD num N0).1, I64 (pf.getD num N0).2.1, I64 (pf.getD num N0).2.2.1, I64 (pf.getD num N0).2.2.2.1, I64 (pf.getD num N0).2.2.2.2.1, I64 (pf.getD num N0).2.2.2.2.2.1]))), (28, .lit (.int .i64 ((pf.getD num N0).1))), (13, .st true (.sadr (.agg [I64 (l.getD (pf.getD num N0).2.1.toNat J0).1, I64 (l.getD (pf.getD num N0).2.1.toNat J0).2.1, I64 (l.getD (pf.getD num N0).2.1.toNat J0).2.2.1, I64 (l.getD (pf.getD num N0).2.1.toNat J0).2.2.2.1])))], [(1000000000, .row 4 .bool true (sn.set num true))]⟩) ?_ (W.drawPh (id := 18) tys_ok [] mixed [0, 1, 0, 4, 10, 16, 32, 96, 32, 288, 32, 1056, 2592, 4256, 8224] [([0, 1, 2, 3, 4, 5, 6, 7, 8, 9, 10, 11, 12, 13, 14], 0, 32767)] (by decide +kernel) ?_); rotate_left; (conv => whnf))
 | (refine W.drawPhTo (id := 20) tys_ok [] mixed [0, 0, 0, 0, 13, 31] [([], 5, 31), ([], 1, 63)] ⟨[(1, .st false (.arr NT pf)), (2, .lit (.int .i64 (num))), (3, .own 1000000000), (4, .st false (.sadr (.agg [I64 P, .arr JT l, .arr OT os]))), (9, .st true (.sadr (.agg [I64 (pf.getD num N0).1, I64 (pf.getD num N0).2.1, I64 (pf.getD num N0).2.2.1, I64 (pf.getD num N0).2.2.2.1, I64 (pf.getD num N0).2.2.2.2.1, I64 (pf.getD num N0).2.2.2.2.2.1]))), (28, .lit (.int .i64 ((pf.getD num N0).1))), (13, .st true (.sadr (.agg [I64 (l.getD (pf.getD num N0).2.1.toNat J0).1, I64 (l.getD (pf.getD num N0).2.1.toNat J0).2.1, I64 (l.getD (pf.getD num N0).2.1.toNat J0).2.2.1, I64 (l.getD (pf.getD num N0).2.1.toNat J0).2.2.2.1]))), (14, .padr 15000 0), (15, .padr 16000 0)], [(1000000000, .row 4 .bool true (sn.set num true)), (15000, .box [.lit (.int .i64 P), .st false (.arr JT l), .st false (.arr OT os)]), (16000, .box [.lit (.int .i64 P), .st false (.arr JT l), .st false (.arr OT os)])]⟩ (by decide +kernel) ?_ ?_ <;> (conv => whnf))
 | (refine W.drawPhTo (id := 21) tys_ok [] mixed [0, 0, 2, 5, 0, 0, 32, 88, 15, 399, 1023, 2047] [([1, 2, 5, 6], 5, 511), ([], 1, 1023), ([10], 1, 4095)] ⟨[(1, .st false (.arr NT pf)), (2, .lit (.int .i64 (num))), (3, .own 1000000000), (4, .st false (.sadr (.agg [I64 P, .arr JT l, .arr OT os]))), (9, .st true (.sadr (.agg [I64 (pf.getD num N0).1, I64 (pf.getD num N0).2.1, I64 (pf.getD num N0).2.2.1, I64 (pf.getD num N0).2.2.2.1, I64 (pf.getD num N0).2.2.2.2.1, I64 (pf.getD num N0).2.2.2.2.2.1]))), (28, .lit (.int .i64 ((pf.getD num N0).1))), (13, .st true (.sadr (.agg [I64 (l.getD (pf.getD num N0).2.1.toNat J0).1, I64 (l.getD (pf.getD num N0).2.1.toNat J0).2.1, I64 (l.getD (pf.getD num N0).2.1.toNat J0).2.2.1, I64 (l.getD (pf.getD num N0).2.1.toNat J0).2.2.2.1]))), (14, .padr 15000 0), (15, .padr 16000 0)], [(1000000000, .row 4 .bool true (sn.set num true)), (15000, .box [.lit (.int .i64 P), .own 197000, .st false (.arr OT os)]), (16000, .box [.lit (.int .i64 P), .own 201000, .st false (.arr OT os)]), (197000, .row 45 JT true l), (201000, .row 45 JT true l)]⟩ (by decide +kernel) ?_ ?_ <;> (conv => whnf))
 | (refine W.drawPhTo (id := 22) tys_ok [] mixed [0, 1, 0, 4, 0, 16, 0, 64, 0, 256, 0, 1024, 2560, 0, 8192, 16384, 7951, 73487, 139023, 524287, 1048575, 1572863] [([0, 2, 3, 4, 6, 7, 8, 9, 10, 11, 12, 13, 14, 15], 5, 524287), ([], 1, 1048575), ([], 1, 2097151), ([], 1, 4194303)] ⟨[(1, .st false (.arr NT pf)), (3, .own 1000000000), (9, .st true (.sadr (.agg [I64 (pf.getD num N0).1, I64 (pf.getD num N0).2.1, I64 (pf.getD num N0).2.2.1, I64 (pf.getD num N0).2.2.2.1, I64 (pf.getD num N0).2.2.2.2.1, I64 (pf.getD num N0).2.2.2.2.2.1]))), (14, .st false (.sadr (.agg [I64 P, .arr JT L, .arr OT os]))), (15, .st false (.sadr (.agg [I64 P, .arr JT R, .arr OT os])))], [(1000000000, .row 4 .bool true (sn.set num true))]⟩ (by decide +kernel) ?_ ?_ <;> (conv => whnf))
 | (refine W.regionM (id := 23) tys_ok [] [5,12] ?_; conv => whnf)
 | (refine W.region tys_ok [] ?_; conv => whnf)
 | (refine W.drawAll tys_ok [] mixed rfl ?_; conv => whnf)
 | (refine W.ret ?_; conv => whnf)
 | (refine W.skip ?_; conv => whnf)
 | (refine W.exit ?_; conv => whnf)
 | (refine call_at (al := false) (in_at _ _ _) rfl rfl rfl rfl ?_; conv => whnf)
 | (refine callM_at (c1) ?_; clear c1; conv => whnf)
 | (refine Both.mk ?_ ?_ <;> (conv => whnf))
 | (refine W.cond rfl (fun hb => ?_) (fun hb => ?_) <;> (try simp only [Int.reduceToNat, Int.reduceTDiv, Int.reduceTMod, minL, maxL, pickB, zHB, zSH] at hb) <;> (try (first | (cases hb; done) | exact absurd hb (by decide) | (exfalso; omega) | (first | exact Bool.noConfusion (hb.symm.trans hs) | omega))))
 | (refine Or.inl (And.intro ?_ ?_); (focus (first | exact trivial | exact ⟨rfl, trivial⟩ | (refine ⟨?_, trivial⟩; dsimp only; simp only [Int.reduceToNat, Int.reduceTDiv, Int.reduceTMod, minL, maxL, pickB, zHB, zSH]; omega))); (conv => whnf))
 | (refine Or.inr (And.intro ?_ ?_); (focus (intro h; have h := h.1; dsimp only at h; first | (exact Bool.noConfusion h) | (simp only [Int.reduceToNat, Int.reduceTDiv, Int.reduceTMod, minL, maxL, pickB, zHB, zSH] at h; omega))); (conv => whnf))
 | ((with_reducible refine And.intro ?_ ?_); (focus ((repeat' (first | (with_reducible rfl) | (with_reducible refine And.intro ?_ ?_) | omega | rfl | exact Or.inl rfl | exact Or.inr rfl | exact of_decide_eq_true rfl | exact Path.imp_of (of_decide_eq_true rfl) | (focus ((try simp only [Int.reduceToNat, Int.reduceTDiv, Int.reduceTMod, minL, maxL, pickB, zHB, zSH, InK, Path.imp, List.length_replicate, List.length_set, List.length_append, List.length_cons, List.length_nil] at *); omega)) | (refine app_le rfl ?_; omega))); done)); (conv => whnf))
 | ((with_reducible refine And.intro (Side.out ?_) ?_); rotate_left; (conv => whnf))
 | ((first | refine retM1 ?_ | refine retM2 ?_ | refine subF.leaf ?_ | refine subF.side ?_) <;> (conv => whnf) <;> repeat' (first
 | exact trivial
 | (with_reducible rfl)
 | ((with_reducible refine And.intro ?_ ?_) <;> conv => whnf)
 | omega
 | rfl
 | (refine congrArg (SV.arr _) ?_)
 | (refine congrArg (Value.int _) ?_)
 | (refine congrArg Value.bool ?_)))); all_goals (try unfold Side)
  all_goals try (repeat' (first | (with_reducible rfl) | (with_reducible refine And.intro ?_ ?_) | omega | rfl | exact Or.inl rfl | exact Or.inr rfl | exact of_decide_eq_true rfl | exact Path.imp_of (of_decide_eq_true rfl) | (focus ((try simp only [Int.reduceToNat, Int.reduceTDiv, Int.reduceTMod, minL, maxL, pickB, zHB, zSH, InK, Path.imp, List.length_replicate, List.length_set, List.length_append, List.length_cons, List.length_nil] at *); omega)) | (refine app_le rfl ?_; omega)))
  all_goals try refine subF.ok ?_ <;> (conv => whnf) <;> repeat' (first
 | exact trivial
 | (with_reducible rfl)
 | ((with_reducible refine And.intro ?_ ?_) <;> conv => whnf)
 | omega
 | rfl
 | (refine congrArg (SV.arr _) ?_)
 | (refine congrArg (Value.int _) ?_)
 | (refine congrArg Value.bool ?_))
  all_goals try (first | exact eL | exact eR)
set_option maxHeartbeats 8000000 in
theorem rprovesMT_at {P : Int} {os : List Od} {pf : List Nd} (hP : 0 ≤ P ∧ P ≤ 100) (hpf : pf.length ≤ 100000) {k num : Nat} {l : List Jb} {sn : List Bool} (hnum : num < pf.length) (hsn : sn.length = pf.length) (hbd : Bd l) (ho : Ords os l.length) (hs : sn.getD num false = false) (h1 : (pf.getD num N0).1 = 1) (hc : ((pf.getD num N0).2.2.2.1 = 0 ∧ (0 ≤ (pf.getD num N0).2.1 ∧ (pf.getD num N0).2.1 < l.length) ∧ (jf l (pf.getD num N0).2.1.toNat ≤ (pf.getD num N0).2.2.1 ∧ (pf.getD num N0).2.2.1 < jt l (pf.getD num N0).2.1.toNat - jl l (pf.getD num N0).2.1.toNat) ∧ (((num : Int) < (pf.getD num N0).2.2.2.2.1 ∧ (num : Int) < (pf.getD num N0).2.2.2.2.2.1) ∧ (pf.getD num N0).2.2.2.2.1 < pf.length ∧ (pf.getD num N0).2.2.2.2.2.1 < pf.length))) {L R : List Jb} (hL : L = partL l (pf.getD num N0).2.1.toNat (pf.getD num N0).2.2.1) (hR : R = partR l (pf.getD num N0).2.1.toNat (pf.getD num N0).2.2.1) {S1 S2 : List Bool} {B2 : Bool} (hl1 : S1.length = pf.length)
    (c1 : FnM Try.prog 42 [.st false (.agg [I64 P, .arr JT L, .arr OT os]), .st false (.arr NT pf), .lit (.int .i64 (pf.getD num N0).2.2.2.2.1), .own 1000000000] [(1000000000, .row 4 .bool true (sn.set num true))] (.lit (.bool true)) [(1000000000, .row 4 .bool true S1)])
    (c2 : FnM Try.prog 42 [.st false (.agg [I64 P, .arr JT R, .arr OT os]), .st false (.arr NT pf), .lit (.int .i64 (pf.getD num N0).2.2.2.2.2.1), .own 1000000000] [(1000000000, .row 4 .bool true S1)] (.lit (.bool B2)) [(1000000000, .row 4 .bool true S2)]) :
    FnM Try.prog 42 [.st false (.agg [I64 P, .arr JT l, .arr OT os]), .st false (.arr NT pf), .lit (.int .i64 num), .own 1000000000] [(1000000000, .row 4 .bool true sn)] (.lit (.bool B2)) [(1000000000, .row 4 .bool true S2)] := by
  have hll : @List.length JT.T l = l.length := rfl
  have hlp : @List.length NT.T pf = pf.length := rfl
  have hlo : @List.length OT.T os = os.length := rfl
  have hls : @List.length Ty.bool.T sn = pf.length := hsn
  have hol := ho.1
  have hjl := hbd.len
  have hrj := hbd.rg (pf.getD num N0).2.1.toNat (by omega)
  have hjn : (pf.getD num N0).2.1.toNat < l.length := by omega
  have hc' := hc
  unfold jf jt jl jp at hrj
  unfold jf jt jl at hc'
  have eL : l.set (pf.getD num N0).2.1.toNat ((l.getD (pf.getD num N0).2.1.toNat J0).1, (pf.getD num N0).2.2.1 + (l.getD (pf.getD num N0).2.1.toNat J0).2.2.1, (l.getD (pf.getD num N0).2.1.toNat J0).2.2) = L := by rw [hL]; rfl
  have eR : l.set (pf.getD num N0).2.1.toNat ((pf.getD num N0).2.2.1 + 1, (l.getD (pf.getD num N0).2.1.toNat J0).2) = R := by rw [hR]; rfl
  refine FnM.of_body tys_ok Try.func42 (by rfl) rfl Try.ntmps42 (by rw [Try.results42]) (by simp) ?_
  
  repeat' (first
 | refine W.seq ?_
 | refine W.block ?_
 | (refine W.resub (x := Code.region 15 _ _) (Γ' := ⟨[(1, .st false (.arr NT pf)), (2, .lit (.int .i64 (num))), (3, .own 1000000000), (4, .st false (.sadr (.agg [I64 P, .arr JT l, .arr OT os]))), (9, .st true (.sadr (.agg [I64 (pf.getD num N0).1, I64 (pf.getD num N0).2.1, I64 (pf.getD num N0).2.2.1, I64 (pf.getD num N0).2.2.2.1, I64 (pf.getD num N0).2.2.2.2.1, I64 (pf.getD num N0).2.2.2.2.2.1]))), (28, .lit (.int .i64 ((pf.getD num N0).1)))], [(1000000000, .row 4 .bool true (sn.set num true))]⟩) ?_ (W.drawPh (id := 15) tys_ok [] mixed [0, 1, 2, 4, 8, 24, 8, 72, 136, 264, 552, 1032, 2056, 5120, 8192, 24576, 8192, 73728, 8192, 270336, 532480, 1220608, 2105344, 4202496, 10485760, 16777216, 50331648, 16777216, 150994944, 16777216, 553648128, 1090519040, 2499805184, 4311744512, 8606711808] [([0, 1, 2, 3, 4, 5, 6, 7, 8, 9], 1, 2047), ([11, 12, 13, 14, 15, 16, 17, 18, 19, 20], 1, 4194303), ([22, 23, 24, 25, 26, 27, 28, 29, 30, 31], 1, 8589934591), ([33, 34], 0, 34359738367)] (by decide +kernel) ?_); rotate_left; (conv => whnf))
 | (refine W.resub (x := Code.region 18 _ _) (Γ' := ⟨[(1, .st false (.arr NT pf)), (2, .lit (.int .i64 (num))), (3, .own 1000000000), (4, .st false (.sadr (.agg [I64 P, .arr JT l, .arr OT os]))), (9, .st true (.sadr (.agg [I64 (pf.getD num N0).1, I64 (pf.getD num N0).2.1, I64 (pf.getD num N0).2.2.1, I64 (pf.getD num N0).2.2.2.1, I64 (pf.getD num N0).2.2.2.2.1, I64 (pf.getD num N0).2.2.2.2.2.1]))), (28, .lit (.int .i64 ((pf.getD num N0).1))), (13, .st true (.sadr (.agg [I64 (l.getD (pf.getD num N0).2.1.toNat J0).1, I64 (l.getD (pf.getD num N0).2.1.toNat J0).2.1, I64 (l.getD (pf.getD num N0).2.1.toNat J0).2.2.1, I64 (l.getD (pf.getD num N0).2.1.toNat J0).2.2.2.1])))], [(1000000000, .row 4 .bool true (sn.set num true))]⟩) ?_ (W.drawPh (id := 18) tys_ok [] mixed [0, 1, 0, 4, 10, 16, 32, 96, 32, 288, 32, 1056, 2592, 4256, 8224] [([0, 1, 2, 3, 4, 5, 6, 7, 8, 9, 10, 11, 12, 13, 14], 0, 32767)] (by decide +kernel) ?_); rotate_left; (conv => whnf))
 | (refine W.drawPhTo (id := 20) tys_ok [] mixed [0, 0, 0, 0, 13, 31] [([], 5, 31), ([], 1, 63)] ⟨[(1, .st false (.arr NT pf)), (2, .lit (.int .i64 (num))), (3, .own 1000000000), (4, .st false (.sadr (.agg [I64 P, .arr JT l, .arr OT os]))), (9, .st true (.sadr (.agg [I64 (pf.getD num N0).1, I64 (pf.getD num N0).2.1, I64 (pf.getD num N0).2.2.1, I64 (pf.getD num N0).2.2.2.1, I64 (pf.getD num N0).2.2.2.2.1, I64 (pf.getD num N0).2.2.2.2.2.1]))), (28, .lit (.int .i64 ((pf.getD num N0).1))), (13, .st true (.sadr (.agg [I64 (l.getD (pf.getD num N0).2.1.toNat J0).1, I64 (l.getD (pf.getD num N0).2.1.toNat J0).2.1, I64 (l.getD (pf.getD num N0).2.1.toNat J0).2.2.1, I64 (l.getD (pf.getD num N0).2.1.toNat J0).2.2.2.1]))), (14, .padr 15000 0), (15, .padr 16000 0)], [(1000000000, .row 4 .bool true (sn.set num true)), (15000, .box [.lit (.int .i64 P), .st false (.arr JT l), .st false (.arr OT os)]), (16000, .box [.lit (.int .i64 P), .st false (.arr JT l), .st false (.arr OT os)])]⟩ (by decide +kernel) ?_ ?_ <;> (conv => whnf))
 | (refine W.drawPhTo (id := 21) tys_ok [] mixed [0, 0, 2, 5, 0, 0, 32, 88, 15, 399, 1023, 2047] [([1, 2, 5, 6], 5, 511), ([], 1, 1023), ([10], 1, 4095)] ⟨[(1, .st false (.arr NT pf)), (2, .lit (.int .i64 (num))), (3, .own 1000000000), (4, .st false (.sadr (.agg [I64 P, .arr JT l, .arr OT os]))), (9, .st true (.sadr (.agg [I64 (pf.getD num N0).1, I64 (pf.getD num N0).2.1, I64 (pf.getD num N0).2.2.1, I64 (pf.getD num N0).2.2.2.1, I64 (pf.getD num N0).2.2.2.2.1, I64 (pf.getD num N0).2.2.2.2.2.1]))), (28, .lit (.int .i64 ((pf.getD num N0).1))), (13, .st true (.sadr (.agg [I64 (l.getD (pf.getD num N0).2.1.toNat J0).1, I64 (l.getD (pf.getD num N0).2.1.toNat J0).2.1, I64 (l.getD (pf.getD num N0).2.1.toNat J0).2.2.1, I64 (l.getD (pf.getD num N0).2.1.toNat J0).2.2.2.1]))), (14, .padr 15000 0), (15, .padr 16000 0)], [(1000000000, .row 4 .bool true (sn.set num true)), (15000, .box [.lit (.int .i64 P), .own 197000, .st false (.arr OT os)]), (16000, .box [.lit (.int .i64 P), .own 201000, .st false (.arr OT os)]), (197000, .row 45 JT true l), (201000, .row 45 JT true l)]⟩ (by decide +kernel) ?_ ?_ <;> (conv => whnf))
 | (refine W.drawPhTo (id := 22) tys_ok [] mixed [0, 1, 0, 4, 0, 16, 0, 64, 0, 256, 0, 1024, 2560, 0, 8192, 16384, 7951, 73487, 139023, 524287, 1048575, 1572863] [([0, 2, 3, 4, 6, 7, 8, 9, 10, 11, 12, 13, 14, 15], 5, 524287), ([], 1, 1048575), ([], 1, 2097151), ([], 1, 4194303)] ⟨[(1, .st false (.arr NT pf)), (3, .own 1000000000), (9, .st true (.sadr (.agg [I64 (pf.getD num N0).1, I64 (pf.getD num N0).2.1, I64 (pf.getD num N0).2.2.1, I64 (pf.getD num N0).2.2.2.1, I64 (pf.getD num N0).2.2.2.2.1, I64 (pf.getD num N0).2.2.2.2.2.1]))), (14, .st false (.sadr (.agg [I64 P, .arr JT L, .arr OT os]))), (15, .st false (.sadr (.agg [I64 P, .arr JT R, .arr OT os])))], [(1000000000, .row 4 .bool true (sn.set num true))]⟩ (by decide +kernel) ?_ ?_ <;> (conv => whnf))
 | (refine W.regionM (id := 23) tys_ok [] [5,12] ?_; conv => whnf)
 | (refine W.region tys_ok [] ?_; conv => whnf)
 | (refine W.drawAll tys_ok [] mixed rfl ?_; conv => whnf)
 | (refine W.ret ?_; conv => whnf)
 | (refine W.skip ?_; conv => whnf)
 | (refine W.exit ?_; conv => whnf)
 | (refine call_at (al := false) (in_at _ _ _) rfl rfl rfl rfl ?_; conv => whnf)
 | (refine callM_at (c1) ?_; clear c1; conv => whnf)
 | (refine callM_at (c2) ?_; conv => whnf)
 | (refine Both.mk ?_ ?_ <;> (conv => whnf))
 | (refine W.cond rfl (fun hb => ?_) (fun hb => ?_) <;> (try simp only [Int.reduceToNat, Int.reduceTDiv, Int.reduceTMod, minL, maxL, pickB, zHB, zSH] at hb) <;> (try (first | (cases hb; done) | exact absurd hb (by decide) | (exfalso; omega) | (first | exact Bool.noConfusion (hb.symm.trans hs) | omega))))
 | (refine Or.inl (And.intro ?_ ?_); (focus (first | exact trivial | exact ⟨rfl, trivial⟩ | (refine ⟨?_, trivial⟩; dsimp only; simp only [Int.reduceToNat, Int.reduceTDiv, Int.reduceTMod, minL, maxL, pickB, zHB, zSH]; omega))); (conv => whnf))
 | (refine Or.inr (And.intro ?_ ?_); (focus (intro h; have h := h.1; dsimp only at h; first | (exact Bool.noConfusion h) | (simp only [Int.reduceToNat, Int.reduceTDiv, Int.reduceTMod, minL, maxL, pickB, zHB, zSH] at h; omega))); (conv => whnf))
 | ((with_reducible refine And.intro ?_ ?_); (focus ((repeat' (first | (with_reducible rfl) | (with_reducible refine And.intro ?_ ?_) | omega | rfl | exact Or.inl rfl | exact Or.inr rfl | exact of_decide_eq_true rfl | exact Path.imp_of (of_decide_eq_true rfl) | (focus ((try simp only [Int.reduceToNat, Int.reduceTDiv, Int.reduceTMod, minL, maxL, pickB, zHB, zSH, InK, Path.imp, List.length_replicate, List.length_set, List.length_append, List.length_cons, List.length_nil] at *); omega)) | (refine app_le rfl ?_; omega))); done)); (conv => whnf))
 | ((with_reducible refine And.intro (Side.out ?_) ?_); rotate_left; (conv => whnf))
 | ((first | refine retM1 ?_ | refine retM2 ?_ | refine subF.leaf ?_ | refine subF.side ?_) <;> (conv => whnf) <;> repeat' (first
 | exact trivial
 | (with_reducible rfl)
 | ((with_reducible refine And.intro ?_ ?_) <;> conv => whnf)
 | omega
 | rfl
 | (refine congrArg (SV.arr _) ?_)
 | (refine congrArg (Value.int _) ?_)
 | (refine congrArg Value.bool ?_)))); all_goals (try unfold Side)
  all_goals try (repeat' (first | (with_reducible rfl) | (with_reducible refine And.intro ?_ ?_) | omega | rfl | exact Or.inl rfl | exact Or.inr rfl | exact of_decide_eq_true rfl | exact Path.imp_of (of_decide_eq_true rfl) | (focus ((try simp only [Int.reduceToNat, Int.reduceTDiv, Int.reduceTMod, minL, maxL, pickB, zHB, zSH, InK, Path.imp, List.length_replicate, List.length_set, List.length_append, List.length_cons, List.length_nil] at *); omega)) | (refine app_le rfl ?_; omega)))
  all_goals try refine subF.ok ?_ <;> (conv => whnf) <;> repeat' (first
 | exact trivial
 | (with_reducible rfl)
 | ((with_reducible refine And.intro ?_ ?_) <;> conv => whnf)
 | omega
 | rfl
 | (refine congrArg (SV.arr _) ?_)
 | (refine congrArg (Value.int _) ?_)
 | (refine congrArg Value.bool ?_))
  all_goals try (first | exact eL | exact eR)
end Go.Proofs.Ytmfholchenihaaa
namespace Go.Proofs.Ytmfholchenihaaa
open Go Go.Vc Go.Sh
set_option linter.unusedVariables false
set_option linter.unusedSimpArgs false
def provesB (P : Int) (l : List Jb) (os : List Od) (pf : List Nd) : Bool := decide (0 < pf.length) && (pvT P os pf pf.length 0 l (List.replicate pf.length false)).1
theorem Proves_no {P : Int} {l : List Jb} {os : List Od} {pf : List Nd} (hl : l.length ≤ 1000) (ho : os.length ≤ 1000) (h : ¬ VS P l os) : FnAt Try.prog false 26 [.agg [I64 P, .arr JT l, .arr OT os], .arr NT pf] (.tup [.lit (.bool false), .lit (.int .i64 1)]) [] := by
  have hv := valid_at (P := P) hl ho
  rw [validB_no h] at hv
  refine FnAt.of_body tys_ok Try.func26 (by rfl) rfl Try.ntmps26 (by rw [Try.results26]) (by simp) ?_
  
  repeat' (first
 | refine W.seq ?_
 | refine W.block ?_
 | (refine W.region tys_ok [] ?_; conv => whnf)
 | (refine W.drawAll tys_ok [] mixed rfl ?_; conv => whnf)
 | (refine W.ret ?_; conv => whnf)
 | (refine W.skip ?_; conv => whnf)
 | (refine W.exit ?_; conv => whnf)
 | (refine call_at (al := false) (hv) rfl rfl rfl rfl ?_; conv => whnf)
 | (refine W.cond rfl (fun hb => ?_) (fun hb => ?_) <;> (try simp only [Int.reduceToNat, Int.reduceTDiv, Int.reduceTMod, minL, maxL, pickB, zHB, zSH] at hb) <;> (try (first | (cases hb; done) | exact absurd hb (by decide) | (exfalso; omega))))
 | ((with_reducible refine And.intro ?_ ?_); (focus ((repeat' (first | (with_reducible rfl) | (with_reducible refine And.intro ?_ ?_) | omega | rfl | exact Or.inl rfl | exact Or.inr rfl | exact of_decide_eq_true rfl | exact Path.imp_of (of_decide_eq_true rfl) | (focus ((try simp only [Int.reduceToNat, Int.reduceTDiv, Int.reduceTMod, minL, maxL, pickB, zHB, zSH, InK, Path.imp, List.length_replicate, List.length_set, List.length_append, List.length_cons, List.length_nil] at *); omega)) | (refine app_le rfl ?_; omega))); done)); (conv => whnf))
 | ((with_reducible refine And.intro (Side.out ?_) ?_); rotate_left; (conv => whnf))
 | ((first | refine retF1 ?_ | refine retF2 ?_) <;> (conv => whnf) <;> repeat' (first
 | exact trivial
 | (with_reducible rfl)
 | ((with_reducible refine And.intro ?_ ?_) <;> conv => whnf)
 | omega
 | rfl
 | (refine congrArg (SV.arr _) ?_)
 | (refine congrArg (Value.int _) ?_)
 | (refine congrArg Value.bool ?_)))); all_goals (try unfold Side)
  all_goals try (repeat' (first | (with_reducible rfl) | (with_reducible refine And.intro ?_ ?_) | omega | rfl | exact Or.inl rfl | exact Or.inr rfl | exact of_decide_eq_true rfl | exact Path.imp_of (of_decide_eq_true rfl) | (focus ((try simp only [Int.reduceToNat, Int.reduceTDiv, Int.reduceTMod, minL, maxL, pickB, zHB, zSH, InK, Path.imp, List.length_replicate, List.length_set, List.length_append, List.length_cons, List.length_nil] at *); omega)) | (refine app_le rfl ?_; omega)))
theorem Proves_long {P : Int} {l : List Jb} {os : List Od} {pf : List Nd} (h : VS P l os) (hp : 20000 < pf.length) : FnAt Try.prog false 26 [.agg [I64 P, .arr JT l, .arr OT os], .arr NT pf] (.tup [.lit (.bool false), .lit (.int .i64 3)]) [] := by
  have hv := valid_at (P := P) (l := l) (os := os) (by have := h.ln; omega) (by have := h.lo; omega)
  rw [validB_yes h] at hv
  have hlp : @List.length NT.T pf = pf.length := rfl
  refine FnAt.of_body tys_ok Try.func26 (by rfl) rfl Try.ntmps26 (by rw [Try.results26]) (by simp) ?_
  
  repeat' (first
 | refine W.seq ?_
 | refine W.block ?_
 | (refine W.region tys_ok [] ?_; conv => whnf)
 | (refine W.drawAll tys_ok [] mixed rfl ?_; conv => whnf)
 | (refine W.ret ?_; conv => whnf)
 | (refine W.skip ?_; conv => whnf)
 | (refine W.exit ?_; conv => whnf)
 | (refine call_at (al := false) (hv) rfl rfl rfl rfl ?_; conv => whnf)
 | (refine W.cond rfl (fun hb => ?_) (fun hb => ?_) <;> (try simp only [Int.reduceToNat, Int.reduceTDiv, Int.reduceTMod, minL, maxL, pickB, zHB, zSH] at hb) <;> (try (first | (cases hb; done) | exact absurd hb (by decide) | (exfalso; omega) | (omega))))
 | ((with_reducible refine And.intro ?_ ?_); (focus ((repeat' (first | (with_reducible rfl) | (with_reducible refine And.intro ?_ ?_) | omega | rfl | exact Or.inl rfl | exact Or.inr rfl | exact of_decide_eq_true rfl | exact Path.imp_of (of_decide_eq_true rfl) | (focus ((try simp only [Int.reduceToNat, Int.reduceTDiv, Int.reduceTMod, minL, maxL, pickB, zHB, zSH, InK, Path.imp, List.length_replicate, List.length_set, List.length_append, List.length_cons, List.length_nil] at *); omega)) | (refine app_le rfl ?_; omega))); done)); (conv => whnf))
 | ((with_reducible refine And.intro (Side.out ?_) ?_); rotate_left; (conv => whnf))
 | ((first | refine retF1 ?_ | refine retF2 ?_) <;> (conv => whnf) <;> repeat' (first
 | exact trivial
 | (with_reducible rfl)
 | ((with_reducible refine And.intro ?_ ?_) <;> conv => whnf)
 | omega
 | rfl
 | (refine congrArg (SV.arr _) ?_)
 | (refine congrArg (Value.int _) ?_)
 | (refine congrArg Value.bool ?_)))); all_goals (try unfold Side)
  all_goals try (repeat' (first | (with_reducible rfl) | (with_reducible refine And.intro ?_ ?_) | omega | rfl | exact Or.inl rfl | exact Or.inr rfl | exact of_decide_eq_true rfl | exact Path.imp_of (of_decide_eq_true rfl) | (focus ((try simp only [Int.reduceToNat, Int.reduceTDiv, Int.reduceTMod, minL, maxL, pickB, zHB, zSH, InK, Path.imp, List.length_replicate, List.length_set, List.length_append, List.length_cons, List.length_nil] at *); omega)) | (refine app_le rfl ?_; omega)))
set_option maxHeartbeats 4000000 in
theorem Proves_ok {P : Int} {l : List Jb} {os : List Od} {pf : List Nd} (h : VS P l os) (hp : pf.length ≤ 20000) : FnAt Try.prog false 26 [.agg [I64 P, .arr JT l, .arr OT os], .arr NT pf] (.tup [.lit (.bool (provesB P l os pf)), .lit (.int .i64 0)]) [] := by
  have hv := valid_at (P := P) (l := l) (os := os) (by have := h.ln; omega) (by have := h.lo; omega)
  rw [validB_yes h] at hv
  have hlp : @List.length NT.T pf = pf.length := rfl
  by_cases hz : 0 < pf.length
  · have hc := proves_at (P := P) (l0 := l) (os := os) (pf := pf) (k := pf.length) (num := 0) (l := l) (sn := List.replicate pf.length false) (by have := h.pw; omega) (by omega) hz (by omega) (by simp) (bd_of h) (ords_of h)
    have hB : provesB P l os pf = (pvT P os pf pf.length 0 l (List.replicate pf.length false)).1 := by unfold provesB; rw [decide_eq_true hz, Bool.true_and]
    rw [hB]
    obtain ⟨r, hr⟩ : ∃ r, r = pvT P os pf pf.length 0 l (List.replicate pf.length false) := ⟨_, rfl⟩
    rw [← hr] at hc ⊢
    clear hr hB
    have hs : List.replicate ((pf.length : Nat) : Int).toNat false = List.replicate pf.length false := by rw [Int.toNat_natCast]
    refine FnAt.of_body tys_ok Try.func26 (by rfl) rfl Try.ntmps26 (by rw [Try.results26]) (by simp) ?_
  
    have hfin : ∀ b : Bool, pickB (decide (0 < (pf.length : Int))) (Operand.tmp 25) (Operand.const (Value.bool false)) b false = b := fun b => by
      rw [decide_eq_true (by omega)]; rfl
    repeat' (first
 | refine W.seq ?_
 | refine W.block ?_
 | (refine W.resub (x := Code.region 5 _ _) (Γ' := ⟨[(1, .st false (.arr NT pf)), (2, .st false (.sadr (.agg [I64 P, .arr JT l, .arr OT os])))], []⟩) ?_ (W.drawM (id := 5) tys_ok [] [10, 11] mixed [0, 1, 2, 4, 8, 8, 8, 72, 8, 264, 520, 1208, 2056, 8191, 16383] [([0, 1, 2, 3, 4, 5, 6, 7, 8, 9], 1, 2047), ([], 1, 4095), ([12, 13, 14], 0, 32767)] (by decide +kernel) ?_); rotate_left; (conv => whnf))
 | (refine W.region tys_ok [] ?_; conv => whnf)
 | (refine W.drawAll tys_ok [] mixed rfl ?_; conv => whnf)
 | (refine W.ret ?_; conv => whnf)
 | (refine W.skip ?_; conv => whnf)
 | (refine W.exit ?_; conv => whnf)
 | (refine call_at (al := false) (hv) rfl rfl rfl rfl ?_; conv => whnf)
 | (refine callM_at (hc) ?_; conv => whnf)
 | (refine Both.mk ?_ ?_ <;> (conv => whnf))
 | (refine W.cond rfl (fun hb => ?_) (fun hb => ?_) <;> (try simp only [Int.reduceToNat, Int.reduceTDiv, Int.reduceTMod, minL, maxL, pickB, zHB, zSH] at hb) <;> (try (first | (cases hb; done) | exact absurd hb (by decide) | (exfalso; omega) | (omega))))
 | (refine Or.inl (And.intro ?_ ?_); (focus (first | exact trivial | exact ⟨rfl, trivial⟩ | (refine ⟨?_, trivial⟩; dsimp only; simp only [Int.reduceToNat, Int.reduceTDiv, Int.reduceTMod, minL, maxL, pickB, zHB, zSH]; omega))); (conv => whnf))
 | (refine Or.inr (And.intro ?_ ?_); (focus (intro h; have h := h.1; dsimp only at h; first | (exact Bool.noConfusion h) | (simp only [Int.reduceToNat, Int.reduceTDiv, Int.reduceTMod, minL, maxL, pickB, zHB, zSH] at h; omega))); (conv => whnf))
 | ((with_reducible refine And.intro ?_ ?_); (focus ((repeat' (first | (with_reducible rfl) | (with_reducible refine And.intro ?_ ?_) | omega | rfl | exact Or.inl rfl | exact Or.inr rfl | exact of_decide_eq_true rfl | exact Path.imp_of (of_decide_eq_true rfl) | (focus ((try simp only [Int.reduceToNat, Int.reduceTDiv, Int.reduceTMod, minL, maxL, pickB, zHB, zSH, InK, Path.imp, List.length_replicate, List.length_set, List.length_append, List.length_cons, List.length_nil] at *); omega)) | (refine app_le rfl ?_; omega))); done)); (conv => whnf))
 | ((with_reducible refine And.intro (Side.out ?_) ?_); rotate_left; (conv => whnf))
 | ((first | refine retF1 ?_ | refine retF2 ?_ | refine subF.leaf ?_ | refine subF.side ?_) <;> (conv => whnf) <;> repeat' (first
 | exact trivial
 | (with_reducible rfl)
 | ((with_reducible refine And.intro ?_ ?_) <;> conv => whnf)
 | omega
 | rfl
 | (refine congrArg (SV.arr _) ?_)
 | (refine congrArg (Value.int _) ?_)
 | (refine congrArg Value.bool ?_)))); all_goals (try unfold Side)
    all_goals try (repeat' (first | (with_reducible rfl) | (with_reducible refine And.intro ?_ ?_) | omega | rfl | exact Or.inl rfl | exact Or.inr rfl | exact of_decide_eq_true rfl | exact Path.imp_of (of_decide_eq_true rfl) | (focus ((try simp only [Int.reduceToNat, Int.reduceTDiv, Int.reduceTMod, minL, maxL, pickB, zHB, zSH, InK, Path.imp, List.length_replicate, List.length_set, List.length_append, List.length_cons, List.length_nil] at *); omega)) | (refine app_le rfl ?_; omega)))
    all_goals exact hfin _
  · have hB : provesB P l os pf = false := by unfold provesB; rw [decide_eq_false hz, Bool.false_and]
    rw [hB]
    refine FnAt.of_body tys_ok Try.func26 (by rfl) rfl Try.ntmps26 (by rw [Try.results26]) (by simp) ?_
  
    have hfin : pickB (decide (0 < (pf.length : Int))) (Operand.tmp 25) (Operand.const (Value.bool false)) false false = false := by
      rw [decide_eq_false (by omega)]; rfl
    repeat' (first
 | refine W.seq ?_
 | refine W.block ?_
 | (refine W.resub (x := Code.region 5 _ _) (Γ' := ⟨[(1, .st false (.arr NT pf)), (2, .st false (.sadr (.agg [I64 P, .arr JT l, .arr OT os])))], []⟩) ?_ (W.drawM (id := 5) tys_ok [] [10, 11] mixed [0, 1, 2, 4, 8, 8, 8, 72, 8, 264, 520, 1208, 2056, 8191, 16383] [([0, 1, 2, 3, 4, 5, 6, 7, 8, 9], 1, 2047), ([], 1, 4095), ([12, 13, 14], 0, 32767)] (by decide +kernel) ?_); rotate_left; (conv => whnf))
 | (refine W.region tys_ok [] ?_; conv => whnf)
 | (refine W.drawAll tys_ok [] mixed rfl ?_; conv => whnf)
 | (refine W.ret ?_; conv => whnf)
 | (refine W.skip ?_; conv => whnf)
 | (refine W.exit ?_; conv => whnf)
 | (refine call_at (al := false) (hv) rfl rfl rfl rfl ?_; conv => whnf)
 | (refine Both.mk ?_ ?_ <;> (conv => whnf))
 | (refine W.cond rfl (fun hb => ?_) (fun hb => ?_) <;> (try simp only [Int.reduceToNat, Int.reduceTDiv, Int.reduceTMod, minL, maxL, pickB, zHB, zSH] at hb) <;> (try (first | (cases hb; done) | exact absurd hb (by decide) | (exfalso; omega) | (omega))))
 | (refine Or.inl (And.intro ?_ ?_); (focus (first | exact trivial | exact ⟨rfl, trivial⟩ | (refine ⟨?_, trivial⟩; dsimp only; simp only [Int.reduceToNat, Int.reduceTDiv, Int.reduceTMod, minL, maxL, pickB, zHB, zSH]; omega))); (conv => whnf))
 | (refine Or.inr (And.intro ?_ ?_); (focus (intro h; have h := h.1; dsimp only at h; first | (exact Bool.noConfusion h) | (simp only [Int.reduceToNat, Int.reduceTDiv, Int.reduceTMod, minL, maxL, pickB, zHB, zSH] at h; omega))); (conv => whnf))
 | ((with_reducible refine And.intro ?_ ?_); (focus ((repeat' (first | (with_reducible rfl) | (with_reducible refine And.intro ?_ ?_) | omega | rfl | exact Or.inl rfl | exact Or.inr rfl | exact of_decide_eq_true rfl | exact Path.imp_of (of_decide_eq_true rfl) | (focus ((try simp only [Int.reduceToNat, Int.reduceTDiv, Int.reduceTMod, minL, maxL, pickB, zHB, zSH, InK, Path.imp, List.length_replicate, List.length_set, List.length_append, List.length_cons, List.length_nil] at *); omega)) | (refine app_le rfl ?_; omega))); done)); (conv => whnf))
 | ((with_reducible refine And.intro (Side.out ?_) ?_); rotate_left; (conv => whnf))
 | ((first | refine retF1 ?_ | refine retF2 ?_ | refine subF.leaf ?_ | refine subF.side ?_) <;> (conv => whnf) <;> repeat' (first
 | exact trivial
 | (with_reducible rfl)
 | ((with_reducible refine And.intro ?_ ?_) <;> conv => whnf)
 | omega
 | rfl
 | (refine congrArg (SV.arr _) ?_)
 | (refine congrArg (Value.int _) ?_)
 | (refine congrArg Value.bool ?_)))); all_goals (try unfold Side)
    all_goals try (repeat' (first | (with_reducible rfl) | (with_reducible refine And.intro ?_ ?_) | omega | rfl | exact Or.inl rfl | exact Or.inr rfl | exact of_decide_eq_true rfl | exact Path.imp_of (of_decide_eq_true rfl) | (focus ((try simp only [Int.reduceToNat, Int.reduceTDiv, Int.reduceTMod, minL, maxL, pickB, zHB, zSH, InK, Path.imp, List.length_replicate, List.length_set, List.length_append, List.length_cons, List.length_nil] at *); omega)) | (refine app_le rfl ?_; omega)))
    all_goals exact hfin
end Go.Proofs.Ytmfholchenihaaa
namespace Go.Proofs.Ytmfholchenihaaa
open Go Go.Vc Go.Sh
set_option linter.unusedVariables false
set_option linter.unusedSimpArgs false
set_option maxHeartbeats 8000000 in
theorem rprovesM_at {P : Int} {os : List Od} {pf : List Nd} (hP : 0 ≤ P ∧ P ≤ 100) (hpf : pf.length ≤ 100000) {k num : Nat} {l : List Jb} {sn : List Bool} (hnum : num < pf.length) (hsn : sn.length = pf.length) (hbd : Bd l) (ho : Ords os l.length) (hs : sn.getD num false = false) (h1 : (pf.getD num N0).1 = 1) (hc : ((pf.getD num N0).2.2.2.1 = 0 ∧ (0 ≤ (pf.getD num N0).2.1 ∧ (pf.getD num N0).2.1 < l.length) ∧ (jf l (pf.getD num N0).2.1.toNat ≤ (pf.getD num N0).2.2.1 ∧ (pf.getD num N0).2.2.1 < jt l (pf.getD num N0).2.1.toNat - jl l (pf.getD num N0).2.1.toNat) ∧ (((num : Int) < (pf.getD num N0).2.2.2.2.1 ∧ (num : Int) < (pf.getD num N0).2.2.2.2.2.1) ∧ (pf.getD num N0).2.2.2.2.1 < pf.length ∧ (pf.getD num N0).2.2.2.2.2.1 < pf.length)))
    (ih : ∀ (n : Nat) (l' : List Jb) (sn' : List Bool), num < n → n < pf.length → sn'.length = pf.length → Bd l' → l'.length = l.length →
      FnM Try.prog 42 [.st false (.agg [I64 P, .arr JT l', .arr OT os]), .st false (.arr NT pf), .lit (.int .i64 n), .own 1000000000] [(1000000000, .row 4 .bool true sn')] (.lit (.bool (pvT P os pf k n l' sn').1)) [(1000000000, .row 4 .bool true (pvT P os pf k n l' sn').2)]) :
    FnM Try.prog 42 [.st false (.agg [I64 P, .arr JT l, .arr OT os]), .st false (.arr NT pf), .lit (.int .i64 num), .own 1000000000] [(1000000000, .row 4 .bool true sn)] (.lit (.bool (pvT P os pf (k + 1) num l sn).1)) [(1000000000, .row 4 .bool true (pvT P os pf (k + 1) num l sn).2)] := by
  have hll : @List.length JT.T l = l.length := rfl
  have hlp : @List.length NT.T pf = pf.length := rfl
  have hlo : @List.length OT.T os = os.length := rfl
  have hls : @List.length Ty.bool.T sn = pf.length := hsn
  have hol := ho.1
  have hjl := hbd.len
  rw [pv_split hs h1 (split_iff.2 hc)]
  have hjn : (pf.getD num N0).2.1.toNat < l.length := by omega
  obtain ⟨bL, bR, lL, lR⟩ := part_bd hbd hjn hc.2.2.1
  have hlf : (((pf.getD num N0).2.2.2.2.1.toNat : Nat) : Int) = (pf.getD num N0).2.2.2.2.1 := by omega
  have hrt : (((pf.getD num N0).2.2.2.2.2.1.toNat : Nat) : Int) = (pf.getD num N0).2.2.2.2.2.1 := by omega
  have hsl1 : (sn.set num true).length = pf.length := by rw [List.length_set]; exact hsn
  have c1 := ih (pf.getD num N0).2.2.2.2.1.toNat (partL l (pf.getD num N0).2.1.toNat (pf.getD num N0).2.2.1) (sn.set num true) (by omega) (by omega) hsl1 bL lL
  have c2 := fun sn' hsn' => ih (pf.getD num N0).2.2.2.2.2.1.toNat (partR l (pf.getD num N0).2.1.toNat (pf.getD num N0).2.2.1) sn' (by omega) (by omega) hsn' bR lR
  have hl1 := pv_len (P := P) (os := os) (pf := pf) (k := k) (num := (pf.getD num N0).2.2.2.2.1.toNat) (l := (partL l (pf.getD num N0).2.1.toNat (pf.getD num N0).2.2.1)) (sn := sn.set num true)
  rw [hlf] at c1
  rw [hrt] at c2
  obtain ⟨r1, hr1⟩ : ∃ r1, r1 = pvT P os pf k (pf.getD num N0).2.2.2.2.1.toNat (partL l (pf.getD num N0).2.1.toNat (pf.getD num N0).2.2.1) (sn.set num true) := ⟨_, rfl⟩
  rw [← hr1] at c1 hl1 ⊢
  obtain ⟨B1, S1⟩ := r1
  have hl1' : S1.length = pf.length := by rw [← hsl1]; exact hl1
  have c2 := c2 S1 hl1'
  obtain ⟨r2, hr2⟩ : ∃ r2, r2 = pvT P os pf k (pf.getD num N0).2.2.2.2.2.1.toNat (partR l (pf.getD num N0).2.1.toNat (pf.getD num N0).2.2.1) S1 := ⟨_, rfl⟩
  have hr2' : pvT P os pf k (pf.getD num N0).2.2.2.2.2.1.toNat (partR l (pf.getD num N0).2.1.toNat (pf.getD num N0).2.2.1) (B1, S1).2 = r2 := hr2.symm
  rw [hr2']
  rw [← hr2] at c2
  obtain ⟨B2, S2⟩ := r2
  clear hr1 hr2 hr2'
  cases B1 with
  | false =>
    dsimp only
    rw [if_neg Bool.false_ne_true]
    exact rprovesMF_at (k := k) (S1 := S1) (S2 := S1) (B2 := false) hP hpf hnum hsn hbd ho hs h1 hc rfl rfl hl1' c1
  | true =>
    rw [if_pos rfl]
    exact rprovesMT_at (k := k) (S1 := S1) (S2 := S2) (B2 := B2) hP hpf hnum hsn hbd ho hs h1 hc rfl rfl hl1' c1 c2
theorem rproves_at {P : Int} {os : List Od} {pf : List Nd} (hP : 0 ≤ P ∧ P ≤ 100) (hpf : pf.length ≤ 100000) : ∀ {k num : Nat} {l : List Jb} {sn : List Bool}, num < pf.length → pf.length ≤ num + k → sn.length = pf.length → Bd l → Ords os l.length →
    FnM Try.prog 42 [.st false (.agg [I64 P, .arr JT l, .arr OT os]), .st false (.arr NT pf), .lit (.int .i64 num), .own 1000000000] [(1000000000, .row 4 .bool true sn)] (.lit (.bool (pvT P os pf k num l sn).1)) [(1000000000, .row 4 .bool true (pvT P os pf k num l sn).2)]
  | 0, num, l, sn, h1, h2, _, _, _ => by omega
  | k + 1, num, l, sn, hnum, hk, hsn, hbd, ho => by
    have ih : ∀ (n : Nat) (l' : List Jb) (sn' : List Bool), num < n → n < pf.length → sn'.length = pf.length → Bd l' → l'.length = l.length →
      FnM Try.prog 42 [.st false (.agg [I64 P, .arr JT l', .arr OT os]), .st false (.arr NT pf), .lit (.int .i64 n), .own 1000000000] [(1000000000, .row 4 .bool true sn')] (.lit (.bool (pvT P os pf k n l' sn').1)) [(1000000000, .row 4 .bool true (pvT P os pf k n l' sn').2)] :=
      fun n l' sn' h1 h2 h3 h4 h5 => rproves_at hP hpf h2 (by omega) h3 h4 (by rw [h5]; exact ho)
    cases hs : sn.getD num false with
    | true => exact rprovesS_at hP hpf hnum hsn hbd ho hs
    | false =>
      by_cases h1 : (pf.getD num N0).1 = 1
      · by_cases hc : ((pf.getD num N0).2.2.2.1 = 0 ∧ (0 ≤ (pf.getD num N0).2.1 ∧ (pf.getD num N0).2.1 < l.length) ∧ (jf l (pf.getD num N0).2.1.toNat ≤ (pf.getD num N0).2.2.1 ∧ (pf.getD num N0).2.2.1 < jt l (pf.getD num N0).2.1.toNat - jl l (pf.getD num N0).2.1.toNat) ∧ (((num : Int) < (pf.getD num N0).2.2.2.2.1 ∧ (num : Int) < (pf.getD num N0).2.2.2.2.2.1) ∧ (pf.getD num N0).2.2.2.2.1 < pf.length ∧ (pf.getD num N0).2.2.2.2.2.1 < pf.length))
        · exact rprovesM_at hP hpf hnum hsn hbd ho hs h1 hc ih
        · exact rprovesN_at hP hpf hnum hsn hbd ho hs h1 hc
      · by_cases h2 : (pf.getD num N0).1 = 2
        · exact rproves2_at hP hpf hnum hsn hbd ho hs h2
        · by_cases h3 : (pf.getD num N0).1 = 3
          · exact rproves3_at hP hpf hnum hsn hbd ho hs h3
          · exact rprovesE_at hP hpf hnum hsn hbd ho hs h1 h2 h3
set_option maxHeartbeats 4000000 in
theorem rProves_at {P : Int} {l : List Jb} {os : List Od} {pf : List Nd} (h : VS P l os) (hp : pf.length ≤ 20000) : FnAt Try.prog false 25 [.agg [I64 P, .arr JT l, .arr OT os], .arr NT pf] (.lit (.bool (provesB P l os pf))) [] := by
  have hlp : @List.length NT.T pf = pf.length := rfl
  by_cases hz : 0 < pf.length
  · have hc := rproves_at (P := P) (os := os) (pf := pf) (k := pf.length) (num := 0) (l := l) (sn := List.replicate pf.length false) (by have := h.pw; omega) (by omega) hz (by omega) (by simp) (bd_of h) (ords_of h)
    have hB : provesB P l os pf = (pvT P os pf pf.length 0 l (List.replicate pf.length false)).1 := by unfold provesB; rw [decide_eq_true hz, Bool.true_and]
    rw [hB]
    obtain ⟨r, hr⟩ : ∃ r, r = pvT P os pf pf.length 0 l (List.replicate pf.length false) := ⟨_, rfl⟩
    rw [← hr] at hc ⊢
    clear hr hB
    have hs : List.replicate ((pf.length : Nat) : Int).toNat false = List.replicate pf.length false := by rw [Int.toNat_natCast]
    have hfin : ∀ b : Bool, pickB (decide (0 < (pf.length : Int))) (Operand.tmp 14) (Operand.const (Value.bool false)) b false = b := fun b => by
      rw [decide_eq_true (by omega)]; rfl
    refine FnAt.of_body tys_ok Try.func25 (by rfl) rfl Try.ntmps25 (by rw [Try.results25]) (by simp) ?_
  
    repeat' (first
 | refine W.seq ?_
 | refine W.block ?_
 | (refine W.resub (x := Code.region 1 _ _) (Γ' := ⟨[(1, .st false (.arr NT pf)), (2, .st false (.sadr (.agg [I64 P, .arr JT l, .arr OT os])))], []⟩) ?_ (W.drawM (id := 1) tys_ok [] [8, 9] mixed [0, 1, 2, 4, 8, 8, 8, 72, 136, 312, 520, 2047] [([0, 1, 2, 3, 4, 5, 6, 7], 1, 511), ([], 1, 1023), ([10, 11], 0, 4095)] (by decide +kernel) ?_); rotate_left; (conv => whnf))
 | (refine W.region tys_ok [] ?_; conv => whnf)
 | (refine W.drawAll tys_ok [] mixed rfl ?_; conv => whnf)
 | (refine W.ret ?_; conv => whnf)
 | (refine W.skip ?_; conv => whnf)
 | (refine W.exit ?_; conv => whnf)
 | (refine callM_at (hc) ?_; conv => whnf)
 | (refine Both.mk ?_ ?_ <;> (conv => whnf))
 | (refine W.cond rfl (fun hb => ?_) (fun hb => ?_) <;> (try simp only [Int.reduceToNat, Int.reduceTDiv, Int.reduceTMod, minL, maxL, pickB, zHB, zSH] at hb) <;> (try (first | (cases hb; done) | exact absurd hb (by decide) | (exfalso; omega) | (omega))))
 | (refine Or.inl (And.intro ?_ ?_); (focus (first | exact trivial | exact ⟨rfl, trivial⟩ | (refine ⟨?_, trivial⟩; dsimp only; simp only [Int.reduceToNat, Int.reduceTDiv, Int.reduceTMod, minL, maxL, pickB, zHB, zSH]; omega))); (conv => whnf))
 | (refine Or.inr (And.intro ?_ ?_); (focus (intro h; have h := h.1; dsimp only at h; first | (exact Bool.noConfusion h) | (simp only [Int.reduceToNat, Int.reduceTDiv, Int.reduceTMod, minL, maxL, pickB, zHB, zSH] at h; omega))); (conv => whnf))
 | ((with_reducible refine And.intro ?_ ?_); (focus ((repeat' (first | (with_reducible rfl) | (with_reducible refine And.intro ?_ ?_) | omega | rfl | exact Or.inl rfl | exact Or.inr rfl | exact of_decide_eq_true rfl | exact Path.imp_of (of_decide_eq_true rfl) | (focus ((try simp only [Int.reduceToNat, Int.reduceTDiv, Int.reduceTMod, minL, maxL, pickB, zHB, zSH, InK, Path.imp, List.length_replicate, List.length_set, List.length_append, List.length_cons, List.length_nil] at *); omega)) | (refine app_le rfl ?_; omega))); done)); (conv => whnf))
 | ((with_reducible refine And.intro (Side.out ?_) ?_); rotate_left; (conv => whnf))
 | ((first | refine retF1 ?_ | refine retF2 ?_ | refine subF.leaf ?_ | refine subF.side ?_) <;> (conv => whnf) <;> repeat' (first
 | exact trivial
 | (with_reducible rfl)
 | ((with_reducible refine And.intro ?_ ?_) <;> conv => whnf)
 | omega
 | rfl
 | (refine congrArg (SV.arr _) ?_)
 | (refine congrArg (Value.int _) ?_)
 | (refine congrArg Value.bool ?_)))); all_goals (try unfold Side)
    all_goals try (repeat' (first | (with_reducible rfl) | (with_reducible refine And.intro ?_ ?_) | omega | rfl | exact Or.inl rfl | exact Or.inr rfl | exact of_decide_eq_true rfl | exact Path.imp_of (of_decide_eq_true rfl) | (focus ((try simp only [Int.reduceToNat, Int.reduceTDiv, Int.reduceTMod, minL, maxL, pickB, zHB, zSH, InK, Path.imp, List.length_replicate, List.length_set, List.length_append, List.length_cons, List.length_nil] at *); omega)) | (refine app_le rfl ?_; omega)))
    all_goals exact hfin _
  · have hB : provesB P l os pf = false := by unfold provesB; rw [decide_eq_false hz, Bool.false_and]
    rw [hB]
    have hfin : pickB (decide (0 < (pf.length : Int))) (Operand.tmp 14) (Operand.const (Value.bool false)) false false = false := by
      rw [decide_eq_false (by omega)]; rfl
    refine FnAt.of_body tys_ok Try.func25 (by rfl) rfl Try.ntmps25 (by rw [Try.results25]) (by simp) ?_
  
    repeat' (first
 | refine W.seq ?_
 | refine W.block ?_
 | (refine W.resub (x := Code.region 1 _ _) (Γ' := ⟨[(1, .st false (.arr NT pf)), (2, .st false (.sadr (.agg [I64 P, .arr JT l, .arr OT os])))], []⟩) ?_ (W.drawM (id := 1) tys_ok [] [8, 9] mixed [0, 1, 2, 4, 8, 8, 8, 72, 136, 312, 520, 2047] [([0, 1, 2, 3, 4, 5, 6, 7], 1, 511), ([], 1, 1023), ([10, 11], 0, 4095)] (by decide +kernel) ?_); rotate_left; (conv => whnf))
 | (refine W.region tys_ok [] ?_; conv => whnf)
 | (refine W.drawAll tys_ok [] mixed rfl ?_; conv => whnf)
 | (refine W.ret ?_; conv => whnf)
 | (refine W.skip ?_; conv => whnf)
 | (refine W.exit ?_; conv => whnf)
 | (refine Both.mk ?_ ?_ <;> (conv => whnf))
 | (refine W.cond rfl (fun hb => ?_) (fun hb => ?_) <;> (try simp only [Int.reduceToNat, Int.reduceTDiv, Int.reduceTMod, minL, maxL, pickB, zHB, zSH] at hb) <;> (try (first | (cases hb; done) | exact absurd hb (by decide) | (exfalso; omega) | (omega))))
 | (refine Or.inl (And.intro ?_ ?_); (focus (first | exact trivial | exact ⟨rfl, trivial⟩ | (refine ⟨?_, trivial⟩; dsimp only; simp only [Int.reduceToNat, Int.reduceTDiv, Int.reduceTMod, minL, maxL, pickB, zHB, zSH]; omega))); (conv => whnf))
 | (refine Or.inr (And.intro ?_ ?_); (focus (intro h; have h := h.1; dsimp only at h; first | (exact Bool.noConfusion h) | (simp only [Int.reduceToNat, Int.reduceTDiv, Int.reduceTMod, minL, maxL, pickB, zHB, zSH] at h; omega))); (conv => whnf))
 | ((with_reducible refine And.intro ?_ ?_); (focus ((repeat' (first | (with_reducible rfl) | (with_reducible refine And.intro ?_ ?_) | omega | rfl | exact Or.inl rfl | exact Or.inr rfl | exact of_decide_eq_true rfl | exact Path.imp_of (of_decide_eq_true rfl) | (focus ((try simp only [Int.reduceToNat, Int.reduceTDiv, Int.reduceTMod, minL, maxL, pickB, zHB, zSH, InK, Path.imp, List.length_replicate, List.length_set, List.length_append, List.length_cons, List.length_nil] at *); omega)) | (refine app_le rfl ?_; omega))); done)); (conv => whnf))
 | ((with_reducible refine And.intro (Side.out ?_) ?_); rotate_left; (conv => whnf))
 | ((first | refine retF1 ?_ | refine retF2 ?_ | refine subF.leaf ?_ | refine subF.side ?_) <;> (conv => whnf) <;> repeat' (first
 | exact trivial
 | (with_reducible rfl)
 | ((with_reducible refine And.intro ?_ ?_) <;> conv => whnf)
 | omega
 | rfl
 | (refine congrArg (SV.arr _) ?_)
 | (refine congrArg (Value.int _) ?_)
 | (refine congrArg Value.bool ?_)))); all_goals (try unfold Side)
    all_goals try (repeat' (first | (with_reducible rfl) | (with_reducible refine And.intro ?_ ?_) | omega | rfl | exact Or.inl rfl | exact Or.inr rfl | exact of_decide_eq_true rfl | exact Path.imp_of (of_decide_eq_true rfl) | (focus ((try simp only [Int.reduceToNat, Int.reduceTDiv, Int.reduceTMod, minL, maxL, pickB, zHB, zSH, InK, Path.imp, List.length_replicate, List.length_set, List.length_append, List.length_cons, List.length_nil] at *); omega)) | (refine app_le rfl ?_; omega)))
    all_goals exact hfin
end Go.Proofs.Ytmfholchenihaaa
namespace Go.Sh
set_option linter.unusedVariables false
set_option linter.unusedSimpArgs false
theorem growR_len {P : Int} {os : List Od} {k : Nat} : ∀ {l : List Jb} {N : List Nd}, N.length ≤ 20000 → N.length ≤ (growR P os k l N).2.length ∧ (growR P os k l N).2.length ≤ 20000 := by
  induction k with
  | zero => intro l N h; exact ⟨Nat.le_refl _, h⟩
  | succ k ih =>
    intro l N h
    rw [growR_succ]
    generalize growR P os k = G at ih ⊢
    unfold growS
    split
    · exact ⟨Nat.le_refl _, h⟩
    rename_i hN
    split
    · simp; omega
    split
    · simp; omega
    split
    · simp; omega
    · rename_i j hj
      have h1 := ih (l := partL l j (midT l j)) (N := N ++ [N0]) (by simp; omega)
      have h2 := ih (l := partR l j (midT l j)) (N := (G (partL l j (midT l j)) (N ++ [N0])).2) h1.2
      simp only [List.length_append, List.length_cons, List.length_nil] at h1
      split
      · split
        · dsimp only
          rw [List.length_set]; omega
        · dsimp only; omega
      · dsimp only; omega
theorem gr_long {P : Int} {os : List Od} {k : Nat} {l : List Jb} {N : List Nd} (h : 20000 ≤ N.length) : growR P os (k + 1) l N = (false, N) := by
  rw [growR_succ]; unfold growS; rw [if_pos h]
theorem gr_late {P : Int} {os : List Od} {k : Nat} {l : List Jb} {N : List Nd} (h : ¬ 20000 ≤ N.length) {i : Nat} (h1 : lateI os l = some i) : growR P os (k + 1) l N = (true, (N ++ [N0]).set N.length (3, (i : Int), 0, 0, 0, 0, ())) := by
  rw [growR_succ]; unfold growS; rw [if_neg h, h1]
  simp
theorem gr_over {P : Int} {os : List Od} {k : Nat} {l : List Jb} {N : List Nd} (h : ¬ 20000 ≤ N.length) (h1 : lateI os l = none) {a b : Nat} (h2 : overF P l = some (a, b)) : growR P os (k + 1) l N = (true, (N ++ [N0]).set N.length (2, 0, (a : Int), (b : Int), 0, 0, ())) := by
  rw [growR_succ]; unfold growS; rw [if_neg h, h1]
  dsimp only
  rw [h2]
  simp
theorem gr_none {P : Int} {os : List Od} {k : Nat} {l : List Jb} {N : List Nd} (h : ¬ 20000 ≤ N.length) (h1 : lateI os l = none) (h2 : overF P l = none) (h3 : pickK l l.length = none) : growR P os (k + 1) l N = (false, N ++ [N0]) := by
  rw [growR_succ]; unfold growS; rw [if_neg h, h1]
  dsimp only
  rw [h2]
  dsimp only
  rw [h3]
theorem gr_pick {P : Int} {os : List Od} {k : Nat} {l : List Jb} {N : List Nd} (h : ¬ 20000 ≤ N.length) (h1 : lateI os l = none) (h2 : overF P l = none) {j : Nat} (h3 : pickK l l.length = some j) : growR P os (k + 1) l N =
    if (growR P os k (partL l j (midT l j)) (N ++ [N0])).1 = true then
      (if (growR P os k (partR l j (midT l j)) (growR P os k (partL l j (midT l j)) (N ++ [N0])).2).1 = true then
        (true, (growR P os k (partR l j (midT l j)) (growR P os k (partL l j (midT l j)) (N ++ [N0])).2).2.set N.length
          (1, (j : Int), midT l j, 0, (N.length : Int) + 1, ((growR P os k (partL l j (midT l j)) (N ++ [N0])).2.length : Int), ()))
      else (false, (growR P os k (partR l j (midT l j)) (growR P os k (partL l j (midT l j)) (N ++ [N0])).2).2))
    else (false, (growR P os k (partL l j (midT l j)) (N ++ [N0])).2) := by
  rw [growR_succ]; unfold growS; rw [if_neg h, h1]
  dsimp only
  rw [h2]
  dsimp only
  rw [h3]
def pkI (l : List Jb) (k : Nat) : Int := match pickK l k with
  | some j => (j : Int)
  | none => -1
theorem pk_zero {l : List Jb} : pkI l 0 = -1 := rfl
def pkC (l : List Jb) (k : Nat) : Prop := 0 < frT l k ∧ (pkI l k < 0 ∨ frT l k < frT l (pkI l k).toNat)
theorem pk_yes {l : List Jb} {k : Nat} (h : pkC l k) : pkI l (k + 1) = k := by
  unfold pkC pkI at h
  unfold pkI
  rw [pickK]
  cases e : pickK l k with
  | none => dsimp only; rw [if_pos h.1]
  | some j =>
    rw [e] at h
    dsimp only at h ⊢
    rw [if_pos ⟨h.1, by rcases h.2 with h2 | h2; · omega
                        · rwa [Int.toNat_natCast] at h2⟩]
theorem pk_no {l : List Jb} {k : Nat} (h : ¬ pkC l k) : pkI l (k + 1) = pkI l k := by
  unfold pkC pkI at h
  unfold pkI
  rw [pickK]
  cases e : pickK l k with
  | none =>
    rw [e] at h
    dsimp only at h ⊢
    rw [if_neg fun h1 => h ⟨h1, .inl (by omega)⟩]
  | some j =>
    rw [e] at h
    dsimp only at h ⊢
    rw [if_neg fun h1 => h ⟨h1.1, .inr (by rw [Int.toNat_natCast]; exact h1.2)⟩]
theorem pk_rg {l : List Jb} {k : Nat} : -1 ≤ pkI l k ∧ pkI l k < k := by
  unfold pkI
  cases e : pickK l k with
  | none => dsimp only; omega
  | some j =>
    have := (pickK_some e).1
    dsimp only; omega
end Go.Sh
