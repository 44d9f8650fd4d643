/- Joined of: H30 H33 H38 H22. No condition. -/
import Derived.Test.YtmfholchenihaaaJ9
import Derived.Test.YtmfholchenihaaaJ12
import Derived.Test.YtmfholchenihaaaJ10

namespace Go.Proofs.Ytmfholchenihaaa
open Go Go.Vc Go.Sh
set_option linter.unusedVariables false
set_option linter.unusedSimpArgs false
end Go.Proofs.Ytmfholchenihaaa
namespace Go.Proofs.Ytmfholchenihaaa
open Go Go.Vc Go.Sh
set_option linter.unusedVariables false
set_option linter.unusedSimpArgs false
end Go.Proofs.Ytmfholchenihaaa
namespace Go.Proofs.Ytmfholchenihaaa
open Go Go.Vc Go.Sh
set_option linter.unusedVariables false
set_option linter.unusedSimpArgs false
theorem all_none {P : Int} {l : List Jb} {os : List Od} (h : ∀ s, ¬ Fit P l os s) : allL P l os (waysT l) = [] := by
  cases e : allL P l os (waysT l) with
  | nil => rfl
  | cons x r =>
    have : x ∈ allL P l os (waysT l) := by rw [e]; exact List.mem_cons_self
    exact absurd (all_mem.1 this) (h x)
end Go.Proofs.Ytmfholchenihaaa
namespace Go.Proofs.Ytmfholchenihaaa
open Go Go.Vc Go.Sh
set_option linter.unusedVariables false
set_option linter.unusedSimpArgs false
set_option maxHeartbeats 8000000 in
theorem rprovesS_at {P : Int} {os : List Od} {pf : List Nd} (hP : 0 ≤ P ∧ P ≤ 100) (hpf : pf.length ≤ 100000) {k num : Nat} {l : List Jb} {sn : List Bool} (hnum : num < pf.length) (hsn : sn.length = pf.length) (hbd : Bd l) (ho : Ords os l.length) (hs : sn.getD num false = true) :
    FnM Try.prog 42 [.st false (.agg [I64 P, .arr JT l, .arr OT os]), .st false (.arr NT pf), .lit (.int .i64 num), .own 1000000000] [(1000000000, .row 4 .bool true sn)] (.lit (.bool (pvT P os pf (k + 1) num l sn).1)) [(1000000000, .row 4 .bool true (pvT P os pf (k + 1) num l sn).2)] := by
  have hll : @List.length JT.T l = l.length := rfl
  have hlp : @List.length NT.T pf = pf.length := rfl
  have hlo : @List.length OT.T os = os.length := rfl
  have hls : @List.length Ty.bool.T sn = pf.length := hsn
  have hol := ho.1
  have hjl := hbd.len
  rw [pv_seen hs]
  refine FnM.of_body tys_ok Try.func42 (by rfl) rfl Try.ntmps42 (by rw [Try.results42]) (by simp) ?_
  
  repeat' (first
 | refine W.seq ?_
 | refine W.block ?_
 | (refine W.region tys_ok [] ?_; conv => whnf)
 | (refine W.drawAll tys_ok [] mixed rfl ?_; conv => whnf)
 | (refine W.ret ?_; conv => whnf)
 | (refine W.skip ?_; conv => whnf)
 | (refine W.exit ?_; conv => whnf)
 | (refine W.cond rfl (fun hb => ?_) (fun hb => ?_) <;> (try simp only [Int.reduceToNat, Int.reduceTDiv, Int.reduceTMod, minL, maxL, pickB, zHB, zSH] at hb) <;> (try (first | (cases hb; done) | exact absurd hb (by decide) | (exfalso; omega) | (first | exact Bool.noConfusion (hb.symm.trans hs) | omega))))
 | ((with_reducible refine And.intro ?_ ?_); (focus (first | (with_reducible rfl) | omega | rfl | ((try simp only [Int.reduceToNat, Int.reduceTDiv, Int.reduceTMod, minL, maxL, pickB, zHB, zSH, InK, Path.imp, zL] at *); omega))); (conv => whnf))
 | ((with_reducible refine And.intro (Side.out ?_) ?_); rotate_left; (conv => whnf))
 | ((first | refine retM1 ?_ | refine retM2 ?_) <;> (conv => whnf) <;> repeat' (first
 | exact trivial
 | (with_reducible rfl)
 | ((with_reducible refine And.intro ?_ ?_) <;> conv => whnf)
 | omega
 | rfl
 | (refine congrArg (SV.arr _) ?_)
 | (refine congrArg (Value.int _) ?_)
 | (refine congrArg Value.bool ?_)))); all_goals (try unfold Side)
  all_goals try (repeat' (first | (with_reducible rfl) | (with_reducible refine And.intro ?_ ?_) | omega | rfl | exact Or.inl rfl | exact Or.inr rfl | exact of_decide_eq_true rfl | exact Path.imp_of (of_decide_eq_true rfl) | (focus ((try simp only [Int.reduceToNat, Int.reduceTDiv, Int.reduceTMod, minL, maxL, pickB, zHB, zSH, InK, Path.imp, zL] at *); omega)) | (refine app_le rfl ?_; omega)))
set_option maxHeartbeats 8000000 in
theorem rprovesE_at {P : Int} {os : List Od} {pf : List Nd} (hP : 0 ≤ P ∧ P ≤ 100) (hpf : pf.length ≤ 100000) {k num : Nat} {l : List Jb} {sn : List Bool} (hnum : num < pf.length) (hsn : sn.length = pf.length) (hbd : Bd l) (ho : Ords os l.length) (hs : sn.getD num false = false) (h1 : (pf.getD num N0).1 ≠ 1) (h2 : (pf.getD num N0).1 ≠ 2) (h3 : (pf.getD num N0).1 ≠ 3) :
    FnM Try.prog 42 [.st false (.agg [I64 P, .arr JT l, .arr OT os]), .st false (.arr NT pf), .lit (.int .i64 num), .own 1000000000] [(1000000000, .row 4 .bool true sn)] (.lit (.bool (pvT P os pf (k + 1) num l sn).1)) [(1000000000, .row 4 .bool true (pvT P os pf (k + 1) num l sn).2)] := by
  have hll : @List.length JT.T l = l.length := rfl
  have hlp : @List.length NT.T pf = pf.length := rfl
  have hlo : @List.length OT.T os = os.length := rfl
  have hls : @List.length Ty.bool.T sn = pf.length := hsn
  have hol := ho.1
  have hjl := hbd.len
  rw [pv_else hs h1 h2 h3]
  refine FnM.of_body tys_ok Try.func42 (by rfl) rfl Try.ntmps42 (by rw [Try.results42]) (by simp) ?_
  
  repeat' (first
 | refine W.seq ?_
 | refine W.block ?_
 | (refine W.region tys_ok [] ?_; conv => whnf)
 | (refine W.drawAll tys_ok [] mixed rfl ?_; conv => whnf)
 | (refine W.ret ?_; conv => whnf)
 | (refine W.skip ?_; conv => whnf)
 | (refine W.exit ?_; conv => whnf)
 | (refine W.cond rfl (fun hb => ?_) (fun hb => ?_) <;> (try simp only [Int.reduceToNat, Int.reduceTDiv, Int.reduceTMod, minL, maxL, pickB, zHB, zSH] at hb) <;> (try (first | (cases hb; done) | exact absurd hb (by decide) | (exfalso; omega) | (first | exact Bool.noConfusion (hb.symm.trans hs) | omega))))
 | ((with_reducible refine And.intro ?_ ?_); (focus (first | (with_reducible rfl) | omega | rfl | ((try simp only [Int.reduceToNat, Int.reduceTDiv, Int.reduceTMod, minL, maxL, pickB, zHB, zSH, InK, Path.imp, zL] at *); omega))); (conv => whnf))
 | ((with_reducible refine And.intro (Side.out ?_) ?_); rotate_left; (conv => whnf))
 | ((first | refine retM1 ?_ | refine retM2 ?_) <;> (conv => whnf) <;> repeat' (first
 | exact trivial
 | (with_reducible rfl)
 | ((with_reducible refine And.intro ?_ ?_) <;> conv => whnf)
 | omega
 | rfl
 | (refine congrArg (SV.arr _) ?_)
 | (refine congrArg (Value.int _) ?_)
 | (refine congrArg Value.bool ?_)))); all_goals (try unfold Side)
  all_goals try (repeat' (first | (with_reducible rfl) | (with_reducible refine And.intro ?_ ?_) | omega | rfl | exact Or.inl rfl | exact Or.inr rfl | exact of_decide_eq_true rfl | exact Path.imp_of (of_decide_eq_true rfl) | (focus ((try simp only [Int.reduceToNat, Int.reduceTDiv, Int.reduceTMod, minL, maxL, pickB, zHB, zSH, InK, Path.imp, zL] at *); omega)) | (refine app_le rfl ?_; omega)))
set_option maxHeartbeats 8000000 in
theorem rproves2_at {P : Int} {os : List Od} {pf : List Nd} (hP : 0 ≤ P ∧ P ≤ 100) (hpf : pf.length ≤ 100000) {k num : Nat} {l : List Jb} {sn : List Bool} (hnum : num < pf.length) (hsn : sn.length = pf.length) (hbd : Bd l) (ho : Ords os l.length) (hs : sn.getD num false = false) (h2 : (pf.getD num N0).1 = 2) :
    FnM Try.prog 42 [.st false (.agg [I64 P, .arr JT l, .arr OT os]), .st false (.arr NT pf), .lit (.int .i64 num), .own 1000000000] [(1000000000, .row 4 .bool true sn)] (.lit (.bool (pvT P os pf (k + 1) num l sn).1)) [(1000000000, .row 4 .bool true (pvT P os pf (k + 1) num l sn).2)] := by
  have hll : @List.length JT.T l = l.length := rfl
  have hlp : @List.length NT.T pf = pf.length := rfl
  have hlo : @List.length OT.T os = os.length := rfl
  have hls : @List.length Ty.bool.T sn = pf.length := hsn
  have hol := ho.1
  have hjl := hbd.len
  rw [pv_crowd hs h2]
  have hbB : crowdB P l (pf.getD num N0) = (decide ((pf.getD num N0).2.1 = 0 ∧ (pf.getD num N0).2.2.2.2.1 = 0 ∧ (pf.getD num N0).2.2.2.2.2.1 = 0) && (decide (0 ≤ (pf.getD num N0).2.2.1 ∧ (pf.getD num N0).2.2.1 < (pf.getD num N0).2.2.2.1 ∧ (pf.getD num N0).2.2.2.1 ≤ 24) && decide (P * ((pf.getD num N0).2.2.2.1 - (pf.getD num N0).2.2.1) < needsT l (pf.getD num N0).2.2.1 (pf.getD num N0).2.2.2.1))) := rfl
  by_cases hc : ((pf.getD num N0).2.1 = 0 ∧ (pf.getD num N0).2.2.2.2.1 = 0 ∧ (pf.getD num N0).2.2.2.2.2.1 = 0) ∧ 0 ≤ (pf.getD num N0).2.2.1 ∧ (pf.getD num N0).2.2.1 < (pf.getD num N0).2.2.2.1 ∧ (pf.getD num N0).2.2.2.1 ≤ 24
  · have hn := needsR_at (P := P) (os := os) hbd (a := (pf.getD num N0).2.2.1) (b := (pf.getD num N0).2.2.2.1) (by omega)
    have hm : 0 ≤ P * ((pf.getD num N0).2.2.2.1 - (pf.getD num N0).2.2.1) ∧ P * ((pf.getD num N0).2.2.2.1 - (pf.getD num N0).2.2.1) ≤ 2500 := by
      refine ⟨Int.mul_nonneg hP.1 (by omega), ?_⟩
      have := Int.mul_le_mul (a := P) (b := (pf.getD num N0).2.2.2.1 - (pf.getD num N0).2.2.1) (c := 100) (d := 25) hP.2 (by omega) (by omega) (by omega)
      omega
    rw [hbB, decide_eq_true hc.1, decide_eq_true hc.2]
    refine FnM.of_body tys_ok Try.func42 (by rfl) rfl Try.ntmps42 (by rw [Try.results42]) (by simp) ?_
  
    repeat' (first
 | refine W.seq ?_
 | refine W.block ?_
 | (refine W.resub (x := Code.region 7 _ _) (Γ' := ⟨[(1, .st false (.arr NT pf)), (2, .lit (.int .i64 (num))), (3, .own 1000000000), (4, .st false (.sadr (.agg [I64 P, .arr JT l, .arr OT os]))), (9, .st true (.sadr (.agg [I64 (pf.getD num N0).1, I64 (pf.getD num N0).2.1, I64 (pf.getD num N0).2.2.1, I64 (pf.getD num N0).2.2.2.1, I64 (pf.getD num N0).2.2.2.2.1, I64 (pf.getD num N0).2.2.2.2.2.1]))), (28, .lit (.int .i64 ((pf.getD num N0).1)))], [(1000000000, .row 4 .bool true (sn.set num true))]⟩) ?_ (W.drawPh (id := 7) tys_ok [] mixed [0, 1, 2, 4, 8, 24, 40, 72, 136, 256, 768, 1280, 2304, 4352, 8192, 24576, 40960, 73728, 196608, 262144, 786432, 262144, 2359296, 4456448, 9699328, 17039360, 50331648, 67108864, 67108864, 335544320, 67108864, 1140850688, 2885681152, 67108864, 8657043456, 67108864, 34426847232, 67108864, 137506062336, 343664492544, 567002791936, 1103873703936, 2199090364416, 8796093022207] [([0, 1, 2, 3, 4, 5, 6, 7, 8, 9, 10, 11, 12, 13, 14, 15], 1, 131071), ([17, 18, 19, 20, 21, 22, 23], 1, 33554431), ([25, 26, 27, 28, 29, 30, 31, 33, 34, 35, 36, 37, 38, 39, 40], 1, 2199023255551), ([41, 42, 43], 0, 17592186044415)] (by decide +kernel) ?_); rotate_left; (conv => whnf))
 | (refine W.region tys_ok [] ?_; conv => whnf)
 | (refine W.drawAll tys_ok [] mixed rfl ?_; conv => whnf)
 | (refine W.ret ?_; conv => whnf)
 | (refine W.skip ?_; conv => whnf)
 | (refine W.exit ?_; conv => whnf)
 | (refine call_at (al := false) (in_at _ _ _) rfl rfl rfl rfl ?_; conv => whnf)
 | (refine call_at (al := false) (hn) rfl rfl rfl rfl ?_; conv => whnf)
 | (refine Both.mk ?_ ?_ <;> (conv => whnf))
 | (refine W.cond rfl (fun hb => ?_) (fun hb => ?_) <;> (try simp only [Int.reduceToNat, Int.reduceTDiv, Int.reduceTMod, minL, maxL, pickB, zHB, zSH] at hb) <;> (try (first | (cases hb; done) | exact absurd hb (by decide) | (exfalso; omega) | (first | exact Bool.noConfusion (hb.symm.trans hs) | omega))))
 | ((with_reducible refine And.intro ?_ ?_); (focus (first | (with_reducible rfl) | omega | rfl | ((try simp only [Int.reduceToNat, Int.reduceTDiv, Int.reduceTMod, minL, maxL, pickB, zHB, zSH, InK, Path.imp, zL] at *); omega))); (conv => whnf))
 | ((with_reducible refine And.intro (Side.out ?_) ?_); rotate_left; (conv => whnf))
 | ((first | refine retM1 ?_ | refine retM2 ?_ | refine subF.leaf ?_ | refine subF.side ?_) <;> (conv => whnf) <;> repeat' (first
 | exact trivial
 | (with_reducible rfl)
 | ((with_reducible refine And.intro ?_ ?_) <;> conv => whnf)
 | omega
 | rfl
 | (refine congrArg (SV.arr _) ?_)
 | (refine congrArg (Value.int _) ?_)
 | (refine congrArg Value.bool ?_)))); all_goals (try unfold Side)
    all_goals try (repeat' (first | (with_reducible rfl) | (with_reducible refine And.intro ?_ ?_) | omega | rfl | exact Or.inl rfl | exact Or.inr rfl | exact of_decide_eq_true rfl | exact Path.imp_of (of_decide_eq_true rfl) | (focus ((try simp only [Int.reduceToNat, Int.reduceTDiv, Int.reduceTMod, minL, maxL, pickB, zHB, zSH, InK, Path.imp, zL] at *); omega)) | (refine app_le rfl ?_; omega)))
    all_goals try refine subF.ok ?_ <;> (conv => whnf) <;> repeat' (first
 | exact trivial
 | (with_reducible rfl)
 | ((with_reducible refine And.intro ?_ ?_) <;> conv => whnf)
 | omega
 | rfl
 | (refine congrArg (SV.arr _) ?_)
 | (refine congrArg (Value.int _) ?_)
 | (refine congrArg Value.bool ?_))
    all_goals (rw [decide_eq_true hc.1.1, decide_eq_true hc.1.2.1, decide_eq_true hc.1.2.2, decide_eq_true hc.2.1, decide_eq_true (show (pf.getD num N0).2.2.1 ≤ 23 by omega), decide_eq_true (show (pf.getD num N0).2.2.1 + 1 ≤ (pf.getD num N0).2.2.2.1 by omega), decide_eq_true hc.2.2.2]; rfl)
  · have hf : crowdB P l (pf.getD num N0) = false := by
      rw [hbB, Bool.eq_false_iff]
      intro h
      simp only [Bool.and_eq_true, decide_eq_true_eq] at h
      exact hc ⟨h.1, h.2.1⟩
    rw [hf]
    refine FnM.of_body tys_ok Try.func42 (by rfl) rfl Try.ntmps42 (by rw [Try.results42]) (by simp) ?_
  
    repeat' (first
 | refine W.seq ?_
 | refine W.block ?_
 | (refine W.resub (x := Code.region 7 _ _) (Γ' := ⟨[(1, .st false (.arr NT pf)), (2, .lit (.int .i64 (num))), (3, .own 1000000000), (4, .st false (.sadr (.agg [I64 P, .arr JT l, .arr OT os]))), (9, .st true (.sadr (.agg [I64 (pf.getD num N0).1, I64 (pf.getD num N0).2.1, I64 (pf.getD num N0).2.2.1, I64 (pf.getD num N0).2.2.2.1, I64 (pf.getD num N0).2.2.2.2.1, I64 (pf.getD num N0).2.2.2.2.2.1]))), (28, .lit (.int .i64 ((pf.getD num N0).1)))], [(1000000000, .row 4 .bool true (sn.set num true))]⟩) ?_ (W.drawPh (id := 7) tys_ok [] mixed [0, 1, 2, 4, 8, 24, 40, 72, 136, 256, 768, 1280, 2304, 4352, 8192, 24576, 40960, 73728, 196608, 262144, 786432, 262144, 2359296, 4456448, 9699328, 17039360, 50331648, 67108864, 67108864, 335544320, 67108864, 1140850688, 2885681152, 67108864, 8657043456, 67108864, 34426847232, 67108864, 137506062336, 343664492544, 567002791936, 1103873703936, 2199090364416, 8796093022207] [([0, 1, 2, 3, 4, 5, 6, 7, 8, 9, 10, 11, 12, 13, 14, 15], 1, 131071), ([17, 18, 19, 20, 21, 22, 23], 1, 33554431), ([25, 26, 27, 28, 29, 30, 31, 33, 34, 35, 36, 37, 38, 39, 40], 1, 2199023255551), ([41, 42, 43], 0, 17592186044415)] (by decide +kernel) ?_); rotate_left; (conv => whnf))
 | (refine W.region tys_ok [] ?_; conv => whnf)
 | (refine W.drawAll tys_ok [] mixed rfl ?_; conv => whnf)
 | (refine W.ret ?_; conv => whnf)
 | (refine W.skip ?_; conv => whnf)
 | (refine W.exit ?_; conv => whnf)
 | (refine call_at (al := false) (in_at _ _ _) rfl rfl rfl rfl ?_; conv => whnf)
 | (refine ⟨false, _, _, _, _, rfl, fun h => (show FnAt Try.prog false 33 [.agg [I64 P, .arr JT l, .arr OT os], I64 (pf.getD num N0).2.2.1, I64 (pf.getD num N0).2.2.2.1] (.lit (.int .i64 0)) [] from (by exfalso; simp only [Int.reduceToNat, Int.reduceTDiv, Int.reduceTMod, minL, maxL, pickB, zHB, zSH] at h; omega)), rfl, rfl, rfl, ?_⟩; conv => whnf)
 | (refine Both.mk ?_ ?_ <;> (conv => whnf))
 | (refine W.cond rfl (fun hb => ?_) (fun hb => ?_) <;> (try simp only [Int.reduceToNat, Int.reduceTDiv, Int.reduceTMod, minL, maxL, pickB, zHB, zSH] at hb) <;> (try (first | (cases hb; done) | exact absurd hb (by decide) | (exfalso; omega) | (first | exact Bool.noConfusion (hb.symm.trans hs) | omega))))
 | ((with_reducible refine And.intro ?_ ?_); (focus (first | (with_reducible rfl) | omega | rfl | ((try simp only [Int.reduceToNat, Int.reduceTDiv, Int.reduceTMod, minL, maxL, pickB, zHB, zSH, InK, Path.imp, zL] at *); omega))); (conv => whnf))
 | ((with_reducible refine And.intro (Side.out ?_) ?_); rotate_left; (conv => whnf))
 | ((first | refine retM1 ?_ | refine retM2 ?_ | refine subF.leaf ?_ | refine subF.side ?_) <;> (conv => whnf) <;> repeat' (first
 | exact trivial
 | (with_reducible rfl)
 | ((with_reducible refine And.intro ?_ ?_) <;> conv => whnf)
 | omega
 | rfl
 | (refine congrArg (SV.arr _) ?_)
 | (refine congrArg (Value.int _) ?_)
 | (refine congrArg Value.bool ?_)))); all_goals (try unfold Side)
    all_goals try (repeat' (first | (with_reducible rfl) | (with_reducible refine And.intro ?_ ?_) | omega | rfl | exact Or.inl rfl | exact Or.inr rfl | exact of_decide_eq_true rfl | exact Path.imp_of (of_decide_eq_true rfl) | (focus ((try simp only [Int.reduceToNat, Int.reduceTDiv, Int.reduceTMod, minL, maxL, pickB, zHB, zSH, InK, Path.imp, zL] at *); omega)) | (refine app_le rfl ?_; omega)))
    all_goals try refine subF.ok ?_ <;> (conv => whnf) <;> repeat' (first
 | exact trivial
 | (with_reducible rfl)
 | ((with_reducible refine And.intro ?_ ?_) <;> conv => whnf)
 | omega
 | rfl
 | (refine congrArg (SV.arr _) ?_)
 | (refine congrArg (Value.int _) ?_)
 | (refine congrArg Value.bool ?_))
set_option maxHeartbeats 8000000 in
theorem rproves3_at {P : Int} {os : List Od} {pf : List Nd} (hP : 0 ≤ P ∧ P ≤ 100) (hpf : pf.length ≤ 100000) {k num : Nat} {l : List Jb} {sn : List Bool} (hnum : num < pf.length) (hsn : sn.length = pf.length) (hbd : Bd l) (ho : Ords os l.length) (hs : sn.getD num false = false) (h3 : (pf.getD num N0).1 = 3) :
    FnM Try.prog 42 [.st false (.agg [I64 P, .arr JT l, .arr OT os]), .st false (.arr NT pf), .lit (.int .i64 num), .own 1000000000] [(1000000000, .row 4 .bool true sn)] (.lit (.bool (pvT P os pf (k + 1) num l sn).1)) [(1000000000, .row 4 .bool true (pvT P os pf (k + 1) num l sn).2)] := by
  have hll : @List.length JT.T l = l.length := rfl
  have hlp : @List.length NT.T pf = pf.length := rfl
  have hlo : @List.length OT.T os = os.length := rfl
  have hls : @List.length Ty.bool.T sn = pf.length := hsn
  have hol := ho.1
  have hjl := hbd.len
  rw [pv_behind hs h3]
  have hbB : behindB l os (pf.getD num N0) = (decide ((pf.getD num N0).2.2.1 = 0 ∧ (pf.getD num N0).2.2.2.1 = 0 ∧ (pf.getD num N0).2.2.2.2.1 = 0 ∧ (pf.getD num N0).2.2.2.2.2.1 = 0) && (decide (0 ≤ (pf.getD num N0).2.1 ∧ (pf.getD num N0).2.1 < os.length) && lateT l (os.getD (pf.getD num N0).2.1.toNat O0))) := rfl
  by_cases hc : ((pf.getD num N0).2.2.1 = 0 ∧ (pf.getD num N0).2.2.2.1 = 0 ∧ (pf.getD num N0).2.2.2.2.1 = 0 ∧ (pf.getD num N0).2.2.2.2.2.1 = 0) ∧ 0 ≤ (pf.getD num N0).2.1 ∧ (pf.getD num N0).2.1 < os.length
  · have hoj := ho.2 (pf.getD num N0).2.1.toNat (by omega)
    have h1 := hbd.rg (os.getD (pf.getD num N0).2.1.toNat O0).1.toNat (by omega)
    have h2 := hbd.rg (os.getD (pf.getD num N0).2.1.toNat O0).2.1.toNat (by omega)
    unfold jf jt jl jp at h1 h2
    rw [hbB, decide_eq_true hc.1, decide_eq_true hc.2]
    refine FnM.of_body tys_ok Try.func42 (by rfl) rfl Try.ntmps42 (by rw [Try.results42]) (by simp) ?_
  
    repeat' (first
 | refine W.seq ?_
 | refine W.block ?_
 | (refine W.resub (x := Code.region 9 _ _) (Γ' := ⟨[(1, .st false (.arr NT pf)), (2, .lit (.int .i64 (num))), (3, .own 1000000000), (4, .st false (.sadr (.agg [I64 P, .arr JT l, .arr OT os]))), (9, .st true (.sadr (.agg [I64 (pf.getD num N0).1, I64 (pf.getD num N0).2.1, I64 (pf.getD num N0).2.2.1, I64 (pf.getD num N0).2.2.2.1, I64 (pf.getD num N0).2.2.2.2.1, I64 (pf.getD num N0).2.2.2.2.2.1]))), (28, .lit (.int .i64 ((pf.getD num N0).1)))], [(1000000000, .row 4 .bool true (sn.set num true))]⟩) ?_ (W.drawPh (id := 9) tys_ok [] mixed [0, 1, 2, 4, 8, 24, 40, 72, 136, 256, 768, 1280, 2304, 4352, 8192, 24576, 40960, 73728, 139264, 262144, 786432, 262144, 2359296, 4456448, 8650752, 18087936, 33816576, 67371008] [([0, 1, 2, 3, 4, 5, 6, 7, 8, 9, 10, 11, 12, 13, 14, 15, 16, 17, 18, 19, 20, 21, 22, 23, 24], 1, 67108863), ([26, 27], 0, 268435455)] (by decide +kernel) ?_); rotate_left; (conv => whnf))
 | (refine W.resub (x := Code.region 12 _ _) (Γ' := ⟨[(1, .st false (.arr NT pf)), (2, .lit (.int .i64 (num))), (3, .own 1000000000), (4, .st false (.sadr (.agg [I64 P, .arr JT l, .arr OT os]))), (9, .st true (.sadr (.agg [I64 (pf.getD num N0).1, I64 (pf.getD num N0).2.1, I64 (pf.getD num N0).2.2.1, I64 (pf.getD num N0).2.2.2.1, I64 (pf.getD num N0).2.2.2.2.1, I64 (pf.getD num N0).2.2.2.2.2.1]))), (28, .lit (.int .i64 ((pf.getD num N0).1))), (10, .st true (.sadr (.agg [I64 (os.getD (pf.getD num N0).2.1.toNat O0).1, I64 (os.getD (pf.getD num N0).2.1.toNat O0).2.1])))], [(1000000000, .row 4 .bool true (sn.set num true))]⟩) ?_ (W.drawPh (id := 12) tys_ok [] mixed [0, 1, 0, 4, 10, 16, 0, 64, 0, 256, 640, 1024, 0, 0, 12351, 32767] [([0, 1, 2, 3, 4, 5, 6, 7, 8, 9, 10, 11], 2, 16383), ([], 1, 32767), ([], 1, 65535)] (by decide +kernel) ?_); rotate_left; (conv => whnf))
 | (refine W.region tys_ok [] ?_; conv => whnf)
 | (refine W.drawAll tys_ok [] mixed rfl ?_; conv => whnf)
 | (refine W.ret ?_; conv => whnf)
 | (refine W.skip ?_; conv => whnf)
 | (refine W.exit ?_; conv => whnf)
 | (refine call_at (al := false) (in_at _ _ _) rfl rfl rfl rfl ?_; conv => whnf)
 | (refine Both.mk ?_ ?_ <;> (conv => whnf))
 | (refine W.cond rfl (fun hb => ?_) (fun hb => ?_) <;> (try simp only [Int.reduceToNat, Int.reduceTDiv, Int.reduceTMod, minL, maxL, pickB, zHB, zSH] at hb) <;> (try (first | (cases hb; done) | exact absurd hb (by decide) | (exfalso; omega) | (first | exact Bool.noConfusion (hb.symm.trans hs) | omega))))
 | ((with_reducible refine And.intro ?_ ?_); (focus (first | (with_reducible rfl) | omega | rfl | ((try simp only [Int.reduceToNat, Int.reduceTDiv, Int.reduceTMod, minL, maxL, pickB, zHB, zSH, InK, Path.imp, zL] at *); omega))); (conv => whnf))
 | ((with_reducible refine And.intro (Side.out ?_) ?_); rotate_left; (conv => whnf))
 | ((first | refine retM1 ?_ | refine retM2 ?_ | refine subF.leaf ?_ | refine subF.side ?_) <;> (conv => whnf) <;> repeat' (first
 | exact trivial
 | (with_reducible rfl)
 | ((with_reducible refine And.intro ?_ ?_) <;> conv => whnf)
 | omega
 | rfl
 | (refine congrArg (SV.arr _) ?_)
 | (refine congrArg (Value.int _) ?_)
 | (refine congrArg Value.bool ?_)))); all_goals (try unfold Side)
    all_goals try (repeat' (first | (with_reducible rfl) | (with_reducible refine And.intro ?_ ?_) | omega | rfl | exact Or.inl rfl | exact Or.inr rfl | exact of_decide_eq_true rfl | exact Path.imp_of (of_decide_eq_true rfl) | (focus ((try simp only [Int.reduceToNat, Int.reduceTDiv, Int.reduceTMod, minL, maxL, pickB, zHB, zSH, InK, Path.imp, zL] at *); omega)) | (refine app_le rfl ?_; omega)))
    all_goals try refine subF.ok ?_ <;> (conv => whnf) <;> repeat' (first
 | exact trivial
 | (with_reducible rfl)
 | ((with_reducible refine And.intro ?_ ?_) <;> conv => whnf)
 | omega
 | rfl
 | (refine congrArg (SV.arr _) ?_)
 | (refine congrArg (Value.int _) ?_)
 | (refine congrArg Value.bool ?_))
  · have hf : behindB l os (pf.getD num N0) = false := by
      rw [hbB, Bool.eq_false_iff]
      intro h
      simp only [Bool.and_eq_true, decide_eq_true_eq] at h
      exact hc ⟨h.1, h.2.1⟩
    rw [hf]
    refine FnM.of_body tys_ok Try.func42 (by rfl) rfl Try.ntmps42 (by rw [Try.results42]) (by simp) ?_
  
    repeat' (first
 | refine W.seq ?_
 | refine W.block ?_
 | (refine W.resub (x := Code.region 9 _ _) (Γ' := ⟨[(1, .st false (.arr NT pf)), (2, .lit (.int .i64 (num))), (3, .own 1000000000), (4, .st false (.sadr (.agg [I64 P, .arr JT l, .arr OT os]))), (9, .st true (.sadr (.agg [I64 (pf.getD num N0).1, I64 (pf.getD num N0).2.1, I64 (pf.getD num N0).2.2.1, I64 (pf.getD num N0).2.2.2.1, I64 (pf.getD num N0).2.2.2.2.1, I64 (pf.getD num N0).2.2.2.2.2.1]))), (28, .lit (.int .i64 ((pf.getD num N0).1)))], [(1000000000, .row 4 .bool true (sn.set num true))]⟩) ?_ (W.drawPh (id := 9) tys_ok [] mixed [0, 1, 2, 4, 8, 24, 40, 72, 136, 256, 768, 1280, 2304, 4352, 8192, 24576, 40960, 73728, 139264, 262144, 786432, 262144, 2359296, 4456448, 8650752, 18087936, 33816576, 67371008] [([0, 1, 2, 3, 4, 5, 6, 7, 8, 9, 10, 11, 12, 13, 14, 15, 16, 17, 18, 19, 20, 21, 22, 23, 24], 1, 67108863), ([26, 27], 0, 268435455)] (by decide +kernel) ?_); rotate_left; (conv => whnf))
 | (refine W.region tys_ok [] ?_; conv => whnf)
 | (refine W.drawAll tys_ok [] mixed rfl ?_; conv => whnf)
 | (refine W.ret ?_; conv => whnf)
 | (refine W.skip ?_; conv => whnf)
 | (refine W.exit ?_; conv => whnf)
 | (refine call_at (al := false) (in_at _ _ _) rfl rfl rfl rfl ?_; conv => whnf)
 | (refine Both.mk ?_ ?_ <;> (conv => whnf))
 | (refine W.cond rfl (fun hb => ?_) (fun hb => ?_) <;> (try simp only [Int.reduceToNat, Int.reduceTDiv, Int.reduceTMod, minL, maxL, pickB, zHB, zSH] at hb) <;> (try (first | (cases hb; done) | exact absurd hb (by decide) | (exfalso; omega) | (first | exact Bool.noConfusion (hb.symm.trans hs) | omega))))
 | ((with_reducible refine And.intro ?_ ?_); (focus (first | (with_reducible rfl) | omega | rfl | ((try simp only [Int.reduceToNat, Int.reduceTDiv, Int.reduceTMod, minL, maxL, pickB, zHB, zSH, InK, Path.imp, zL] at *); omega))); (conv => whnf))
 | ((with_reducible refine And.intro (Side.out ?_) ?_); rotate_left; (conv => whnf))
 | ((first | refine retM1 ?_ | refine retM2 ?_ | refine subF.leaf ?_ | refine subF.side ?_) <;> (conv => whnf) <;> repeat' (first
 | exact trivial
 | (with_reducible rfl)
 | ((with_reducible refine And.intro ?_ ?_) <;> conv => whnf)
 | omega
 | rfl
 | (refine congrArg (SV.arr _) ?_)
 | (refine congrArg (Value.int _) ?_)
 | (refine congrArg Value.bool ?_)))); all_goals (try unfold Side)
    all_goals try (repeat' (first | (with_reducible rfl) | (with_reducible refine And.intro ?_ ?_) | omega | rfl | exact Or.inl rfl | exact Or.inr rfl | exact of_decide_eq_true rfl | exact Path.imp_of (of_decide_eq_true rfl) | (focus ((try simp only [Int.reduceToNat, Int.reduceTDiv, Int.reduceTMod, minL, maxL, pickB, zHB, zSH, InK, Path.imp, zL] at *); omega)) | (refine app_le rfl ?_; omega)))
    all_goals try refine subF.ok ?_ <;> (conv => whnf) <;> repeat' (first
 | exact trivial
 | (with_reducible rfl)
 | ((with_reducible refine And.intro ?_ ?_) <;> conv => whnf)
 | omega
 | rfl
 | (refine congrArg (SV.arr _) ?_)
 | (refine congrArg (Value.int _) ?_)
 | (refine congrArg Value.bool ?_))
set_option maxHeartbeats 8000000 in
theorem rprovesN_at {P : Int} {os : List Od} {pf : List Nd} (hP : 0 ≤ P ∧ P ≤ 100) (hpf : pf.length ≤ 100000) {k num : Nat} {l : List Jb} {sn : List Bool} (hnum : num < pf.length) (hsn : sn.length = pf.length) (hbd : Bd l) (ho : Ords os l.length) (hs : sn.getD num false = false) (h1 : (pf.getD num N0).1 = 1) (hc : ¬ ((pf.getD num N0).2.2.2.1 = 0 ∧ (0 ≤ (pf.getD num N0).2.1 ∧ (pf.getD num N0).2.1 < l.length) ∧ (jf l (pf.getD num N0).2.1.toNat ≤ (pf.getD num N0).2.2.1 ∧ (pf.getD num N0).2.2.1 < jt l (pf.getD num N0).2.1.toNat - jl l (pf.getD num N0).2.1.toNat) ∧ (((num : Int) < (pf.getD num N0).2.2.2.2.1 ∧ (num : Int) < (pf.getD num N0).2.2.2.2.2.1) ∧ (pf.getD num N0).2.2.2.2.1 < pf.length ∧ (pf.getD num N0).2.2.2.2.2.1 < pf.length))) :
    FnM Try.prog 42 [.st false (.agg [I64 P, .arr JT l, .arr OT os]), .st false (.arr NT pf), .lit (.int .i64 num), .own 1000000000] [(1000000000, .row 4 .bool true sn)] (.lit (.bool (pvT P os pf (k + 1) num l sn).1)) [(1000000000, .row 4 .bool true (pvT P os pf (k + 1) num l sn).2)] := by
  have hll : @List.length JT.T l = l.length := rfl
  have hlp : @List.length NT.T pf = pf.length := rfl
  have hlo : @List.length OT.T os = os.length := rfl
  have hls : @List.length Ty.bool.T sn = pf.length := hsn
  have hol := ho.1
  have hjl := hbd.len
  rw [pv_nosplit hs h1 (by rw [Bool.eq_false_iff]; intro h; exact hc (split_iff.1 h))]
  have hrj := fun h => hbd.rg (pf.getD num N0).2.1.toNat h
  by_cases hq : 0 ≤ (pf.getD num N0).2.1 ∧ (pf.getD num N0).2.1 < l.length
  · have hrj := hrj (by omega)
    unfold jf jt jl jp at hrj
    unfold jf jt jl at hc
    refine FnM.of_body tys_ok Try.func42 (by rfl) rfl Try.ntmps42 (by rw [Try.results42]) (by simp) ?_
  
    repeat' (first
 | refine W.seq ?_
 | refine W.block ?_
 | (refine W.resub (x := Code.region 15 _ _) (Γ' := ⟨[(1, .st false (.arr NT pf)), (2, .lit (.int .i64 (num))), (3, .own 1000000000), (4, .st false (.sadr (.agg [I64 P, .arr JT l, .arr OT os]))), (9, .st true (.sadr (.agg [I64 (pf.getD num N0).1, I64 (pf.getD num N0).2.1, I64 (pf.getD num N0).2.2.1, I64 (pf.getD num N0).2.2.2.1, I64 (pf.getD num N0).2.2.2.2.1, I64 (pf.getD num N0).2.2.2.2.2.1]))), (28, .lit (.int .i64 ((pf.getD num N0).1)))], [(1000000000, .row 4 .bool true (sn.set num true))]⟩) ?_ (W.drawPh (id := 15) tys_ok [] mixed [0, 1, 2, 4, 8, 24, 8, 72, 136, 264, 552, 1032, 2056, 5120, 8192, 24576, 8192, 73728, 8192, 270336, 532480, 1220608, 2105344, 4202496, 10485760, 16777216, 50331648, 16777216, 150994944, 16777216, 553648128, 1090519040, 2499805184, 4311744512, 8606711808] [([0, 1, 2, 3, 4, 5, 6, 7, 8, 9], 1, 2047), ([11, 12, 13, 14, 15, 16, 17, 18, 19, 20], 1, 4194303), ([22, 23, 24, 25, 26, 27, 28, 29, 30, 31], 1, 8589934591), ([33, 34], 0, 34359738367)] (by decide +kernel) ?_); rotate_left; (conv => whnf))
 | (refine W.resub (x := Code.region 18 _ _) (Γ' := ⟨[(1, .st false (.arr NT pf)), (2, .lit (.int .i64 (num))), (3, .own 1000000000), (4, .st false (.sadr (.agg [I64 P, .arr JT l, .arr OT os]))), (9, .st true (.sadr (.agg [I64 (pf.getD num N0).1, I64 (pf.getD num N0).2.1, I64 (pf.getD num N0).2.2.1, I64 (pf.getD num N0).2.2.2.1, I64 (pf.getD num N0).2.2.2.2.1, I64 (pf.getD num N0).2.2.2.2.2.1]))), (28, .lit (.int .i64 ((pf.getD num N0).1))), (13, .st true (.sadr (.agg [I64 (l.getD (pf.getD num N0).2.1.toNat J0).1, I64 (l.getD (pf.getD num N0).2.1.toNat J0).2.1, I64 (l.getD (pf.getD num N0).2.1.toNat J0).2.2.1, I64 (l.getD (pf.getD num N0).2.1.toNat J0).2.2.2.1])))], [(1000000000, .row 4 .bool true (sn.set num true))]⟩) ?_ (W.drawPh (id := 18) tys_ok [] mixed [0, 1, 0, 4, 10, 16, 32, 96, 32, 288, 32, 1056, 2592, 4256, 8224] [([0, 1, 2, 3, 4, 5, 6, 7, 8, 9, 10, 11, 12, 13, 14], 0, 32767)] (by decide +kernel) ?_); rotate_left; (conv => whnf))
 | (refine W.region tys_ok [] ?_; conv => whnf)
 | (refine W.drawAll tys_ok [] mixed rfl ?_; conv => whnf)
 | (refine W.ret ?_; conv => whnf)
 | (refine W.skip ?_; conv => whnf)
 | (refine W.exit ?_; conv => whnf)
 | (refine call_at (al := false) (in_at _ _ _) rfl rfl rfl rfl ?_; conv => whnf)
 | (refine Both.mk ?_ ?_ <;> (conv => whnf))
 | (refine W.cond rfl (fun hb => ?_) (fun hb => ?_) <;> (try simp only [Int.reduceToNat, Int.reduceTDiv, Int.reduceTMod, minL, maxL, pickB, zHB, zSH] at hb) <;> (try (first | (cases hb; done) | exact absurd hb (by decide) | (exfalso; omega) | (first | exact Bool.noConfusion (hb.symm.trans hs) | omega))))
 | ((with_reducible refine And.intro ?_ ?_); (focus (first | (with_reducible rfl) | omega | rfl | ((try simp only [Int.reduceToNat, Int.reduceTDiv, Int.reduceTMod, minL, maxL, pickB, zHB, zSH, InK, Path.imp, zL] at *); omega))); (conv => whnf))
 | ((with_reducible refine And.intro (Side.out ?_) ?_); rotate_left; (conv => whnf))
 | ((first | refine retM1 ?_ | refine retM2 ?_ | refine subF.leaf ?_ | refine subF.side ?_) <;> (conv => whnf) <;> repeat' (first
 | exact trivial
 | (with_reducible rfl)
 | ((with_reducible refine And.intro ?_ ?_) <;> conv => whnf)
 | omega
 | rfl
 | (refine congrArg (SV.arr _) ?_)
 | (refine congrArg (Value.int _) ?_)
 | (refine congrArg Value.bool ?_)))); all_goals (try unfold Side)
    all_goals try (repeat' (first | (with_reducible rfl) | (with_reducible refine And.intro ?_ ?_) | omega | rfl | exact Or.inl rfl | exact Or.inr rfl | exact of_decide_eq_true rfl | exact Path.imp_of (of_decide_eq_true rfl) | (focus ((try simp only [Int.reduceToNat, Int.reduceTDiv, Int.reduceTMod, minL, maxL, pickB, zHB, zSH, InK, Path.imp, zL] at *); omega)) | (refine app_le rfl ?_; omega)))
    all_goals try refine subF.ok ?_ <;> (conv => whnf) <;> repeat' (first
 | exact trivial
 | (with_reducible rfl)
 | ((with_reducible refine And.intro ?_ ?_) <;> conv => whnf)
 | omega
 | rfl
 | (refine congrArg (SV.arr _) ?_)
 | (refine congrArg (Value.int _) ?_)
 | (refine congrArg Value.bool ?_))
  · refine FnM.of_body tys_ok Try.func42 (by rfl) rfl Try.ntmps42 (by rw [Try.results42]) (by simp) ?_
  
    repeat' (first
 | refine W.seq ?_
 | refine W.block ?_
 | (refine W.resub (x := Code.region 15 _ _) (Γ' := ⟨[(1, .st false (.arr NT pf)), (2, .lit (.int .i64 (num))), (3, .own 1000000000), (4, .st false (.sadr (.agg [I64 P, .arr JT l, .arr OT os]))), (9, .st true (.sadr (.agg [I64 (pf.getD num N0).1, I64 (pf.getD num N0).2.1, I64 (pf.getD num N0).2.2.1, I64 (pf.getD num N0).2.2.2.1, I64 (pf.getD num N0).2.2.2.2.1, I64 (pf.getD num N0).2.2.2.2.2.1]))), (28, .lit (.int .i64 ((pf.getD num N0).1)))], [(1000000000, .row 4 .bool true (sn.set num true))]⟩) ?_ (W.drawPh (id := 15) tys_ok [] mixed [0, 1, 2, 4, 8, 24, 8, 72, 136, 264, 552, 1032, 2056, 5120, 8192, 24576, 8192, 73728, 8192, 270336, 532480, 1220608, 2105344, 4202496, 10485760, 16777216, 50331648, 16777216, 150994944, 16777216, 553648128, 1090519040, 2499805184, 4311744512, 8606711808] [([0, 1, 2, 3, 4, 5, 6, 7, 8, 9], 1, 2047), ([11, 12, 13, 14, 15, 16, 17, 18, 19, 20], 1, 4194303), ([22, 23, 24, 25, 26, 27, 28, 29, 30, 31], 1, 8589934591), ([33, 34], 0, 34359738367)] (by decide +kernel) ?_); rotate_left; (conv => whnf))
 | (refine W.region tys_ok [] ?_; conv => whnf)
 | (refine W.drawAll tys_ok [] mixed rfl ?_; conv => whnf)
 | (refine W.ret ?_; conv => whnf)
 | (refine W.skip ?_; conv => whnf)
 | (refine W.exit ?_; conv => whnf)
 | (refine call_at (al := false) (in_at _ _ _) rfl rfl rfl rfl ?_; conv => whnf)
 | (refine Both.mk ?_ ?_ <;> (conv => whnf))
 | (refine W.cond rfl (fun hb => ?_) (fun hb => ?_) <;> (try simp only [Int.reduceToNat, Int.reduceTDiv, Int.reduceTMod, minL, maxL, pickB, zHB, zSH] at hb) <;> (try (first | (cases hb; done) | exact absurd hb (by decide) | (exfalso; omega) | (first | exact Bool.noConfusion (hb.symm.trans hs) | omega))))
 | ((with_reducible refine And.intro ?_ ?_); (focus (first | (with_reducible rfl) | omega | rfl | ((try simp only [Int.reduceToNat, Int.reduceTDiv, Int.reduceTMod, minL, maxL, pickB, zHB, zSH, InK, Path.imp, zL] at *); omega))); (conv => whnf))
 | ((with_reducible refine And.intro (Side.out ?_) ?_); rotate_left; (conv => whnf))
 | ((first | refine retM1 ?_ | refine retM2 ?_ | refine subF.leaf ?_ | refine subF.side ?_) <;> (conv => whnf) <;> repeat' (first
 | exact trivial
 | (with_reducible rfl)
 | ((with_reducible refine And.intro ?_ ?_) <;> conv => whnf)
 | omega
 | rfl
 | (refine congrArg (SV.arr _) ?_)
 | (refine congrArg (Value.int _) ?_)
 | (refine congrArg Value.bool ?_)))); all_goals (try unfold Side)
    all_goals try (repeat' (first | (with_reducible rfl) | (with_reducible refine And.intro ?_ ?_) | omega | rfl | exact Or.inl rfl | exact Or.inr rfl | exact of_decide_eq_true rfl | exact Path.imp_of (of_decide_eq_true rfl) | (focus ((try simp only [Int.reduceToNat, Int.reduceTDiv, Int.reduceTMod, minL, maxL, pickB, zHB, zSH, InK, Path.imp, zL] at *); omega)) | (refine app_le rfl ?_; omega)))
    all_goals try refine subF.ok ?_ <;> (conv => whnf) <;> repeat' (first
 | exact trivial
 | (with_reducible rfl)
 | ((with_reducible refine And.intro ?_ ?_) <;> conv => whnf)
 | omega
 | rfl
 | (refine congrArg (SV.arr _) ?_)
 | (refine congrArg (Value.int _) ?_)
 | (refine congrArg Value.bool ?_))
end Go.Proofs.Ytmfholchenihaaa

