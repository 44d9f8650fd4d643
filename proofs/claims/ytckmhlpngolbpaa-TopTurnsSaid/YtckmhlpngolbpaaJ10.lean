/- Joined of: H15 H16. No condition. -/
import Derived.Test.YtckmhlpngolbpaaJ9
import Derived.Test.YtckmhlpngolbpaaJ7
set_option linter.unusedVariables false
set_option linter.unusedSimpArgs false
namespace Go.Proofs.Ytckmhlpngolbpaa
open Int renaming reduceToNat → zr, reduceTDiv → zd, reduceTMod → zm
open Go Go.Vc Go.Sh
theorem part_bd {l : List Jb} (h : Bd l) {j : Nat} {a : Int} (hj : j < l.length) (ha : jf l j ≤ a ∧ a < jt l j - jl l j) : Bd (partL l j a) ∧ Bd (partR l j a) ∧ (partL l j a).length = l.length ∧ (partR l j a).length = l.length := by
 have hl1 : (partL l j a).length = l.length := by simp [partL]
 have hl2 : (partR l j a).length = l.length := by simp [partR]
 have hrj := h.rg j hj
 refine ⟨⟨by rw [hl1]; exact h.len, fun m hm => ?_⟩, ⟨by rw [hl2]; exact h.len, fun m hm => ?_⟩, hl1, hl2⟩
 · rw [hl1] at hm
   have hr := h.rg m hm
   obtain ⟨e1, e2, e3, e4⟩ := set_job (m := m) (f := jf l j) (t := a + jl l j) hj
   unfold partL
   rw [e1, e2, e3, e4]
   by_cases e : m = j
   · subst e; rw [if_pos rfl, if_pos rfl]; omega
   · rw [if_neg e, if_neg e]; exact hr
 · rw [hl2] at hm
   have hr := h.rg m hm
   obtain ⟨e1, e2, e3, e4⟩ := set_job (m := m) (f := a + 1) (t := jt l j) hj
   unfold partR
   rw [e1, e2, e3, e4]
   by_cases e : m = j
   · subst e; rw [if_pos rfl, if_pos rfl]; omega
   · rw [if_neg e, if_neg e]; exact hr
set_option maxHeartbeats 8000000 in
theorem proves0_at {P : Int} {l0 : List Jb} {os : List Od} {pf : List Nd} (hP : 0 ≤ P ∧ P ≤ 100) (hpf : pf.length ≤ 100000) {k num : Nat} {l : List Jb} {sn : List Bool} (hnum : num < pf.length) (hsn : sn.length = pf.length) (hbd : Bd l) (ho : Ords os l.length) (hs : sn.getD num false = true) :
  FnM Try.prog 27 [.st false (.agg [I64 P, .arr JT l0, .arr OT os]), .st false (.arr NT pf), .lit (.int .i64 num), .st false (.arr JT l), .own 1000000000] [(1000000000, .row 4 .bool true sn)] (.lit (.bool (pvT P os pf (k + 1) num l sn).1)) [(1000000000, .row 4 .bool true (pvT P os pf (k + 1) num l sn).2)] := by
 have hll : @List.length JT.T l = l.length := rfl
 have hlp : @List.length NT.T pf = pf.length := rfl
 have hls : @List.length Ty.bool.T sn = pf.length := hsn
 rw [pv_seen hs]
 refine FnM.of_body tys_ok Try.func27 (by rfl) rfl Try.ntmps27 (by rw [Try.results27]) (by simp) ?_
 repeat' (first
 | refine W.seq ?_
 | refine W.block ?_
 | (refine W.region tys_ok [] ?_; conv => whnf)
 | (refine W.drawAll tys_ok [] mixed rfl ?_; conv => whnf)
 | (refine W.ret ?_; conv => whnf)
 | (refine W.skip ?_; conv => whnf)
 | (refine W.exit ?_; conv => whnf)
 | (refine W.cond rfl (fun hb => ?_) (fun hb => ?_) <;> (try simp only [zr, zd, zm, minL, maxL, pickB, zA] at hb) <;> (try (first | (cases hb; done) | exact absurd hb (by decide) | (exfalso; omega) | (exact Bool.noConfusion (hb.symm.trans hs)))))
 | ((with_reducible refine And.intro ?_ ?_); exact zc; conv => whnf)
 | ((with_reducible refine And.intro (Side.out ?_) ?_); rotate_left; (conv => whnf))
 | ((first | refine retM1 ?_ | refine retM2 ?_) <;> (conv => whnf) <;> repeat' (first
 | exact trivial
 | (with_reducible rfl)
 | ((with_reducible refine And.intro ?_ ?_) <;> conv => whnf)
 | omega
 | rfl
 | (refine congrArg (SV.arr _) ?_)
 | (refine congrArg (Value.int _) ?_)
 | (refine congrArg Value.bool ?_)))); all_goals (try unfold Side)
 all_goals try (repeat' (first | exact zb | with_reducible refine And.intro ?_ ?_))
set_option maxHeartbeats 8000000 in
theorem provesE_at {P : Int} {l0 : List Jb} {os : List Od} {pf : List Nd} (hP : 0 ≤ P ∧ P ≤ 100) (hpf : pf.length ≤ 100000) {k num : Nat} {l : List Jb} {sn : List Bool} (hnum : num < pf.length) (hsn : sn.length = pf.length) (hbd : Bd l) (ho : Ords os l.length) (hs : sn.getD num false = false) (h1 : (pf.getD num N0).1 ≠ 1) (h2 : (pf.getD num N0).1 ≠ 2) (h3 : (pf.getD num N0).1 ≠ 3) :
  FnM Try.prog 27 [.st false (.agg [I64 P, .arr JT l0, .arr OT os]), .st false (.arr NT pf), .lit (.int .i64 num), .st false (.arr JT l), .own 1000000000] [(1000000000, .row 4 .bool true sn)] (.lit (.bool (pvT P os pf (k + 1) num l sn).1)) [(1000000000, .row 4 .bool true (pvT P os pf (k + 1) num l sn).2)] := by
 have hll : @List.length JT.T l = l.length := rfl
 have hlp : @List.length NT.T pf = pf.length := rfl
 have hls : @List.length Ty.bool.T sn = pf.length := hsn
 rw [pv_else hs h1 h2 h3]
 have hrd := read_no (j := (pf.getD num N0).2.1) (a := (pf.getD num N0).2.2.1) (b := (pf.getD num N0).2.2.2.1) (lf := (pf.getD num N0).2.2.2.2.1) (rt := (pf.getD num N0).2.2.2.2.2.1) h1 h2 h3
 refine FnM.of_body tys_ok Try.func27 (by rfl) rfl Try.ntmps27 (by rw [Try.results27]) (by simp) ?_
 repeat' (first
 | refine W.seq ?_
 | refine W.block ?_
 | (refine W.region tys_ok [] ?_; conv => whnf)
 | (refine W.drawAll tys_ok [] mixed rfl ?_; conv => whnf)
 | (refine W.ret ?_; conv => whnf)
 | (refine W.skip ?_; conv => whnf)
 | (refine W.exit ?_; conv => whnf)
 | (refine call_at (al := false) (hrd) rfl rfl rfl rfl ?_; conv => whnf)
 | (refine W.cond rfl (fun hb => ?_) (fun hb => ?_) <;> (try simp only [zr, zd, zm, minL, maxL, pickB, zA] at hb) <;> (try (first | (cases hb; done) | exact absurd hb (by decide) | (exfalso; omega) | (exact Bool.noConfusion (hb.symm.trans hs)))))
 | ((with_reducible refine And.intro ?_ ?_); exact zc; conv => whnf)
 | ((with_reducible refine And.intro (Side.out ?_) ?_); rotate_left; (conv => whnf))
 | ((first | refine retM1 ?_ | refine retM2 ?_) <;> (conv => whnf) <;> repeat' (first
 | exact trivial
 | (with_reducible rfl)
 | ((with_reducible refine And.intro ?_ ?_) <;> conv => whnf)
 | omega
 | rfl
 | (refine congrArg (SV.arr _) ?_)
 | (refine congrArg (Value.int _) ?_)
 | (refine congrArg Value.bool ?_)))); all_goals (try unfold Side)
 all_goals try (repeat' (first | exact zb | with_reducible refine And.intro ?_ ?_))
set_option maxHeartbeats 8000000 in
theorem proves3_at {P : Int} {l0 : List Jb} {os : List Od} {pf : List Nd} (hP : 0 ≤ P ∧ P ≤ 100) (hpf : pf.length ≤ 100000) {k num : Nat} {l : List Jb} {sn : List Bool} (hnum : num < pf.length) (hsn : sn.length = pf.length) (hbd : Bd l) (ho : Ords os l.length) (hs : sn.getD num false = false) (h3 : (pf.getD num N0).1 = 3) :
  FnM Try.prog 27 [.st false (.agg [I64 P, .arr JT l0, .arr OT os]), .st false (.arr NT pf), .lit (.int .i64 num), .st false (.arr JT l), .own 1000000000] [(1000000000, .row 4 .bool true sn)] (.lit (.bool (pvT P os pf (k + 1) num l sn).1)) [(1000000000, .row 4 .bool true (pvT P os pf (k + 1) num l sn).2)] := by
 have hll : @List.length JT.T l = l.length := rfl
 have hlp : @List.length NT.T pf = pf.length := rfl
 have hls : @List.length Ty.bool.T sn = pf.length := hsn
 rw [pv_behind hs h3]
 by_cases hz : (pf.getD num N0).2.2.1 = 0 ∧ (pf.getD num N0).2.2.2.1 = 0 ∧ (pf.getD num N0).2.2.2.2.1 = 0 ∧ (pf.getD num N0).2.2.2.2.2.1 = 0
 · have hrd : FnAt Try.prog false 53 [.agg [I64 (pf.getD num N0).1, I64 (pf.getD num N0).2.1, I64 (pf.getD num N0).2.2.1, I64 (pf.getD num N0).2.2.2.1, I64 (pf.getD num N0).2.2.2.2.1, I64 (pf.getD num N0).2.2.2.2.2.1]] (.st true (.ifc 120 (.agg [I64 (pf.getD num N0).2.1]))) [] := by
    rw [h3, hz.1, hz.2.1, hz.2.2.1, hz.2.2.2]; exact read3_at
   have hbh := behind_at (P := P) (l0 := l0) hbd ho (j := (pf.getD num N0).2.1)
   have hbB : behindB l os (pf.getD num N0) = (decide (0 ≤ (pf.getD num N0).2.1 ∧ (pf.getD num N0).2.1 < os.length) && lateT l (os.getD (pf.getD num N0).2.1.toNat O0)) := by
    unfold behindB Nd.a Nd.b Nd.lf Nd.rt Nd.job
    rw [decide_eq_true hz, Bool.true_and]
   rw [← hbB] at hbh
   obtain ⟨B, hB⟩ : ∃ B, B = behindB l os (pf.getD num N0) := ⟨_, rfl⟩
   rw [← hB] at hbh ⊢
   clear hbB hB
   cases B with
   | true =>
    refine FnM.of_body tys_ok Try.func27 (by rfl) rfl Try.ntmps27 (by rw [Try.results27]) (by simp) ?_
    repeat' (first
 | refine W.seq ?_
 | refine W.block ?_
 | (refine W.region tys_ok [] ?_; conv => whnf)
 | (refine W.drawAll tys_ok [] mixed rfl ?_; conv => whnf)
 | (refine W.ret ?_; conv => whnf)
 | (refine W.skip ?_; conv => whnf)
 | (refine W.exit ?_; conv => whnf)
 | (refine call_at (al := false) (hrd) rfl rfl rfl rfl ?_; conv => whnf)
 | (refine invoke_at (al := false) (meth120_106) (hbh) rfl rfl rfl rfl ?_; conv => whnf)
 | (refine W.cond rfl (fun hb => ?_) (fun hb => ?_) <;> (try simp only [zr, zd, zm, minL, maxL, pickB, zA] at hb) <;> (try (first | (cases hb; done) | exact absurd hb (by decide) | (exfalso; omega) | (exact Bool.noConfusion (hb.symm.trans hs)))))
 | ((with_reducible refine And.intro ?_ ?_); exact zc; conv => whnf)
 | ((with_reducible refine And.intro (Side.out ?_) ?_); rotate_left; (conv => whnf))
 | ((first | refine retM1 ?_ | refine retM2 ?_) <;> (conv => whnf) <;> repeat' (first
 | exact trivial
 | (with_reducible rfl)
 | ((with_reducible refine And.intro ?_ ?_) <;> conv => whnf)
 | omega
 | rfl
 | (refine congrArg (SV.arr _) ?_)
 | (refine congrArg (Value.int _) ?_)
 | (refine congrArg Value.bool ?_)))); all_goals (try unfold Side)
    all_goals try (repeat' (first | exact zb | with_reducible refine And.intro ?_ ?_))
   | false =>
    refine FnM.of_body tys_ok Try.func27 (by rfl) rfl Try.ntmps27 (by rw [Try.results27]) (by simp) ?_
    repeat' (first
 | refine W.seq ?_
 | refine W.block ?_
 | (refine W.region tys_ok [] ?_; conv => whnf)
 | (refine W.drawAll tys_ok [] mixed rfl ?_; conv => whnf)
 | (refine W.ret ?_; conv => whnf)
 | (refine W.skip ?_; conv => whnf)
 | (refine W.exit ?_; conv => whnf)
 | (refine call_at (al := false) (hrd) rfl rfl rfl rfl ?_; conv => whnf)
 | (refine invoke_at (al := false) (meth120_106) (hbh) rfl rfl rfl rfl ?_; conv => whnf)
 | (refine W.cond rfl (fun hb => ?_) (fun hb => ?_) <;> (try simp only [zr, zd, zm, minL, maxL, pickB, zA] at hb) <;> (try (first | (cases hb; done) | exact absurd hb (by decide) | (exfalso; omega) | (exact Bool.noConfusion (hb.symm.trans hs)))))
 | ((with_reducible refine And.intro ?_ ?_); exact zc; conv => whnf)
 | ((with_reducible refine And.intro (Side.out ?_) ?_); rotate_left; (conv => whnf))
 | ((first | refine retM1 ?_ | refine retM2 ?_) <;> (conv => whnf) <;> repeat' (first
 | exact trivial
 | (with_reducible rfl)
 | ((with_reducible refine And.intro ?_ ?_) <;> conv => whnf)
 | omega
 | rfl
 | (refine congrArg (SV.arr _) ?_)
 | (refine congrArg (Value.int _) ?_)
 | (refine congrArg Value.bool ?_)))); all_goals (try unfold Side)
    all_goals try (repeat' (first | exact zb | with_reducible refine And.intro ?_ ?_))
 · have hrd : FnAt Try.prog false 53 [.agg [I64 (pf.getD num N0).1, I64 (pf.getD num N0).2.1, I64 (pf.getD num N0).2.2.1, I64 (pf.getD num N0).2.2.2.1, I64 (pf.getD num N0).2.2.2.2.1, I64 (pf.getD num N0).2.2.2.2.2.1]] (.lit .nilIface) [] := by
    rw [h3]; exact read3_no hz
   have hbB : behindB l os (pf.getD num N0) = false := by
    unfold behindB Nd.a Nd.b Nd.lf Nd.rt
    rw [decide_eq_false hz, Bool.false_and]
   rw [hbB]
   refine FnM.of_body tys_ok Try.func27 (by rfl) rfl Try.ntmps27 (by rw [Try.results27]) (by simp) ?_
   repeat' (first
 | refine W.seq ?_
 | refine W.block ?_
 | (refine W.region tys_ok [] ?_; conv => whnf)
 | (refine W.drawAll tys_ok [] mixed rfl ?_; conv => whnf)
 | (refine W.ret ?_; conv => whnf)
 | (refine W.skip ?_; conv => whnf)
 | (refine W.exit ?_; conv => whnf)
 | (refine call_at (al := false) (hrd) rfl rfl rfl rfl ?_; conv => whnf)
 | (refine W.cond rfl (fun hb => ?_) (fun hb => ?_) <;> (try simp only [zr, zd, zm, minL, maxL, pickB, zA] at hb) <;> (try (first | (cases hb; done) | exact absurd hb (by decide) | (exfalso; omega) | (exact Bool.noConfusion (hb.symm.trans hs)))))
 | ((with_reducible refine And.intro ?_ ?_); exact zc; conv => whnf)
 | ((with_reducible refine And.intro (Side.out ?_) ?_); rotate_left; (conv => whnf))
 | ((first | refine retM1 ?_ | refine retM2 ?_) <;> (conv => whnf) <;> repeat' (first
 | exact trivial
 | (with_reducible rfl)
 | ((with_reducible refine And.intro ?_ ?_) <;> conv => whnf)
 | omega
 | rfl
 | (refine congrArg (SV.arr _) ?_)
 | (refine congrArg (Value.int _) ?_)
 | (refine congrArg Value.bool ?_)))); all_goals (try unfold Side)
   all_goals try (repeat' (first | exact zb | with_reducible refine And.intro ?_ ?_))
set_option maxHeartbeats 8000000 in
theorem proves2_at {P : Int} {l0 : List Jb} {os : List Od} {pf : List Nd} (hP : 0 ≤ P ∧ P ≤ 100) (hpf : pf.length ≤ 100000) {k num : Nat} {l : List Jb} {sn : List Bool} (hnum : num < pf.length) (hsn : sn.length = pf.length) (hbd : Bd l) (ho : Ords os l.length) (hs : sn.getD num false = false) (h2 : (pf.getD num N0).1 = 2) :
  FnM Try.prog 27 [.st false (.agg [I64 P, .arr JT l0, .arr OT os]), .st false (.arr NT pf), .lit (.int .i64 num), .st false (.arr JT l), .own 1000000000] [(1000000000, .row 4 .bool true sn)] (.lit (.bool (pvT P os pf (k + 1) num l sn).1)) [(1000000000, .row 4 .bool true (pvT P os pf (k + 1) num l sn).2)] := by
 have hll : @List.length JT.T l = l.length := rfl
 have hlp : @List.length NT.T pf = pf.length := rfl
 have hls : @List.length Ty.bool.T sn = pf.length := hsn
 rw [pv_crowd hs h2]
 by_cases hz : (pf.getD num N0).2.1 = 0 ∧ (pf.getD num N0).2.2.2.2.1 = 0 ∧ (pf.getD num N0).2.2.2.2.2.1 = 0
 · have hrd : FnAt Try.prog false 53 [.agg [I64 (pf.getD num N0).1, I64 (pf.getD num N0).2.1, I64 (pf.getD num N0).2.2.1, I64 (pf.getD num N0).2.2.2.1, I64 (pf.getD num N0).2.2.2.2.1, I64 (pf.getD num N0).2.2.2.2.2.1]] (.st true (.ifc 118 (.agg [I64 (pf.getD num N0).2.2.1, I64 (pf.getD num N0).2.2.2.1]))) [] := by
    rw [h2, hz.1, hz.2.1, hz.2.2]; exact read2_at
   have hbh := crowd_at (os := os) (l0 := l0) hbd hP (a := (pf.getD num N0).2.2.1) (b := (pf.getD num N0).2.2.2.1)
   have hbB : crowdB P l (pf.getD num N0) = (decide (0 ≤ (pf.getD num N0).2.2.1 ∧ (pf.getD num N0).2.2.1 < (pf.getD num N0).2.2.2.1 ∧ (pf.getD num N0).2.2.2.1 ≤ 24) && decide (P * ((pf.getD num N0).2.2.2.1 - (pf.getD num N0).2.2.1) < needsT l (pf.getD num N0).2.2.1 (pf.getD num N0).2.2.2.1)) := by
    unfold crowdB Nd.a Nd.b Nd.lf Nd.rt Nd.job
    rw [decide_eq_true hz, Bool.true_and]
   rw [← hbB] at hbh
   obtain ⟨B, hB⟩ : ∃ B, B = crowdB P l (pf.getD num N0) := ⟨_, rfl⟩
   rw [← hB] at hbh ⊢
   clear hbB hB
   cases B with
   | true =>
    refine FnM.of_body tys_ok Try.func27 (by rfl) rfl Try.ntmps27 (by rw [Try.results27]) (by simp) ?_
    repeat' (first
 | refine W.seq ?_
 | refine W.block ?_
 | (refine W.region tys_ok [] ?_; conv => whnf)
 | (refine W.drawAll tys_ok [] mixed rfl ?_; conv => whnf)
 | (refine W.ret ?_; conv => whnf)
 | (refine W.skip ?_; conv => whnf)
 | (refine W.exit ?_; conv => whnf)
 | (refine call_at (al := false) (hrd) rfl rfl rfl rfl ?_; conv => whnf)
 | (refine invoke_at (al := false) (meth118_105) (hbh) rfl rfl rfl rfl ?_; conv => whnf)
 | (refine W.cond rfl (fun hb => ?_) (fun hb => ?_) <;> (try simp only [zr, zd, zm, minL, maxL, pickB, zA] at hb) <;> (try (first | (cases hb; done) | exact absurd hb (by decide) | (exfalso; omega) | (exact Bool.noConfusion (hb.symm.trans hs)))))
 | ((with_reducible refine And.intro ?_ ?_); exact zc; conv => whnf)
 | ((with_reducible refine And.intro (Side.out ?_) ?_); rotate_left; (conv => whnf))
 | ((first | refine retM1 ?_ | refine retM2 ?_) <;> (conv => whnf) <;> repeat' (first
 | exact trivial
 | (with_reducible rfl)
 | ((with_reducible refine And.intro ?_ ?_) <;> conv => whnf)
 | omega
 | rfl
 | (refine congrArg (SV.arr _) ?_)
 | (refine congrArg (Value.int _) ?_)
 | (refine congrArg Value.bool ?_)))); all_goals (try unfold Side)
    all_goals try (repeat' (first | exact zb | with_reducible refine And.intro ?_ ?_))
   | false =>
    refine FnM.of_body tys_ok Try.func27 (by rfl) rfl Try.ntmps27 (by rw [Try.results27]) (by simp) ?_
    repeat' (first
 | refine W.seq ?_
 | refine W.block ?_
 | (refine W.region tys_ok [] ?_; conv => whnf)
 | (refine W.drawAll tys_ok [] mixed rfl ?_; conv => whnf)
 | (refine W.ret ?_; conv => whnf)
 | (refine W.skip ?_; conv => whnf)
 | (refine W.exit ?_; conv => whnf)
 | (refine call_at (al := false) (hrd) rfl rfl rfl rfl ?_; conv => whnf)
 | (refine invoke_at (al := false) (meth118_105) (hbh) rfl rfl rfl rfl ?_; conv => whnf)
 | (refine W.cond rfl (fun hb => ?_) (fun hb => ?_) <;> (try simp only [zr, zd, zm, minL, maxL, pickB, zA] at hb) <;> (try (first | (cases hb; done) | exact absurd hb (by decide) | (exfalso; omega) | (exact Bool.noConfusion (hb.symm.trans hs)))))
 | ((with_reducible refine And.intro ?_ ?_); exact zc; conv => whnf)
 | ((with_reducible refine And.intro (Side.out ?_) ?_); rotate_left; (conv => whnf))
 | ((first | refine retM1 ?_ | refine retM2 ?_) <;> (conv => whnf) <;> repeat' (first
 | exact trivial
 | (with_reducible rfl)
 | ((with_reducible refine And.intro ?_ ?_) <;> conv => whnf)
 | omega
 | rfl
 | (refine congrArg (SV.arr _) ?_)
 | (refine congrArg (Value.int _) ?_)
 | (refine congrArg Value.bool ?_)))); all_goals (try unfold Side)
    all_goals try (repeat' (first | exact zb | with_reducible refine And.intro ?_ ?_))
 · have hrd : FnAt Try.prog false 53 [.agg [I64 (pf.getD num N0).1, I64 (pf.getD num N0).2.1, I64 (pf.getD num N0).2.2.1, I64 (pf.getD num N0).2.2.2.1, I64 (pf.getD num N0).2.2.2.2.1, I64 (pf.getD num N0).2.2.2.2.2.1]] (.lit .nilIface) [] := by
    rw [h2]; exact read2_no hz
   have hbB : crowdB P l (pf.getD num N0) = false := by
    unfold crowdB Nd.lf Nd.rt Nd.job
    rw [decide_eq_false hz, Bool.false_and]
   rw [hbB]
   refine FnM.of_body tys_ok Try.func27 (by rfl) rfl Try.ntmps27 (by rw [Try.results27]) (by simp) ?_
   repeat' (first
 | refine W.seq ?_
 | refine W.block ?_
 | (refine W.region tys_ok [] ?_; conv => whnf)
 | (refine W.drawAll tys_ok [] mixed rfl ?_; conv => whnf)
 | (refine W.ret ?_; conv => whnf)
 | (refine W.skip ?_; conv => whnf)
 | (refine W.exit ?_; conv => whnf)
 | (refine call_at (al := false) (hrd) rfl rfl rfl rfl ?_; conv => whnf)
 | (refine W.cond rfl (fun hb => ?_) (fun hb => ?_) <;> (try simp only [zr, zd, zm, minL, maxL, pickB, zA] at hb) <;> (try (first | (cases hb; done) | exact absurd hb (by decide) | (exfalso; omega) | (exact Bool.noConfusion (hb.symm.trans hs)))))
 | ((with_reducible refine And.intro ?_ ?_); exact zc; conv => whnf)
 | ((with_reducible refine And.intro (Side.out ?_) ?_); rotate_left; (conv => whnf))
 | ((first | refine retM1 ?_ | refine retM2 ?_) <;> (conv => whnf) <;> repeat' (first
 | exact trivial
 | (with_reducible rfl)
 | ((with_reducible refine And.intro ?_ ?_) <;> conv => whnf)
 | omega
 | rfl
 | (refine congrArg (SV.arr _) ?_)
 | (refine congrArg (Value.int _) ?_)
 | (refine congrArg Value.bool ?_)))); all_goals (try unfold Side)
   all_goals try (repeat' (first | exact zb | with_reducible refine And.intro ?_ ?_))
set_option maxHeartbeats 8000000 in
theorem provesMF_at {P : Int} {l0 : List Jb} {os : List Od} {pf : List Nd} (hP : 0 ≤ P ∧ P ≤ 100) (hpf : pf.length ≤ 100000) {k num : Nat} {l : List Jb} {sn : List Bool} (hnum : num < pf.length) (hsn : sn.length = pf.length) (hbd : Bd l) (ho : Ords os l.length) (hs : sn.getD num false = false) (h1 : (pf.getD num N0).1 = 1) (hz : (pf.getD num N0).2.2.2.1 = 0) (hq : (0 ≤ (pf.getD num N0).2.1 ∧ (pf.getD num N0).2.1 < l.length) ∧ (jf l (pf.getD num N0).2.1.toNat ≤ (pf.getD num N0).2.2.1 ∧ (pf.getD num N0).2.2.1 < jt l (pf.getD num N0).2.1.toNat - jl l (pf.getD num N0).2.1.toNat))
  (hw : ((num : Int) < (pf.getD num N0).2.2.2.2.1 ∧ (num : Int) < (pf.getD num N0).2.2.2.2.2.1) ∧ (pf.getD num N0).2.2.2.2.1 < pf.length ∧ (pf.getD num N0).2.2.2.2.2.1 < pf.length) {L R : List Jb} {S1 S2 : List Bool} {B2 : Bool} (hl1 : S1.length = pf.length) (hjn : (pf.getD num N0).2.1.toNat < l.length)
  (hpt : FnAt Try.prog false 52 [.arr JT l, I64 (pf.getD num N0).2.1, I64 (pf.getD num N0).2.2.1] (.tup [.own 0, .own 1]) [(0, .row 30 JT true L), (1, .row 30 JT true R)])
  (c1' : FnM Try.prog 27 [.st false (.agg [I64 P, .arr JT l0, .arr OT os]), .st false (.arr NT pf), .lit (.int .i64 (pf.getD num N0).2.2.2.2.1), .st false (.arr JT L), .own 1000000000] [(1000000000, .row 4 .bool true (sn.set num true))] (.lit (.bool false)) [(1000000000, .row 4 .bool true S1)]) :
  FnM Try.prog 27 [.st false (.agg [I64 P, .arr JT l0, .arr OT os]), .st false (.arr NT pf), .lit (.int .i64 num), .st false (.arr JT l), .own 1000000000] [(1000000000, .row 4 .bool true sn)] (.lit (.bool false)) [(1000000000, .row 4 .bool true S1)] := by
 have hll : @List.length JT.T l = l.length := rfl
 have hlp : @List.length NT.T pf = pf.length := rfl
 have hls : @List.length Ty.bool.T sn = pf.length := hsn
 have hrd : FnAt Try.prog false 53 [.agg [I64 (pf.getD num N0).1, I64 (pf.getD num N0).2.1, I64 (pf.getD num N0).2.2.1, I64 (pf.getD num N0).2.2.2.1, I64 (pf.getD num N0).2.2.2.2.1, I64 (pf.getD num N0).2.2.2.2.2.1]] (.st true (.ifc 111 (.agg [I64 (pf.getD num N0).2.1, I64 (pf.getD num N0).2.2.1, I64 (pf.getD num N0).2.2.2.2.1, I64 (pf.getD num N0).2.2.2.2.2.1]))) [] := by
  rw [h1, hz]; exact read1_at
 have hbh := split_at (P := P) (os := os) (l0 := l0) hbd (j := (pf.getD num N0).2.1) (a := (pf.getD num N0).2.2.1) (lf := (pf.getD num N0).2.2.2.2.1) (rt := (pf.getD num N0).2.2.2.2.2.1)
 rw [decide_eq_true hq.1, decide_eq_true hq.2] at hbh
 have hbh2 : FnAt Try.prog false 104 [.agg [I64 (pf.getD num N0).2.1, I64 (pf.getD num N0).2.2.1, I64 (pf.getD num N0).2.2.2.2.1, I64 (pf.getD num N0).2.2.2.2.2.1], .agg [I64 P, .arr JT l0, .arr OT os], .arr JT l] (.lit (.bool true)) [] := hbh
 refine FnM.of_body tys_ok Try.func27 (by rfl) rfl Try.ntmps27 (by rw [Try.results27]) (by simp) ?_
 repeat' (first
 | refine W.seq ?_
 | refine W.block ?_
 | (refine W.resub (x := Code.region 5 _ _) (Γ' := ⟨[(1, .st false (.arr NT pf)), (2, .lit (.int .i64 (num))), (3, .st false (.arr JT l)), (4, .own 1000000000), (5, .st false (.sadr (.agg [I64 P, .arr JT l0, .arr OT os]))), (11, .st true (.ifc 111 (.agg [I64 (pf.getD num N0).2.1, I64 (pf.getD num N0).2.2.1, I64 (pf.getD num N0).2.2.2.2.1, I64 (pf.getD num N0).2.2.2.2.2.1])))], [(1000000000, .row 4 .bool true (sn.set num true))]⟩) ?_ (W.region tys_ok [] ?_); rotate_left; (conv => whnf))
 | (refine W.resub (x := Code.region 10 _ _) (Γ' := ⟨[(1, .st false (.arr NT pf)), (2, .lit (.int .i64 (num))), (3, .st false (.arr JT l)), (4, .own 1000000000), (5, .st false (.sadr (.agg [I64 P, .arr JT l0, .arr OT os]))), (12, .st true (.sadr (.agg [I64 (pf.getD num N0).2.1, I64 (pf.getD num N0).2.2.1, I64 (pf.getD num N0).2.2.2.2.1, I64 (pf.getD num N0).2.2.2.2.2.1])))], [(1000000000, .row 4 .bool true (sn.set num true))]⟩) ?_ (W.region tys_ok [] ?_); rotate_left; (conv => whnf))
 | (refine W.resub (x := Code.region 13 _ _) (Γ' := ⟨[(1, .st false (.arr NT pf)), (4, .own 1000000000), (5, .st false (.sadr (.agg [I64 P, .arr JT l0, .arr OT os]))), (12, .st true (.sadr (.agg [I64 (pf.getD num N0).2.1, I64 (pf.getD num N0).2.2.1, I64 (pf.getD num N0).2.2.2.2.1, I64 (pf.getD num N0).2.2.2.2.2.1]))), (13, .st true (.arr JT L)), (14, .st true (.arr JT R))], [(1000000000, .row 4 .bool true (sn.set num true))]⟩) ?_ (W.regionM tys_ok [] [6,14] ?_); rotate_left; (conv => whnf))
 | (refine W.region tys_ok [] ?_; conv => whnf)
 | (refine W.drawAll tys_ok [] mixed rfl ?_; conv => whnf)
 | (refine W.ret ?_; conv => whnf)
 | (refine W.skip ?_; conv => whnf)
 | (refine W.exit ?_; conv => whnf)
 | (refine call_at (al := false) (hrd) rfl rfl rfl rfl ?_; conv => whnf)
 | (refine invoke_at (al := false) (meth111_104) (hbh2) rfl rfl rfl rfl ?_; conv => whnf)
 | (refine call_at (al := false) (hpt) rfl rfl rfl rfl ?_; conv => whnf)
 | (refine callM_at (c1') ?_; clear c1'; conv => whnf)
 | (refine W.cond rfl (fun hb => ?_) (fun hb => ?_) <;> (try simp only [zr, zd, zm, minL, maxL, pickB, zA] at hb) <;> (try (first | (cases hb; done) | exact absurd hb (by decide) | (exfalso; omega) | (first | exact Bool.noConfusion (hb.symm.trans hs) | (rcases hb with h9 | h9; (have h8 := of_decide_eq_true h9; omega); omega)))))
 | (refine Or.inl (And.intro ?_ ?_); exact zi; conv => whnf)
 | (refine Or.inr (And.intro ?_ ?_); exact zj; conv => whnf)
 | ((with_reducible refine And.intro ?_ ?_); exact zc; conv => whnf)
 | ((with_reducible refine And.intro (Side.out ?_) ?_); rotate_left; (conv => whnf))
 | ((first | refine retM1 ?_ | refine retM2 ?_) <;> (conv => whnf) <;> repeat' (first
 | exact trivial
 | (with_reducible rfl)
 | ((with_reducible refine And.intro ?_ ?_) <;> conv => whnf)
 | omega
 | rfl
 | (refine congrArg (SV.arr _) ?_)
 | (refine congrArg (Value.int _) ?_)
 | (refine congrArg Value.bool ?_)))); all_goals (try unfold Side)
 all_goals try (repeat' (first | exact zb | with_reducible refine And.intro ?_ ?_))
 all_goals refine subF.ok ?_ <;> (conv => whnf) <;> repeat' (first
 | exact trivial
 | (with_reducible rfl)
 | ((with_reducible refine And.intro ?_ ?_) <;> conv => whnf)
 | omega
 | rfl
 | (refine congrArg (SV.arr _) ?_)
 | (refine congrArg (Value.int _) ?_)
 | (refine congrArg Value.bool ?_))
set_option maxHeartbeats 8000000 in
theorem provesMT_at {P : Int} {l0 : List Jb} {os : List Od} {pf : List Nd} (hP : 0 ≤ P ∧ P ≤ 100) (hpf : pf.length ≤ 100000) {k num : Nat} {l : List Jb} {sn : List Bool} (hnum : num < pf.length) (hsn : sn.length = pf.length) (hbd : Bd l) (ho : Ords os l.length) (hs : sn.getD num false = false) (h1 : (pf.getD num N0).1 = 1) (hz : (pf.getD num N0).2.2.2.1 = 0) (hq : (0 ≤ (pf.getD num N0).2.1 ∧ (pf.getD num N0).2.1 < l.length) ∧ (jf l (pf.getD num N0).2.1.toNat ≤ (pf.getD num N0).2.2.1 ∧ (pf.getD num N0).2.2.1 < jt l (pf.getD num N0).2.1.toNat - jl l (pf.getD num N0).2.1.toNat))
  (hw : ((num : Int) < (pf.getD num N0).2.2.2.2.1 ∧ (num : Int) < (pf.getD num N0).2.2.2.2.2.1) ∧ (pf.getD num N0).2.2.2.2.1 < pf.length ∧ (pf.getD num N0).2.2.2.2.2.1 < pf.length) {L R : List Jb} {S1 S2 : List Bool} {B2 : Bool} (hl1 : S1.length = pf.length) (hjn : (pf.getD num N0).2.1.toNat < l.length)
  (hpt : FnAt Try.prog false 52 [.arr JT l, I64 (pf.getD num N0).2.1, I64 (pf.getD num N0).2.2.1] (.tup [.own 0, .own 1]) [(0, .row 30 JT true L), (1, .row 30 JT true R)])
  (c1' : FnM Try.prog 27 [.st false (.agg [I64 P, .arr JT l0, .arr OT os]), .st false (.arr NT pf), .lit (.int .i64 (pf.getD num N0).2.2.2.2.1), .st false (.arr JT L), .own 1000000000] [(1000000000, .row 4 .bool true (sn.set num true))] (.lit (.bool true)) [(1000000000, .row 4 .bool true S1)])
  (c2' : FnM Try.prog 27 [.st false (.agg [I64 P, .arr JT l0, .arr OT os]), .st false (.arr NT pf), .lit (.int .i64 (pf.getD num N0).2.2.2.2.2.1), .st false (.arr JT R), .own 1000000000] [(1000000000, .row 4 .bool true S1)] (.lit (.bool B2)) [(1000000000, .row 4 .bool true S2)]) :
  FnM Try.prog 27 [.st false (.agg [I64 P, .arr JT l0, .arr OT os]), .st false (.arr NT pf), .lit (.int .i64 num), .st false (.arr JT l), .own 1000000000] [(1000000000, .row 4 .bool true sn)] (.lit (.bool B2)) [(1000000000, .row 4 .bool true S2)] := by
 have hll : @List.length JT.T l = l.length := rfl
 have hlp : @List.length NT.T pf = pf.length := rfl
 have hls : @List.length Ty.bool.T sn = pf.length := hsn
 have hrd : FnAt Try.prog false 53 [.agg [I64 (pf.getD num N0).1, I64 (pf.getD num N0).2.1, I64 (pf.getD num N0).2.2.1, I64 (pf.getD num N0).2.2.2.1, I64 (pf.getD num N0).2.2.2.2.1, I64 (pf.getD num N0).2.2.2.2.2.1]] (.st true (.ifc 111 (.agg [I64 (pf.getD num N0).2.1, I64 (pf.getD num N0).2.2.1, I64 (pf.getD num N0).2.2.2.2.1, I64 (pf.getD num N0).2.2.2.2.2.1]))) [] := by
  rw [h1, hz]; exact read1_at
 have hbh := split_at (P := P) (os := os) (l0 := l0) hbd (j := (pf.getD num N0).2.1) (a := (pf.getD num N0).2.2.1) (lf := (pf.getD num N0).2.2.2.2.1) (rt := (pf.getD num N0).2.2.2.2.2.1)
 rw [decide_eq_true hq.1, decide_eq_true hq.2] at hbh
 have hbh2 : FnAt Try.prog false 104 [.agg [I64 (pf.getD num N0).2.1, I64 (pf.getD num N0).2.2.1, I64 (pf.getD num N0).2.2.2.2.1, I64 (pf.getD num N0).2.2.2.2.2.1], .agg [I64 P, .arr JT l0, .arr OT os], .arr JT l] (.lit (.bool true)) [] := hbh
 refine FnM.of_body tys_ok Try.func27 (by rfl) rfl Try.ntmps27 (by rw [Try.results27]) (by simp) ?_
 repeat' (first
 | refine W.seq ?_
 | refine W.block ?_
 | (refine W.resub (x := Code.region 5 _ _) (Γ' := ⟨[(1, .st false (.arr NT pf)), (2, .lit (.int .i64 (num))), (3, .st false (.arr JT l)), (4, .own 1000000000), (5, .st false (.sadr (.agg [I64 P, .arr JT l0, .arr OT os]))), (11, .st true (.ifc 111 (.agg [I64 (pf.getD num N0).2.1, I64 (pf.getD num N0).2.2.1, I64 (pf.getD num N0).2.2.2.2.1, I64 (pf.getD num N0).2.2.2.2.2.1])))], [(1000000000, .row 4 .bool true (sn.set num true))]⟩) ?_ (W.region tys_ok [] ?_); rotate_left; (conv => whnf))
 | (refine W.resub (x := Code.region 10 _ _) (Γ' := ⟨[(1, .st false (.arr NT pf)), (2, .lit (.int .i64 (num))), (3, .st false (.arr JT l)), (4, .own 1000000000), (5, .st false (.sadr (.agg [I64 P, .arr JT l0, .arr OT os]))), (12, .st true (.sadr (.agg [I64 (pf.getD num N0).2.1, I64 (pf.getD num N0).2.2.1, I64 (pf.getD num N0).2.2.2.2.1, I64 (pf.getD num N0).2.2.2.2.2.1])))], [(1000000000, .row 4 .bool true (sn.set num true))]⟩) ?_ (W.region tys_ok [] ?_); rotate_left; (conv => whnf))
 | (refine W.resub (x := Code.region 13 _ _) (Γ' := ⟨[(1, .st false (.arr NT pf)), (4, .own 1000000000), (5, .st false (.sadr (.agg [I64 P, .arr JT l0, .arr OT os]))), (12, .st true (.sadr (.agg [I64 (pf.getD num N0).2.1, I64 (pf.getD num N0).2.2.1, I64 (pf.getD num N0).2.2.2.2.1, I64 (pf.getD num N0).2.2.2.2.2.1]))), (13, .st true (.arr JT L)), (14, .st true (.arr JT R))], [(1000000000, .row 4 .bool true (sn.set num true))]⟩) ?_ (W.regionM tys_ok [] [6,14] ?_); rotate_left; (conv => whnf))
 | (refine W.region tys_ok [] ?_; conv => whnf)
 | (refine W.drawAll tys_ok [] mixed rfl ?_; conv => whnf)
 | (refine W.ret ?_; conv => whnf)
 | (refine W.skip ?_; conv => whnf)
 | (refine W.exit ?_; conv => whnf)
 | (refine call_at (al := false) (hrd) rfl rfl rfl rfl ?_; conv => whnf)
 | (refine invoke_at (al := false) (meth111_104) (hbh2) rfl rfl rfl rfl ?_; conv => whnf)
 | (refine call_at (al := false) (hpt) rfl rfl rfl rfl ?_; conv => whnf)
 | (refine callM_at (c1') ?_; clear c1'; conv => whnf)
 | (refine callM_at (c2') ?_; conv => whnf)
 | (refine W.cond rfl (fun hb => ?_) (fun hb => ?_) <;> (try simp only [zr, zd, zm, minL, maxL, pickB, zA] at hb) <;> (try (first | (cases hb; done) | exact absurd hb (by decide) | (exfalso; omega) | (first | exact Bool.noConfusion (hb.symm.trans hs) | (rcases hb with h9 | h9; (have h8 := of_decide_eq_true h9; omega); omega)))))
 | (refine Or.inl (And.intro ?_ ?_); exact zi; conv => whnf)
 | (refine Or.inr (And.intro ?_ ?_); exact zj; conv => whnf)
 | ((with_reducible refine And.intro ?_ ?_); exact zc; conv => whnf)
 | ((with_reducible refine And.intro (Side.out ?_) ?_); rotate_left; (conv => whnf))
 | ((first | refine retM1 ?_ | refine retM2 ?_) <;> (conv => whnf) <;> repeat' (first
 | exact trivial
 | (with_reducible rfl)
 | ((with_reducible refine And.intro ?_ ?_) <;> conv => whnf)
 | omega
 | rfl
 | (refine congrArg (SV.arr _) ?_)
 | (refine congrArg (Value.int _) ?_)
 | (refine congrArg Value.bool ?_)))); all_goals (try unfold Side)
 all_goals try (repeat' (first | exact zb | with_reducible refine And.intro ?_ ?_))
 all_goals refine subF.ok ?_ <;> (conv => whnf) <;> repeat' (first
 | exact trivial
 | (with_reducible rfl)
 | ((with_reducible refine And.intro ?_ ?_) <;> conv => whnf)
 | omega
 | rfl
 | (refine congrArg (SV.arr _) ?_)
 | (refine congrArg (Value.int _) ?_)
 | (refine congrArg Value.bool ?_))
theorem provesM_at {P : Int} {l0 : List Jb} {os : List Od} {pf : List Nd} (hP : 0 ≤ P ∧ P ≤ 100) (hpf : pf.length ≤ 100000) {k num : Nat} {l : List Jb} {sn : List Bool} (hnum : num < pf.length) (hsn : sn.length = pf.length) (hbd : Bd l) (ho : Ords os l.length) (hs : sn.getD num false = false) (h1 : (pf.getD num N0).1 = 1) (hz : (pf.getD num N0).2.2.2.1 = 0) (hq : (0 ≤ (pf.getD num N0).2.1 ∧ (pf.getD num N0).2.1 < l.length) ∧ (jf l (pf.getD num N0).2.1.toNat ≤ (pf.getD num N0).2.2.1 ∧ (pf.getD num N0).2.2.1 < jt l (pf.getD num N0).2.1.toNat - jl l (pf.getD num N0).2.1.toNat))
  (hw : ((num : Int) < (pf.getD num N0).2.2.2.2.1 ∧ (num : Int) < (pf.getD num N0).2.2.2.2.2.1) ∧ (pf.getD num N0).2.2.2.2.1 < pf.length ∧ (pf.getD num N0).2.2.2.2.2.1 < pf.length)
  (ih : ∀ (n : Nat) (l' : List Jb) (sn' : List Bool), num < n → n < pf.length → sn'.length = pf.length → Bd l' → l'.length = l.length →
   FnM Try.prog 27 [.st false (.agg [I64 P, .arr JT l0, .arr OT os]), .st false (.arr NT pf), .lit (.int .i64 n), .st false (.arr JT l'), .own 1000000000] [(1000000000, .row 4 .bool true sn')] (.lit (.bool (pvT P os pf k n l' sn').1)) [(1000000000, .row 4 .bool true (pvT P os pf k n l' sn').2)]) :
  FnM Try.prog 27 [.st false (.agg [I64 P, .arr JT l0, .arr OT os]), .st false (.arr NT pf), .lit (.int .i64 num), .st false (.arr JT l), .own 1000000000] [(1000000000, .row 4 .bool true sn)] (.lit (.bool (pvT P os pf (k + 1) num l sn).1)) [(1000000000, .row 4 .bool true (pvT P os pf (k + 1) num l sn).2)] := by
 have hll : @List.length JT.T l = l.length := rfl
 have hlp : @List.length NT.T pf = pf.length := rfl
 have hls : @List.length Ty.bool.T sn = pf.length := hsn
 rw [pv_split hs h1 (split_iff.2 ⟨hz, hq.1, hq.2, hw⟩)]
 have hrj := hbd.rg (pf.getD num N0).2.1.toNat (by omega)
 have hjn : (pf.getD num N0).2.1.toNat < l.length := by omega
 obtain ⟨bL, bR, lL, lR⟩ := part_bd hbd hjn hq.2
 have hpt := parted_at hbd (j := (pf.getD num N0).2.1) (a := (pf.getD num N0).2.2.1) hq.1 (by omega)
 have hlf : (((pf.getD num N0).2.2.2.2.1.toNat : Nat) : Int) = (pf.getD num N0).2.2.2.2.1 := by omega
 have hrt : (((pf.getD num N0).2.2.2.2.2.1.toNat : Nat) : Int) = (pf.getD num N0).2.2.2.2.2.1 := by omega
 have hsl1 : (sn.set num true).length = pf.length := by rw [List.length_set]; exact hsn
 have c1 := ih (pf.getD num N0).2.2.2.2.1.toNat (partL l (pf.getD num N0).2.1.toNat (pf.getD num N0).2.2.1) (sn.set num true) (by omega) (by omega) hsl1 bL lL
 have c2 := fun sn' hsn' => ih (pf.getD num N0).2.2.2.2.2.1.toNat (partR l (pf.getD num N0).2.1.toNat (pf.getD num N0).2.2.1) sn' (by omega) (by omega) hsn' bR lR
 have hl1 := pv_len (P := P) (os := os) (pf := pf) (k := k) (num := (pf.getD num N0).2.2.2.2.1.toNat) (l := partL l (pf.getD num N0).2.1.toNat (pf.getD num N0).2.2.1) (sn := sn.set num true)
 rw [hlf] at c1
 rw [hrt] at c2
 obtain ⟨r1, hr1⟩ : ∃ r1, r1 = pvT P os pf k (pf.getD num N0).2.2.2.2.1.toNat (partL l (pf.getD num N0).2.1.toNat (pf.getD num N0).2.2.1) (sn.set num true) := ⟨_, rfl⟩
 rw [← hr1] at c1 hl1 ⊢
 obtain ⟨B1, S1⟩ := r1
 have hl1' : S1.length = pf.length := by rw [← hsl1]; exact hl1
 have c2 := c2 S1 hl1'
 obtain ⟨r2, hr2⟩ : ∃ r2, r2 = pvT P os pf k (pf.getD num N0).2.2.2.2.2.1.toNat (partR l (pf.getD num N0).2.1.toNat (pf.getD num N0).2.2.1) S1 := ⟨_, rfl⟩
 have hr2' : pvT P os pf k (pf.getD num N0).2.2.2.2.2.1.toNat (partR l (pf.getD num N0).2.1.toNat (pf.getD num N0).2.2.1) (B1, S1).2 = r2 := hr2.symm
 rw [hr2']
 rw [← hr2] at c2
 obtain ⟨B2, S2⟩ := r2
 clear hr1 hr2 hr2'
 obtain ⟨L, hL⟩ : ∃ L, L = partL l (pf.getD num N0).2.1.toNat (pf.getD num N0).2.2.1 := ⟨_, rfl⟩
 obtain ⟨R, hR⟩ : ∃ R, R = partR l (pf.getD num N0).2.1.toNat (pf.getD num N0).2.2.1 := ⟨_, rfl⟩
 rw [← hL] at c1 hpt
 rw [← hR] at c2 hpt
 clear hL hR bL bR lL lR ih
 cases B1 with
 | false =>
  dsimp only
  rw [if_neg Bool.false_ne_true]
  exact provesMF_at (k := k) (L := L) (R := R) (S1 := S1) (S2 := S1) (B2 := false) hP hpf hnum hsn hbd ho hs h1 hz hq hw hl1' hjn hpt c1
 | true =>
  rw [if_pos rfl]
  exact provesMT_at (k := k) (L := L) (R := R) (S1 := S1) (S2 := S2) (B2 := B2) hP hpf hnum hsn hbd ho hs h1 hz hq hw hl1' hjn hpt c1 c2
set_option maxHeartbeats 8000000 in
theorem proves1_at {P : Int} {l0 : List Jb} {os : List Od} {pf : List Nd} (hP : 0 ≤ P ∧ P ≤ 100) (hpf : pf.length ≤ 100000) {k num : Nat} {l : List Jb} {sn : List Bool} (hnum : num < pf.length) (hsn : sn.length = pf.length) (hbd : Bd l) (ho : Ords os l.length) (hs : sn.getD num false = false) (h1 : (pf.getD num N0).1 = 1)
  (ih : ∀ (n : Nat) (l' : List Jb) (sn' : List Bool), num < n → n < pf.length → sn'.length = pf.length → Bd l' → l'.length = l.length →
   FnM Try.prog 27 [.st false (.agg [I64 P, .arr JT l0, .arr OT os]), .st false (.arr NT pf), .lit (.int .i64 n), .st false (.arr JT l'), .own 1000000000] [(1000000000, .row 4 .bool true sn')] (.lit (.bool (pvT P os pf k n l' sn').1)) [(1000000000, .row 4 .bool true (pvT P os pf k n l' sn').2)]) :
  FnM Try.prog 27 [.st false (.agg [I64 P, .arr JT l0, .arr OT os]), .st false (.arr NT pf), .lit (.int .i64 num), .st false (.arr JT l), .own 1000000000] [(1000000000, .row 4 .bool true sn)] (.lit (.bool (pvT P os pf (k + 1) num l sn).1)) [(1000000000, .row 4 .bool true (pvT P os pf (k + 1) num l sn).2)] := by
 have hll : @List.length JT.T l = l.length := rfl
 have hlp : @List.length NT.T pf = pf.length := rfl
 have hls : @List.length Ty.bool.T sn = pf.length := hsn
 by_cases hz : (pf.getD num N0).2.2.2.1 = 0
 · have hrd : FnAt Try.prog false 53 [.agg [I64 (pf.getD num N0).1, I64 (pf.getD num N0).2.1, I64 (pf.getD num N0).2.2.1, I64 (pf.getD num N0).2.2.2.1, I64 (pf.getD num N0).2.2.2.2.1, I64 (pf.getD num N0).2.2.2.2.2.1]] (.st true (.ifc 111 (.agg [I64 (pf.getD num N0).2.1, I64 (pf.getD num N0).2.2.1, I64 (pf.getD num N0).2.2.2.2.1, I64 (pf.getD num N0).2.2.2.2.2.1]))) [] := by
    rw [h1, hz]; exact read1_at
   have hbh := split_at (P := P) (os := os) (l0 := l0) hbd (j := (pf.getD num N0).2.1) (a := (pf.getD num N0).2.2.1) (lf := (pf.getD num N0).2.2.2.2.1) (rt := (pf.getD num N0).2.2.2.2.2.1)
   by_cases hq : (0 ≤ (pf.getD num N0).2.1 ∧ (pf.getD num N0).2.1 < l.length) ∧ (jf l (pf.getD num N0).2.1.toNat ≤ (pf.getD num N0).2.2.1 ∧ (pf.getD num N0).2.2.1 < jt l (pf.getD num N0).2.1.toNat - jl l (pf.getD num N0).2.1.toNat)
   · rw [decide_eq_true hq.1, decide_eq_true hq.2] at hbh
     have hbh2 : FnAt Try.prog false 104 [.agg [I64 (pf.getD num N0).2.1, I64 (pf.getD num N0).2.2.1, I64 (pf.getD num N0).2.2.2.2.1, I64 (pf.getD num N0).2.2.2.2.2.1], .agg [I64 P, .arr JT l0, .arr OT os], .arr JT l] (.lit (.bool true)) [] := hbh
     by_cases hw : ((num : Int) < (pf.getD num N0).2.2.2.2.1 ∧ (num : Int) < (pf.getD num N0).2.2.2.2.2.1) ∧ (pf.getD num N0).2.2.2.2.1 < pf.length ∧ (pf.getD num N0).2.2.2.2.2.1 < pf.length
     · exact provesM_at hP hpf hnum hsn hbd ho hs h1 hz hq hw ih
     · rw [pv_nosplit hs h1 (by rw [Bool.eq_false_iff]; intro h; exact hw (split_iff.1 h).2.2.2)]
       refine FnM.of_body tys_ok Try.func27 (by rfl) rfl Try.ntmps27 (by rw [Try.results27]) (by simp) ?_
       repeat' (first
 | refine W.seq ?_
 | refine W.block ?_
 | (refine W.region tys_ok [] ?_; conv => whnf)
 | (refine W.drawAll tys_ok [] mixed rfl ?_; conv => whnf)
 | (refine W.ret ?_; conv => whnf)
 | (refine W.skip ?_; conv => whnf)
 | (refine W.exit ?_; conv => whnf)
 | (refine call_at (al := false) (hrd) rfl rfl rfl rfl ?_; conv => whnf)
 | (refine invoke_at (al := false) (meth111_104) (hbh2) rfl rfl rfl rfl ?_; conv => whnf)
 | (refine W.cond rfl (fun hb => ?_) (fun hb => ?_) <;> (try simp only [zr, zd, zm, minL, maxL, pickB, zA] at hb) <;> (try (first | (cases hb; done) | exact absurd hb (by decide) | (exfalso; omega) | (first | exact Bool.noConfusion (hb.symm.trans hs) | (have h9 := of_decide_eq_false hb.1; omega)))))
 | ((with_reducible refine And.intro ?_ ?_); exact zc; conv => whnf)
 | ((with_reducible refine And.intro (Side.out ?_) ?_); rotate_left; (conv => whnf))
 | ((first | refine retM1 ?_ | refine retM2 ?_) <;> (conv => whnf) <;> repeat' (first
 | exact trivial
 | (with_reducible rfl)
 | ((with_reducible refine And.intro ?_ ?_) <;> conv => whnf)
 | omega
 | rfl
 | (refine congrArg (SV.arr _) ?_)
 | (refine congrArg (Value.int _) ?_)
 | (refine congrArg Value.bool ?_)))); all_goals (try unfold Side)
       all_goals try (repeat' (first | exact zb | with_reducible refine And.intro ?_ ?_))
   · rw [pv_nosplit hs h1 (by rw [Bool.eq_false_iff]; intro h; have := (split_iff.1 h).2; exact hq ⟨this.1, this.2.1⟩)]
     have hfz : (decide (0 ≤ (pf.getD num N0).2.1 ∧ (pf.getD num N0).2.1 < l.length) && decide (jf l (pf.getD num N0).2.1.toNat ≤ (pf.getD num N0).2.2.1 ∧ (pf.getD num N0).2.2.1 < jt l (pf.getD num N0).2.1.toNat - jl l (pf.getD num N0).2.1.toNat)) = false := by
      rw [Bool.eq_false_iff]
      intro h
      simp only [Bool.and_eq_true, decide_eq_true_eq] at h
      exact hq h
     rw [hfz] at hbh
     refine FnM.of_body tys_ok Try.func27 (by rfl) rfl Try.ntmps27 (by rw [Try.results27]) (by simp) ?_
     repeat' (first
 | refine W.seq ?_
 | refine W.block ?_
 | (refine W.region tys_ok [] ?_; conv => whnf)
 | (refine W.drawAll tys_ok [] mixed rfl ?_; conv => whnf)
 | (refine W.ret ?_; conv => whnf)
 | (refine W.skip ?_; conv => whnf)
 | (refine W.exit ?_; conv => whnf)
 | (refine call_at (al := false) (hrd) rfl rfl rfl rfl ?_; conv => whnf)
 | (refine invoke_at (al := false) (meth111_104) (hbh) rfl rfl rfl rfl ?_; conv => whnf)
 | (refine W.cond rfl (fun hb => ?_) (fun hb => ?_) <;> (try simp only [zr, zd, zm, minL, maxL, pickB, zA] at hb) <;> (try (first | (cases hb; done) | exact absurd hb (by decide) | (exfalso; omega) | (exact Bool.noConfusion (hb.symm.trans hs)))))
 | ((with_reducible refine And.intro ?_ ?_); exact zc; conv => whnf)
 | ((with_reducible refine And.intro (Side.out ?_) ?_); rotate_left; (conv => whnf))
 | ((first | refine retM1 ?_ | refine retM2 ?_) <;> (conv => whnf) <;> repeat' (first
 | exact trivial
 | (with_reducible rfl)
 | ((with_reducible refine And.intro ?_ ?_) <;> conv => whnf)
 | omega
 | rfl
 | (refine congrArg (SV.arr _) ?_)
 | (refine congrArg (Value.int _) ?_)
 | (refine congrArg Value.bool ?_)))); all_goals (try unfold Side)
     all_goals try (repeat' (first | exact zb | with_reducible refine And.intro ?_ ?_))
 · have hrd : FnAt Try.prog false 53 [.agg [I64 (pf.getD num N0).1, I64 (pf.getD num N0).2.1, I64 (pf.getD num N0).2.2.1, I64 (pf.getD num N0).2.2.2.1, I64 (pf.getD num N0).2.2.2.2.1, I64 (pf.getD num N0).2.2.2.2.2.1]] (.lit .nilIface) [] := by
    rw [h1]; exact read1_no hz
   rw [pv_nosplit hs h1 (by rw [Bool.eq_false_iff]; intro h; exact hz (split_iff.1 h).1)]
   refine FnM.of_body tys_ok Try.func27 (by rfl) rfl Try.ntmps27 (by rw [Try.results27]) (by simp) ?_
   repeat' (first
 | refine W.seq ?_
 | refine W.block ?_
 | (refine W.region tys_ok [] ?_; conv => whnf)
 | (refine W.drawAll tys_ok [] mixed rfl ?_; conv => whnf)
 | (refine W.ret ?_; conv => whnf)
 | (refine W.skip ?_; conv => whnf)
 | (refine W.exit ?_; conv => whnf)
 | (refine call_at (al := false) (hrd) rfl rfl rfl rfl ?_; conv => whnf)
 | (refine W.cond rfl (fun hb => ?_) (fun hb => ?_) <;> (try simp only [zr, zd, zm, minL, maxL, pickB, zA] at hb) <;> (try (first | (cases hb; done) | exact absurd hb (by decide) | (exfalso; omega) | (exact Bool.noConfusion (hb.symm.trans hs)))))
 | ((with_reducible refine And.intro ?_ ?_); exact zc; conv => whnf)
 | ((with_reducible refine And.intro (Side.out ?_) ?_); rotate_left; (conv => whnf))
 | ((first | refine retM1 ?_ | refine retM2 ?_) <;> (conv => whnf) <;> repeat' (first
 | exact trivial
 | (with_reducible rfl)
 | ((with_reducible refine And.intro ?_ ?_) <;> conv => whnf)
 | omega
 | rfl
 | (refine congrArg (SV.arr _) ?_)
 | (refine congrArg (Value.int _) ?_)
 | (refine congrArg Value.bool ?_)))); all_goals (try unfold Side)
   all_goals try (repeat' (first | exact zb | with_reducible refine And.intro ?_ ?_))
theorem proves_at {P : Int} {l0 : List Jb} {os : List Od} {pf : List Nd} (hP : 0 ≤ P ∧ P ≤ 100) (hpf : pf.length ≤ 100000) : ∀ {k num : Nat} {l : List Jb} {sn : List Bool}, num < pf.length → pf.length ≤ num + k → sn.length = pf.length → Bd l → Ords os l.length →
  FnM Try.prog 27 [.st false (.agg [I64 P, .arr JT l0, .arr OT os]), .st false (.arr NT pf), .lit (.int .i64 num), .st false (.arr JT l), .own 1000000000] [(1000000000, .row 4 .bool true sn)] (.lit (.bool (pvT P os pf k num l sn).1)) [(1000000000, .row 4 .bool true (pvT P os pf k num l sn).2)]
 | 0, num, l, sn, h1, h2, _, _, _ => by omega
 | k + 1, num, l, sn, hnum, hk, hsn, hbd, ho => by
  have ih : ∀ (n : Nat) (l' : List Jb) (sn' : List Bool), num < n → n < pf.length → sn'.length = pf.length → Bd l' → l'.length = l.length →
   FnM Try.prog 27 [.st false (.agg [I64 P, .arr JT l0, .arr OT os]), .st false (.arr NT pf), .lit (.int .i64 n), .st false (.arr JT l'), .own 1000000000] [(1000000000, .row 4 .bool true sn')] (.lit (.bool (pvT P os pf k n l' sn').1)) [(1000000000, .row 4 .bool true (pvT P os pf k n l' sn').2)] :=
   fun n l' sn' h1 h2 h3 h4 h5 => proves_at hP hpf h2 (by omega) h3 h4 (by rw [h5]; exact ho)
  cases hs : sn.getD num false with
  | true => exact proves0_at hP hpf hnum hsn hbd ho hs
  | false =>
   by_cases h1 : (pf.getD num N0).1 = 1
   · exact proves1_at hP hpf hnum hsn hbd ho hs h1 ih
   · by_cases h2 : (pf.getD num N0).1 = 2
     · exact proves2_at hP hpf hnum hsn hbd ho hs h2
     · by_cases h3 : (pf.getD num N0).1 = 3
       · exact proves3_at hP hpf hnum hsn hbd ho hs h3
       · exact provesE_at hP hpf hnum hsn hbd ho hs h1 h2 h3
open Go Go.Vc Go.Sh
def provesB (P : Int) (l : List Jb) (os : List Od) (pf : List Nd) : Bool := decide (0 < pf.length) && (pvT P os pf pf.length 0 l (List.replicate pf.length false)).1
set_option maxHeartbeats 4000000 in
theorem Proves_ok {P : Int} {l : List Jb} {os : List Od} {pf : List Nd} (h : VS P l os) (hp : pf.length ≤ 20000) : FnAt Try.prog false 11 [.agg [I64 P, .arr JT l, .arr OT os], .arr NT pf] (.tup [.lit (.bool (provesB P l os pf)), .lit (.int .i64 0)]) [] := by
 have hv := valid_at (P := P) (l := l) (os := os) (by have := h.ln; omega) (by have := h.lo; omega)
 rw [validB_yes h] at hv
 have hlp : @List.length NT.T pf = pf.length := rfl
 by_cases hz : 0 < pf.length
 · have hc := proves_at (P := P) (l0 := l) (os := os) (pf := pf) (k := pf.length) (num := 0) (l := l) (sn := List.replicate pf.length false) (by have := h.pw; omega) (by omega) hz (by omega) (by simp) (bd_of h) (ords_of h)
   have hB : provesB P l os pf = (pvT P os pf pf.length 0 l (List.replicate pf.length false)).1 := by unfold provesB; rw [decide_eq_true hz, Bool.true_and]
   rw [hB]
   obtain ⟨r, hr⟩ : ∃ r, r = pvT P os pf pf.length 0 l (List.replicate pf.length false) := ⟨_, rfl⟩
   rw [← hr] at hc ⊢
   clear hr hB
   have hs : List.replicate ((pf.length : Nat) : Int).toNat false = List.replicate pf.length false := by rw [Int.toNat_natCast]
   refine FnAt.of_body tys_ok Try.func11 (by rfl) rfl Try.ntmps11 (by rw [Try.results11]) (by simp) ?_
   have hfin : ∀ b : Bool, pickB (decide (0 < (pf.length : Int))) (Operand.tmp 25) (Operand.const (Value.bool false)) b false = b := fun b => by
    rw [decide_eq_true (by omega)]; rfl
   repeat' (first
 | refine W.seq ?_
 | refine W.block ?_
 | (refine W.resub (x := Code.region 5 _ _) (Γ' := ⟨[(1, .st false (.arr NT pf)), (2, .st false (.sadr (.agg [I64 P, .arr JT l, .arr OT os])))], []⟩) ?_ (W.drawM (id := 5) tys_ok [] [10, 11] mixed [0, 1, 2, 4, 8, 8, 8, 72, 8, 264, 520, 1208, 2056, 8191, 16383] [([0, 1, 2, 3, 4, 5, 6, 7, 8, 9], 1, 2047), ([], 1, 4095), ([12, 13, 14], 0, 32767)] (by decide +kernel) ?_); rotate_left; (conv => whnf))
 | (refine W.region tys_ok [] ?_; conv => whnf)
 | (refine W.drawAll tys_ok [] mixed rfl ?_; conv => whnf)
 | (refine W.ret ?_; conv => whnf)
 | (refine W.skip ?_; conv => whnf)
 | (refine W.exit ?_; conv => whnf)
 | (refine call_at (al := false) (hv) rfl rfl rfl rfl ?_; conv => whnf)
 | (refine callM_at (hc) ?_; conv => whnf)
 | (refine Both.mk ?_ ?_ <;> (conv => whnf))
 | (refine W.cond rfl (fun hb => ?_) (fun hb => ?_) <;> (try simp only [zr, zd, zm, minL, maxL, pickB, zA] at hb) <;> (try (first | (cases hb; done) | exact absurd hb (by decide) | (exfalso; omega) | (omega))))
 | (refine Or.inl (And.intro ?_ ?_); exact zi; conv => whnf)
 | (refine Or.inr (And.intro ?_ ?_); exact zj; conv => whnf)
 | ((with_reducible refine And.intro ?_ ?_); exact zc; conv => whnf)
 | ((with_reducible refine And.intro (Side.out ?_) ?_); rotate_left; (conv => whnf))
 | ((first | refine retF1 ?_ | refine retF2 ?_ | refine subF.leaf ?_ | refine subF.side ?_) <;> (conv => whnf) <;> repeat' (first
 | exact trivial
 | (with_reducible rfl)
 | ((with_reducible refine And.intro ?_ ?_) <;> conv => whnf)
 | omega
 | rfl
 | (refine congrArg (SV.arr _) ?_)
 | (refine congrArg (Value.int _) ?_)
 | (refine congrArg Value.bool ?_)))); all_goals (try unfold Side)
   all_goals try (repeat' (first | exact zb | with_reducible refine And.intro ?_ ?_))
   all_goals exact hfin _
 · have hB : provesB P l os pf = false := by unfold provesB; rw [decide_eq_false hz, Bool.false_and]
   rw [hB]
   refine FnAt.of_body tys_ok Try.func11 (by rfl) rfl Try.ntmps11 (by rw [Try.results11]) (by simp) ?_
   have hfin : pickB (decide (0 < (pf.length : Int))) (Operand.tmp 25) (Operand.const (Value.bool false)) false false = false := by
    rw [decide_eq_false (by omega)]; rfl
   repeat' (first
 | refine W.seq ?_
 | refine W.block ?_
 | (refine W.resub (x := Code.region 5 _ _) (Γ' := ⟨[(1, .st false (.arr NT pf)), (2, .st false (.sadr (.agg [I64 P, .arr JT l, .arr OT os])))], []⟩) ?_ (W.drawM (id := 5) tys_ok [] [10, 11] mixed [0, 1, 2, 4, 8, 8, 8, 72, 8, 264, 520, 1208, 2056, 8191, 16383] [([0, 1, 2, 3, 4, 5, 6, 7, 8, 9], 1, 2047), ([], 1, 4095), ([12, 13, 14], 0, 32767)] (by decide +kernel) ?_); rotate_left; (conv => whnf))
 | (refine W.region tys_ok [] ?_; conv => whnf)
 | (refine W.drawAll tys_ok [] mixed rfl ?_; conv => whnf)
 | (refine W.ret ?_; conv => whnf)
 | (refine W.skip ?_; conv => whnf)
 | (refine W.exit ?_; conv => whnf)
 | (refine call_at (al := false) (hv) rfl rfl rfl rfl ?_; conv => whnf)
 | (refine Both.mk ?_ ?_ <;> (conv => whnf))
 | (refine W.cond rfl (fun hb => ?_) (fun hb => ?_) <;> (try simp only [zr, zd, zm, minL, maxL, pickB, zA] at hb) <;> (try (first | (cases hb; done) | exact absurd hb (by decide) | (exfalso; omega) | (omega))))
 | (refine Or.inl (And.intro ?_ ?_); exact zi; conv => whnf)
 | (refine Or.inr (And.intro ?_ ?_); exact zj; conv => whnf)
 | ((with_reducible refine And.intro ?_ ?_); exact zc; conv => whnf)
 | ((with_reducible refine And.intro (Side.out ?_) ?_); rotate_left; (conv => whnf))
 | ((first | refine retF1 ?_ | refine retF2 ?_ | refine subF.leaf ?_ | refine subF.side ?_) <;> (conv => whnf) <;> repeat' (first
 | exact trivial
 | (with_reducible rfl)
 | ((with_reducible refine And.intro ?_ ?_) <;> conv => whnf)
 | omega
 | rfl
 | (refine congrArg (SV.arr _) ?_)
 | (refine congrArg (Value.int _) ?_)
 | (refine congrArg Value.bool ?_)))); all_goals (try unfold Side)
   all_goals try (repeat' (first | exact zb | with_reducible refine And.intro ?_ ?_))
   all_goals exact hfin
end Go.Proofs.Ytckmhlpngolbpaa
