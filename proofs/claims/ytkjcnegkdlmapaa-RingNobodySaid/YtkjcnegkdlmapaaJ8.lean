/- Joined of: K7 K8. No condition. -/
import Derived.Test.YtkjcnegkdlmapaaJ7
set_option linter.unusedVariables false
set_option linter.unusedSimpArgs false
namespace Go.Proofs.Ytkjcnegkdlmapaa
open Int renaming reduceToNat → zr, reduceTDiv → zd, reduceTMod → zm
open Go Go.Vc Go.Rg
variable {hs : List Hd} {fl : List Lt}
def st1 (hs : List Hd) (x : Nat) : List Hd := hs.set x (true, (hs.getD x H0).2)
def st2 (hs : List Hd) (x : Nat) : List Hd := hs.set x ((hs.getD x H0).1, true, (hs.getD x H0).2.2)
def st3 (hs : List Hd) (x : Nat) (f : Int) : List Hd := hs.set x ((hs.getD x H0).1, (hs.getD x H0).2.1, f, (hs.getD x H0).2.2.2)
theorem st_all {x : Nat} {f : Int} (hx : x < hs.length) : st3 (st2 (st1 hs x) x) x f = hs.set x (true, true, f, go hs x, ()) := by
 have e1 : (st1 hs x).getD x H0 = (true, (hs.getD x H0).2) := by unfold st1; rw [Rg.getD_set hx, if_pos rfl]
 have l1 : x < (st1 hs x).length := by unfold st1; rw [List.length_set]; exact hx
 have e2 : (st2 (st1 hs x) x).getD x H0 = (true, true, (hs.getD x H0).2.2) := by unfold st2; rw [Rg.getD_set l1, if_pos rfl, e1]
 unfold st3
 rw [e2]
 unfold st2 st1
 rw [List.set_set, List.set_set]
 rfl
theorem st_len1 {x : Nat} (hx : x < hs.length) : x < (st1 hs x).length := by unfold st1; rw [List.length_set]; exact hx
theorem st_len2 {x : Nat} (hx : x < hs.length) : x < (st2 (st1 hs x) x).length := by unfold st2; rw [List.length_set]; exact st_len1 hx
set_option maxHeartbeats 4000000 in
theorem deliver_arg {k : Int} (h0 : 0 < hs.length) (h : hasB fl.length k = false) : FnM Try.prog 21 [.padr 1000000000 0, .lit (.int .i64 k)] [(1000000000, .box [.own 1000000001, .own 5]), (1000000001, .row 96 HT true (hs)), (5, .row 50 LT true (fl))] (.lit (.int .i64 1)) [(1000000000, .box [.own 1000000001, .own 5]), (1000000001, .row 96 HT true (hs)), (5, .row 50 LT true (fl))] := by
 have c1 := is_at (fl := fl) h0
 have h' : k < 0 ∨ (fl.length : Int) ≤ k := by
  unfold hasB at h
  rw [Bool.and_eq_false_iff, decide_eq_false_iff_not, decide_eq_false_iff_not] at h
  omega
 have hlf : @List.length LT.T fl = fl.length := rfl
 refine FnM.of_body tys_ok Try.func21 (by rfl) rfl Try.ntmps21 (by rw [Try.results21]) (by simp) ?_
 repeat' (first
 | refine W.seq ?_
 | refine W.block ?_
 | (refine W.regionM (id := 1) tys_ok [] [1] ?_; conv => whnf)
 | (refine W.region tys_ok [] ?_; conv => whnf)
 | (refine W.drawAll tys_ok [] mixed rfl ?_; conv => whnf)
 | (refine W.ret ?_; conv => whnf)
 | (refine W.skip ?_; conv => whnf)
 | (refine W.exit ?_; conv => whnf)
 | (refine callM_at (c1) ?_; conv => whnf)
 | (refine W.cond rfl (fun hb => ?_) (fun hb => ?_) <;> (try simp only [zr, zd, zm, minL, maxL, pickB, zA] at hb) <;> (try (first | (cases hb; done) | exact absurd hb (by decide) | (exfalso; omega) | (omega) | ((simp [pickB] at hb; omega)))))
 | (refine Or.inl (And.intro trivial ?_); (conv => whnf))
 | ((with_reducible refine And.intro ?_ ?_); exact zc; conv => whnf)
 | ((with_reducible refine And.intro (Side.out ?_) ?_); rotate_left; (conv => whnf))
 | ((first | refine retM1 ?_ | refine retM2 ?_) <;> (conv => whnf) <;> repeat' (first
 | exact trivial
 | (with_reducible rfl)
 | ((with_reducible refine And.intro ?_ ?_) <;> conv => whnf)
 | omega
 | rfl
 | (refine congrArg (SV.arr _) ?_)
 | (refine congrArg (Value.int _) ?_)
 | (refine congrArg Value.bool ?_)))); all_goals (try unfold Side)
 all_goals try (repeat' (first | exact zb | with_reducible refine And.intro ?_ ?_))
set_option maxHeartbeats 4000000 in
theorem deliver_ack {k f x : Nat} {h2 : List Hd} {f2 : List Lt} (h0 : 0 < hs.length) (hk : k < fl.length) (hfl : fl.length ≤ 1000) (hx : x < hs.length) (hm : fl.getD k L0 = ((f : Int), (x : Int), true, ())) (ho : 0 ≤ go hs x ∧ go hs x ≤ 1000)
  (h : settL x (setO hs x (go hs x - 1), era fl k) = (h2, f2)) : FnM Try.prog 21 [.padr 1000000000 0, .lit (.int .i64 (k : Int))] [(1000000000, .box [.own 1000000001, .own 5]), (1000000001, .row 96 HT true (hs)), (5, .row 50 LT true (fl))] (.lit (.int .i64 0)) [(1000000000, .box [.own 1000000001, .own 5]), (1000000001, .row 96 HT true (h2)), (5, .row 50 LT true (f2))] := by
 have c1 := is_at (fl := fl) h0
 have c2 := FnM.del (τ := LT) (fr := true) (xs := fl) (a := (k : Int)) (b := (k : Int) + 1) (i := k) (j := k + 1) del_letter rfl (by omega) (by omega) (by show k + 1 ≤ fl.length; omega) (by show fl.length ≤ _; omega)
 have hel := era_len hk
 have c3 := settle_at (by rw [setO_len]; exact hx) (by omega) h
 have hl : @List.length HT.T hs = hs.length := rfl
 have hlf : @List.length LT.T fl = fl.length := rfl
 have hm1 : (fl.getD k L0).1 = (f : Int) := by rw [hm]
 have hm2 : (fl.getD k L0).2.1 = (x : Int) := by rw [hm]
 have hm3 : (fl.getD k L0).2.2.1 = true := by rw [hm]
 have ho' : 0 ≤ (hs.getD x H0).2.2.2.1 ∧ (hs.getD x H0).2.2.2.1 ≤ 1000 := ho
 refine FnM.of_body tys_ok Try.func21 (by rfl) rfl Try.ntmps21 (by rw [Try.results21]) (by simp) ?_
 repeat' (first
 | refine W.seq ?_
 | refine W.block ?_
 | (refine W.regionM (id := 1) tys_ok [] [1] ?_; conv => whnf)
 | (refine W.resub (x := Code.region 6 _ _) (Γ' := ⟨[(0, .padr 1000000000 0), (1, .lit (.int .i64 ((k : Int)))), (5, .padr 6000 0)], [(1000000000, .box [.own 1000000001, .own 5]), (1000000001, .row 96 HT true (hs)), (5, .row 50 LT true (fl)), (6000, .box [.lit (.int .i64 (f : Int)), .lit (.int .i64 (x : Int)), .lit (.bool true)])]⟩) ?_ (W.regionM tys_ok [] [8] ?_); rotate_left; (conv => whnf))
 | (refine W.drawPhTo (id := 7) tys_ok [] mixed [0, 1, 2, 4, 0, 16, 40, 127] [([0, 1, 2, 4], 2, 63), ([6, 7], 0, 255)] ⟨[(0, .padr 1000000000 0), (5, .padr 6000 0), (6, .oadr 1000000001 4 x 0)], [(1000000000, .box [.own 1000000001, .own 5]), (1000000001, .row 96 HT true (hs)), (5, .row 50 LT true (era fl k)), (6000, .box [.lit (.int .i64 (f : Int)), .lit (.int .i64 (x : Int)), .lit (.bool true)])]⟩ (by decide +kernel) ?_ ?_ <;> (conv => whnf))
 | (refine W.regionM (id := 11) tys_ok [] [3] ?_; conv => whnf)
 | (refine W.region tys_ok [] ?_; conv => whnf)
 | (refine W.drawAll tys_ok [] mixed rfl ?_; conv => whnf)
 | (refine W.ret ?_; conv => whnf)
 | (refine W.skip ?_; conv => whnf)
 | (refine W.exit ?_; conv => whnf)
 | (refine callM_at (c1) ?_; conv => whnf)
 | (refine callM_at (c2) ?_; conv => whnf)
 | (refine callM_at (c3) ?_; conv => whnf)
 | (refine Both.mk ?_ ?_ <;> (conv => whnf))
 | (refine W.cond rfl (fun hb => ?_) (fun hb => ?_) <;> (try simp only [zr, zd, zm, minL, maxL, pickB, zA] at hb) <;> (try (first | (cases hb; done) | exact absurd hb (by decide) | (exfalso; omega) | (omega) | ((simp [pickB] at hb; omega)) | ((simp_all; done)))))
 | (refine Or.inl (And.intro trivial ?_); (conv => whnf))
 | ((with_reducible refine And.intro ?_ ?_); exact zc; conv => whnf)
 | ((with_reducible refine And.intro (Side.out ?_) ?_); rotate_left; (conv => whnf))
 | ((first | refine retM1 ?_ | refine retM2 ?_ | refine subF.leaf ?_ | refine subF.side ?_) <;> (conv => whnf) <;> repeat' (first
 | exact trivial
 | (with_reducible rfl)
 | ((with_reducible refine And.intro ?_ ?_) <;> conv => whnf)
 | omega
 | rfl
 | (refine congrArg (SV.arr _) ?_)
 | (refine congrArg (Value.int _) ?_)
 | (refine congrArg Value.bool ?_)))); all_goals (try unfold Side)
 all_goals try (repeat' (first | exact zb | with_reducible refine And.intro ?_ ?_))
set_option maxHeartbeats 4000000 in
theorem deliver_eng {k f x : Nat} (h0 : 0 < hs.length) (hk : k < fl.length) (hfl : fl.length ≤ 1000) (hx : x < hs.length) (hm : fl.getD k L0 = ((f : Int), (x : Int), false, ())) (he : ge hs x = true) :
  FnM Try.prog 21 [.padr 1000000000 0, .lit (.int .i64 (k : Int))] [(1000000000, .box [.own 1000000001, .own 5]), (1000000001, .row 96 HT true (hs)), (5, .row 50 LT true (fl))] (.lit (.int .i64 0)) [(1000000000, .box [.own 1000000001, .own 5]), (1000000001, .row 96 HT true (setW hs x true)), (5, .row 50 LT true (era fl k ++ [((x : Int), (f : Int), true, ())]))] := by
 have c1 := is_at (fl := fl) h0
 have c2 := FnM.del (τ := LT) (fr := true) (xs := fl) (a := (k : Int)) (b := (k : Int) + 1) (i := k) (j := k + 1) del_letter rfl (by omega) (by omega) (by show k + 1 ≤ fl.length; omega) (by show fl.length ≤ _; omega)
 have hel := era_len hk
 have hl : @List.length HT.T hs = hs.length := rfl
 have hlf : @List.length LT.T fl = fl.length := rfl
 have hle : @List.length LT.T (era fl k) = (era fl k).length := rfl
 have hm1 : (fl.getD k L0).1 = (f : Int) := by rw [hm]
 have hm2 : (fl.getD k L0).2.1 = (x : Int) := by rw [hm]
 have hm3 : (fl.getD k L0).2.2.1 = false := by rw [hm]
 have he' : (hs.getD x H0).2.1 = true := he
 refine FnM.of_body tys_ok Try.func21 (by rfl) rfl Try.ntmps21 (by rw [Try.results21]) (by simp) ?_
 repeat' (first
 | refine W.seq ?_
 | refine W.block ?_
 | (refine W.regionM (id := 1) tys_ok [] [1] ?_; conv => whnf)
 | (refine W.resub (x := Code.region 6 _ _) (Γ' := ⟨[(0, .padr 1000000000 0), (1, .lit (.int .i64 ((k : Int)))), (5, .padr 6000 0)], [(1000000000, .box [.own 1000000001, .own 5]), (1000000001, .row 96 HT true (hs)), (5, .row 50 LT true (fl)), (6000, .box [.lit (.int .i64 (f : Int)), .lit (.int .i64 (x : Int)), .lit (.bool false)])]⟩) ?_ (W.regionM tys_ok [] [8] ?_); rotate_left; (conv => whnf))
 | (refine W.drawPhTo (id := 7) tys_ok [] mixed [0, 1, 2, 4, 0, 16, 40, 127] [([0, 1, 2, 4], 2, 63), ([6, 7], 0, 255)] ⟨[(0, .padr 1000000000 0), (5, .padr 6000 0), (6, .oadr 1000000001 4 x 0)], [(1000000000, .box [.own 1000000001, .own 5]), (1000000001, .row 96 HT true (hs)), (5, .row 50 LT true (era fl k)), (6000, .box [.lit (.int .i64 (f : Int)), .lit (.int .i64 (x : Int)), .lit (.bool false)])]⟩ (by decide +kernel) ?_ ?_ <;> (conv => whnf))
 | (refine W.resub (x := Code.region 14 _ _) (Γ' := ⟨[(0, .padr 1000000000 0), (5, .padr 6000 0)], [(1000000000, .box [.own 1000000001, .own 5]), (1000000001, .row 96 HT true (setW hs x true)), (5, .row 50 LT true (era fl k)), (6000, .box [.lit (.int .i64 (f : Int)), .lit (.int .i64 (x : Int)), .lit (.bool false)])]⟩) ?_ ?_; rotate_left; refine W.drawPhTo (id := 14) tys_ok [] mixed [0, 0, 2, 4, 8, 0, 32, 0, 128, 320, 512, 1040, 4095, 8191, 12287] [([0, 1, 2, 3, 5, 7], 5, 2047), ([], 1, 4095), ([12, 13], 1, 32767)] ⟨[(0, .padr 1000000000 0)], [(1000000000, .box [.own 1000000001, .own 5]), (1000000001, .row 96 HT true (setW hs x true)), (5, .row 50 LT true (era fl k ++ [((x : Int), (f : Int), true, ())]))]⟩ (by decide +kernel) ?_ ?_; (conv => whnf); rotate_left; (conv => whnf))
 | (refine W.region tys_ok [] ?_; conv => whnf)
 | (refine W.drawAll tys_ok [] mixed rfl ?_; conv => whnf)
 | (refine W.ret ?_; conv => whnf)
 | (refine W.skip ?_; conv => whnf)
 | (refine W.exit ?_; conv => whnf)
 | (refine callM_at (c1) ?_; conv => whnf)
 | (refine callM_at (c2) ?_; conv => whnf)
 | (refine Both.mk ?_ ?_ <;> (conv => whnf))
 | (refine W.cond rfl (fun hb => ?_) (fun hb => ?_) <;> (try simp only [zr, zd, zm, minL, maxL, pickB, zA] at hb) <;> (try (first | (cases hb; done) | exact absurd hb (by decide) | (exfalso; omega) | (omega) | ((simp [pickB] at hb; omega)) | ((simp_all; done)))))
 | (refine Or.inl (And.intro trivial ?_); (conv => whnf))
 | ((with_reducible refine And.intro ?_ ?_); exact zc; conv => whnf)
 | ((with_reducible refine And.intro (Side.out ?_) ?_); rotate_left; (conv => whnf))
 | ((first | refine retM1 ?_ | refine retM2 ?_ | refine subF.leaf ?_ | refine subF.side ?_) <;> (conv => whnf) <;> repeat' (first
 | exact trivial
 | (with_reducible rfl)
 | ((with_reducible refine And.intro ?_ ?_) <;> conv => whnf)
 | omega
 | rfl
 | (refine congrArg (SV.arr _) ?_)
 | (refine congrArg (Value.int _) ?_)
 | (refine congrArg Value.bool ?_)))); all_goals (try unfold Side)
 all_goals try (repeat' (first | exact zb | with_reducible refine And.intro ?_ ?_))
set_option maxHeartbeats 4000000 in
theorem deliver_new {k f x : Nat} (h0 : 0 < hs.length) (hk : k < fl.length) (hfl : fl.length ≤ 1000) (hx : x < hs.length) (hm : fl.getD k L0 = ((f : Int), (x : Int), false, ())) (he : ge hs x = false) :
  FnM Try.prog 21 [.padr 1000000000 0, .lit (.int .i64 (k : Int))] [(1000000000, .box [.own 1000000001, .own 5]), (1000000001, .row 96 HT true (hs)), (5, .row 50 LT true (fl))] (.lit (.int .i64 0)) [(1000000000, .box [.own 1000000001, .own 5]), (1000000001, .row 96 HT true (hs.set x (true, true, (f : Int), go hs x, ()))), (5, .row 50 LT true (era fl k))] := by
 have c1 := is_at (fl := fl) h0
 have c2 := FnM.del (τ := LT) (fr := true) (xs := fl) (a := (k : Int)) (b := (k : Int) + 1) (i := k) (j := k + 1) del_letter rfl (by omega) (by omega) (by show k + 1 ≤ fl.length; omega) (by show fl.length ≤ _; omega)
 have hel := era_len hk
 have hl : @List.length HT.T hs = hs.length := rfl
 have hlf : @List.length LT.T fl = fl.length := rfl
 have hm1 : (fl.getD k L0).1 = (f : Int) := by rw [hm]
 have hm2 : (fl.getD k L0).2.1 = (x : Int) := by rw [hm]
 have hm3 : (fl.getD k L0).2.2.1 = false := by rw [hm]
 have he' : (hs.getD x H0).2.1 = false := he
 refine FnM.of_body tys_ok Try.func21 (by rfl) rfl Try.ntmps21 (by rw [Try.results21]) (by simp) ?_
 repeat' (first
 | refine W.seq ?_
 | refine W.block ?_
 | (refine W.regionM (id := 1) tys_ok [] [1] ?_; conv => whnf)
 | (refine W.resub (x := Code.region 6 _ _) (Γ' := ⟨[(0, .padr 1000000000 0), (1, .lit (.int .i64 ((k : Int)))), (5, .padr 6000 0)], [(1000000000, .box [.own 1000000001, .own 5]), (1000000001, .row 96 HT true (hs)), (5, .row 50 LT true (fl)), (6000, .box [.lit (.int .i64 (f : Int)), .lit (.int .i64 (x : Int)), .lit (.bool false)])]⟩) ?_ (W.regionM tys_ok [] [8] ?_); rotate_left; (conv => whnf))
 | (refine W.drawPhTo (id := 7) tys_ok [] mixed [0, 1, 2, 4, 0, 16, 40, 127] [([0, 1, 2, 4], 2, 63), ([6, 7], 0, 255)] ⟨[(0, .padr 1000000000 0), (5, .padr 6000 0), (6, .oadr 1000000001 4 x 0)], [(1000000000, .box [.own 1000000001, .own 5]), (1000000001, .row 96 HT true (hs)), (5, .row 50 LT true (era fl k)), (6000, .box [.lit (.int .i64 (f : Int)), .lit (.int .i64 (x : Int)), .lit (.bool false)])]⟩ (by decide +kernel) ?_ ?_ <;> (conv => whnf))
 | (refine W.drawPhTo (id := 8) tys_ok [] mixed [0, 0, 0, 0, 8, 1, 33, 65, 227, 483, 739, 2047, 4095, 6143] [([0, 1, 2, 3, 5, 6], 5, 2047), ([11, 12], 1, 16383)] ⟨[(0, .padr 1000000000 0)], [(1000000000, .box [.own 1000000001, .own 5]), (1000000001, .row 96 HT true (hs.set x (true, true, (f : Int), go hs x, ()))), (5, .row 50 LT true (era fl k))]⟩ (by decide +kernel) ?_ ?_ <;> (conv => whnf))
 | (refine W.region tys_ok [] ?_; conv => whnf)
 | (refine W.drawAll tys_ok [] mixed rfl ?_; conv => whnf)
 | (refine W.ret ?_; conv => whnf)
 | (refine W.skip ?_; conv => whnf)
 | (refine W.exit ?_; conv => whnf)
 | (refine callM_at (c1) ?_; conv => whnf)
 | (refine callM_at (c2) ?_; conv => whnf)
 | (refine Both.mk ?_ ?_ <;> (conv => whnf))
 | (refine W.cond rfl (fun hb => ?_) (fun hb => ?_) <;> (try simp only [zr, zd, zm, minL, maxL, pickB, zA] at hb) <;> (try (first | (cases hb; done) | exact absurd hb (by decide) | (exfalso; omega) | (omega) | ((simp [pickB] at hb; omega)) | ((simp_all; done)))))
 | (refine Or.inl (And.intro trivial ?_); (conv => whnf))
 | ((with_reducible refine And.intro ?_ ?_); exact zc; conv => whnf)
 | ((with_reducible refine And.intro (Side.out ?_) ?_); rotate_left; (conv => whnf))
 | ((first | refine retM1 ?_ | refine retM2 ?_ | refine subF.leaf ?_ | refine subF.side ?_) <;> (conv => whnf) <;> repeat' (first
 | exact trivial
 | (with_reducible rfl)
 | ((with_reducible refine And.intro ?_ ?_) <;> conv => whnf)
 | omega
 | rfl
 | (refine congrArg (SV.arr _) ?_)
 | (refine congrArg (Value.int _) ?_)
 | (refine congrArg Value.bool ?_)))); all_goals (try unfold Side)
 all_goals try (repeat' (first | exact zb | with_reducible refine And.intro ?_ ?_))
 all_goals first | exact st_len1 hx | exact st_len2 hx | exact st_all hx
open Go Go.Vc Go.Rg
variable {hs : List Hd} {fl : List Lt}
theorem parent_in {i : Nat} (hi : i < hs.length) : FnM Try.prog 24 [.padr 1000000000 0, .lit (.int .i64 (i : Int))] [(1000000000, .box [.own 1000000001, .own 1000000002]), (1000000001, .row 96 HT true (hs)), (1000000002, .row 50 LT true (fl))] (.lit (.int .i64 (gp hs i))) [(1000000000, .box [.own 1000000001, .own 1000000002]), (1000000001, .row 96 HT true (hs)), (1000000002, .row 50 LT true (fl))] := by
 have c1 := is_at (hs := hs) (fl := fl) (by omega)
 have c2 := has_at (hs := hs) (fl := fl) (l := [(i : Int)]) (b := true) (by simp) (by simp [has_of hi])
 have hl : @List.length HT.T hs = hs.length := rfl
 refine FnM.of_body tys_ok Try.func24 (by rfl) rfl Try.ntmps24 (by rw [Try.results24]) (by simp) ?_
 repeat' (first
 | refine W.seq ?_
 | refine W.block ?_
 | (refine W.regionM (id := 1) tys_ok [11] [1,7] ?_; conv => whnf)
 | (refine W.region tys_ok [11] ?_; conv => whnf)
 | (refine W.drawAll tys_ok [11] mixed rfl ?_; conv => whnf)
 | (refine W.ret ?_; conv => whnf)
 | (refine W.skip ?_; conv => whnf)
 | (refine W.exit ?_; conv => whnf)
 | (refine callM_at (c1) ?_; conv => whnf)
 | (refine callM_at (c2) ?_; conv => whnf)
 | (refine W.cond rfl (fun hb => ?_) (fun hb => ?_) <;> (try simp only [zr, zd, zm, minL, maxL, pickB, zA] at hb) <;> (try (first | (cases hb; done) | exact absurd hb (by decide) | (exfalso; omega) | (omega) | ((simp_all; done)))))
 | (refine Or.inl (And.intro ?_ ?_); exact zi; conv => whnf)
 | (refine Or.inr (And.intro ?_ ?_); exact zj; conv => whnf)
 | ((with_reducible refine And.intro ?_ ?_); exact zc; conv => whnf)
 | ((with_reducible refine And.intro (Side.out ?_) ?_); rotate_left; (conv => whnf))
 | ((first | refine retM1 ?_ | refine retM2 ?_) <;> (conv => whnf) <;> repeat' (first
 | exact trivial
 | (with_reducible rfl)
 | ((with_reducible refine And.intro ?_ ?_) <;> conv => whnf)
 | omega
 | rfl
 | (refine congrArg (SV.arr _) ?_)
 | (refine congrArg (Value.int _) ?_)
 | (refine congrArg Value.bool ?_)))); all_goals (try unfold Side)
 all_goals try (repeat' (first | exact zb | with_reducible refine And.intro ?_ ?_))
theorem ended_at {b : Bool} (h0 : 0 < hs.length) (h : b = endB (hs, fl)) : FnM Try.prog 22 [.padr 1000000000 0] [(1000000000, .box [.own 1000000001, .own 1000000002]), (1000000001, .row 96 HT true (hs)), (1000000002, .row 50 LT true (fl))] (.lit (.bool b)) [(1000000000, .box [.own 1000000001, .own 1000000002]), (1000000001, .row 96 HT true (hs)), (1000000002, .row 50 LT true (fl))] := by
 subst h
 have c1 := is_at (hs := hs) (fl := fl) h0
 have hl : @List.length HT.T hs = hs.length := rfl
 refine FnM.of_body tys_ok Try.func22 (by rfl) rfl Try.ntmps22 (by rw [Try.results22]) (by simp) ?_
 repeat' (first
 | refine W.seq ?_
 | refine W.block ?_
 | (refine W.regionM (id := 1) tys_ok [] [1] ?_; conv => whnf)
 | (refine W.region tys_ok [] ?_; conv => whnf)
 | (refine W.drawAll tys_ok [] mixed rfl ?_; conv => whnf)
 | (refine W.ret ?_; conv => whnf)
 | (refine W.skip ?_; conv => whnf)
 | (refine W.exit ?_; conv => whnf)
 | (refine callM_at (c1) ?_; conv => whnf)
 | (refine W.cond rfl (fun hb => ?_) (fun hb => ?_) <;> (try simp only [zr, zd, zm, minL, maxL, pickB, zA] at hb) <;> (try (first | (cases hb; done) | exact absurd hb (by decide) | (exfalso; omega) | (omega) | ((simp_all; done)))))
 | (refine Or.inl (And.intro trivial ?_); (conv => whnf))
 | ((with_reducible refine And.intro ?_ ?_); exact zc; conv => whnf)
 | ((with_reducible refine And.intro (Side.out ?_) ?_); rotate_left; (conv => whnf))
 | ((first | refine retM1 ?_ | refine retM2 ?_) <;> (conv => whnf) <;> repeat' (first
 | exact trivial
 | (with_reducible rfl)
 | ((with_reducible refine And.intro ?_ ?_) <;> conv => whnf)
 | omega
 | rfl
 | (refine congrArg (SV.arr _) ?_)
 | (refine congrArg (Value.int _) ?_)
 | (refine congrArg Value.bool ?_)))); all_goals (try unfold Side)
 all_goals try (repeat' (first | exact zb | with_reducible refine And.intro ?_ ?_))
theorem beg_all {n : Nat} (h : 1 ≤ n) : st2 (st1 (List.replicate n ((false, false, -1, 0, ()) : Hd)) 0) 0 = (begL n).1 := by
 have hx : 0 < (List.replicate n ((false, false, -1, 0, ()) : Hd)).length := by rw [List.length_replicate]; omega
 have e0 : (List.replicate n ((false, false, -1, 0, ()) : Hd)).getD 0 H0 = (false, false, -1, 0, ()) := by
  obtain ⟨m, rfl⟩ : ∃ m, n = m + 1 := ⟨n - 1, by omega⟩
  rfl
 have e1 : (st1 (List.replicate n ((false, false, -1, 0, ()) : Hd)) 0).getD 0 H0 = (true, false, -1, 0, ()) := by unfold st1; rw [Rg.getD_set hx, if_pos rfl, e0]
 unfold st2
 rw [e1]
 unfold st1
 rw [List.set_set]
 rfl
theorem begin_at {n : Nat} (h1 : 1 ≤ n) (h2 : n ≤ 10) : FnM Try.prog 36 [.lit (.int .i64 (n : Int))] [] (.tup [.padr 0 0, .lit (.int .i64 (0 : Int))]) [(0, .box [.own 1, .own 2]), (1, .row 96 HT true ((begL n).1)), (2, .row 50 LT true ((begL n).2))] := by
 refine FnM.of_body tys_ok Try.func36 (by rfl) rfl Try.ntmps36 (by rw [Try.results36]) (by simp) ?_
 repeat' (first
 | refine W.seq ?_
 | refine W.block ?_
 | (refine W.region tys_ok [] ?_; conv => whnf)
 | (refine W.drawAll tys_ok [] mixed rfl ?_; conv => whnf)
 | (refine W.ret ?_; conv => whnf)
 | (refine W.skip ?_; conv => whnf)
 | (refine W.exit ?_; conv => whnf)
 | (refine W.cond rfl (fun hb => ?_) (fun hb => ?_) <;> (try simp only [zr, zd, zm, minL, maxL, pickB, zA] at hb) <;> (try (first | (cases hb; done) | exact absurd hb (by decide) | (exfalso; omega) | (omega) | ((simp [pickB] at hb; omega)))))
 | ((with_reducible refine And.intro ?_ ?_); exact zc; conv => whnf)
 | ((with_reducible refine And.intro (Side.out ?_) ?_); rotate_left; (conv => whnf))
 | ((first | refine retM1 ?_ | refine retM2 ?_) <;> (conv => whnf) <;> repeat' (first
 | exact trivial
 | (with_reducible rfl)
 | ((with_reducible refine And.intro ?_ ?_) <;> conv => whnf)
 | omega
 | rfl
 | (refine congrArg (SV.arr _) ?_)
 | (refine congrArg (Value.int _) ?_)
 | (refine congrArg Value.bool ?_)))); all_goals (try unfold Side)
 all_goals try (repeat' (first | exact zb | with_reducible refine And.intro ?_ ?_))
 refine W.loop (fun i : Nat => ⟨[(4, .padr 5000 0), (13, .lit (.int .i64 ((n : Int)))), (14, .lit (.int .i64 ((i : Int))))], [(5000, .box [.own 5001, .lit (.slice none 0 0)]), (5001, .row 96 HT true (List.replicate i ((false, false, -1, 0, ()) : Hd)))]⟩) (fun i => i ≤ n) (fun i => n - i) (0) ?_ ?_
 · refine ⟨Nat.zero_le _, ?_⟩
   refine subF.ok ?_ <;> (conv => whnf) <;> repeat' (first
 | exact trivial
 | (with_reducible rfl)
 | ((with_reducible refine And.intro ?_ ?_) <;> conv => whnf)
 | omega
 | rfl
 | (refine congrArg (SV.arr _) ?_)
 | (refine congrArg (Value.int _) ?_)
 | (refine congrArg Value.bool ?_))
 · intro i hi
   by_cases hin : i < n
   · have e1 : List.replicate i ((false, false, -1, 0, ()) : Hd) ++ [(false, false, -1, 0, ())] = List.replicate (i + 1) (false, false, -1, 0, ()) := by rw [List.replicate_succ']
     have e2 : @List.length HT.T (List.replicate i ((false, false, -1, 0, ()) : Hd)) = i := List.length_replicate
     repeat' (first
 | refine W.seq ?_
 | refine W.block ?_
 | (refine W.region tys_ok [] ?_; conv => whnf)
 | (refine W.drawAll tys_ok [] mixed rfl ?_; conv => whnf)
 | (refine W.ret ?_; conv => whnf)
 | (refine W.skip ?_; conv => whnf)
 | (refine W.exit ?_; conv => whnf)
 | (refine W.cond rfl (fun hb => ?_) (fun hb => ?_) <;> (try simp only [zr, zd, zm, minL, maxL, pickB, zA] at hb) <;> (try (first | (cases hb; done) | exact absurd hb (by decide) | (exfalso; omega) | (omega))))
 | ((with_reducible refine And.intro ?_ ?_); exact zc; conv => whnf)
 | ((with_reducible refine And.intro (Side.out ?_) ?_); rotate_left; (conv => whnf))
 | ((first | refine retM1 ?_ | refine retM2 ?_) <;> (conv => whnf) <;> repeat' (first
 | exact trivial
 | (with_reducible rfl)
 | ((with_reducible refine And.intro ?_ ?_) <;> conv => whnf)
 | omega
 | rfl
 | (refine congrArg (SV.arr _) ?_)
 | (refine congrArg (Value.int _) ?_)
 | (refine congrArg Value.bool ?_)))); all_goals (try unfold Side)
     all_goals try (repeat' (first | exact zb | with_reducible refine And.intro ?_ ?_))
     refine ⟨i + 1, ⟨by omega, by omega⟩, ?_⟩
     refine subF.ok ?_ <;> (conv => whnf) <;> repeat' (first
 | exact trivial
 | (with_reducible rfl)
 | ((with_reducible refine And.intro ?_ ?_) <;> conv => whnf)
 | omega
 | rfl
 | (refine congrArg (SV.arr _) ?_)
 | (refine congrArg (Value.int _) ?_)
 | (refine congrArg Value.bool ?_))
     all_goals exact e1
   · have hie : i = n := by omega
     subst hie
     have e2 : @List.length HT.T (List.replicate i ((false, false, -1, 0, ()) : Hd)) = i := List.length_replicate
     have hx : 0 < (List.replicate i ((false, false, -1, 0, ()) : Hd)).length := by rw [List.length_replicate]; omega
     repeat' (first
 | refine W.seq ?_
 | refine W.block ?_
 | (refine W.drawPhTo (id := 8) tys_ok [] mixed [0, 1, 2, 4, 0, 16, 32, 64, 143, 399, 655, 2047, 4095, 6143] [([0, 1, 2, 4, 5, 6], 2, 255), ([8, 9], 1, 2047), ([11, 12], 1, 16383)] ⟨[(4, .padr 5000 0)], [(5000, .box [.own 5001, .lit (.slice none 0 0)]), (5001, .row 96 HT true (begL i).1)]⟩ (by decide +kernel) ?_ ?_ <;> (conv => whnf))
 | (refine W.region tys_ok [] ?_; conv => whnf)
 | (refine W.drawAll tys_ok [] mixed rfl ?_; conv => whnf)
 | (refine W.ret ?_; conv => whnf)
 | (refine W.skip ?_; conv => whnf)
 | (refine W.exit ?_; conv => whnf)
 | (refine Both.mk ?_ ?_ <;> (conv => whnf))
 | (refine W.cond rfl (fun hb => ?_) (fun hb => ?_) <;> (try simp only [zr, zd, zm, minL, maxL, pickB, zA] at hb) <;> (try (first | (cases hb; done) | exact absurd hb (by decide) | (exfalso; omega) | (omega))))
 | ((with_reducible refine And.intro ?_ ?_); exact zc; conv => whnf)
 | ((with_reducible refine And.intro (Side.out ?_) ?_); rotate_left; (conv => whnf))
 | ((first | refine retM1 ?_ | refine retM2 ?_ | refine subF.leaf ?_ | refine subF.side ?_) <;> (conv => whnf) <;> repeat' (first
 | exact trivial
 | (with_reducible rfl)
 | ((with_reducible refine And.intro ?_ ?_) <;> conv => whnf)
 | omega
 | rfl
 | (refine congrArg (SV.arr _) ?_)
 | (refine congrArg (Value.int _) ?_)
 | (refine congrArg Value.bool ?_)))); all_goals (try unfold Side)
     all_goals try (repeat' (first | exact zb | with_reducible refine And.intro ?_ ?_))
     all_goals first | exact beg_all h1 | exact st_len1 hx | exact Path.imp_of ⟨by omega, st_len1 hx⟩
end Go.Proofs.Ytkjcnegkdlmapaa
