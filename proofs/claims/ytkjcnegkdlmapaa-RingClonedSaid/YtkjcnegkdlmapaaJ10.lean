/- Joined of: K10 K11 K13 R5 R7. No condition. -/
import Derived.Test.YtkjcnegkdlmapaaJ5
import Derived.Test.YtkjcnegkdlmapaaJ9
import Derived.Test.YtkjcnegkdlmapaaJ7
set_option linter.unusedVariables false
set_option linter.unusedSimpArgs false
namespace Go.Proofs.Ytkjcnegkdlmapaa
open Int renaming reduceToNat → zr, reduceTDiv → zd, reduceTMod → zm
open Go Go.Vc Go.Rg
variable {hs : List Hd} {fl : List Lt}
theorem leave_at {i : Nat} {h2 : List Hd} {f2 : List Lt} (hi : i < hs.length) (hfl : fl.length ≤ 1000) (h : settL i (hs, fl) = (h2, f2)) : FnM Try.prog 73 [.padr 1000000000 0, .lit (.int .i64 (i : Int))] [(1000000000, .box [.own 1000000001, .own 5]), (1000000001, .row 93 HT true (hs)), (5, .row 50 LT true (fl))] (.tup []) [(1000000000, .box [.own 1000000001, .own 5]), (1000000001, .row 93 HT true (h2)), (5, .row 50 LT true (f2))] := by
 cases g : goesB hs i with
 | false =>
  rw [settL, if_neg (by rw [g]; decide)] at h
  cases h
  exact leave_no hi g
 | true =>
  rw [settL, if_pos g] at h
  have e1 : h2 = (leftL i (hs, fl)).1 := by rw [h]
  have e2 : f2 = (leftL i (hs, fl)).2 := by rw [h]
  rw [e1, e2]
  exact leave_yes hi hfl g
theorem rsend_arg {a b : Int} (hl : hs.length ≤ 1000) (h : (hasB hs.length a && hasB hs.length b) = false) : FnM Try.prog 39 [.padr 1000000000 0, (.lit (.int .i64 (a : Int))), (.lit (.int .i64 (b : Int)))] [(1000000000, .box [.own 1000000001, .own 5]), (1000000001, .row 93 HT true (hs)), (5, .row 50 LT true (fl))] (.lit (.int .i64 (1 : Int))) [(1000000000, .box [.own 1000000001, .own 5]), (1000000001, .row 93 HT true (hs)), (5, .row 50 LT true (fl))] := by
 have c1 := exists_at (fl := fl) (i := a) (b := hasB hs.length a) hl rfl
 have c2 := exists_at (fl := fl) (i := b) (b := hasB hs.length b) hl rfl
 cases ha : hasB hs.length a with
 | false =>
  rw [ha] at c1
  refine FnM.of_body tys_ok Try.func39 (by rfl) rfl Try.ntmps39 (by rw [Try.results39]) (by simp) ?_
  repeat' (first
 | refine W.seq ?_
 | refine W.block ?_
 | (refine W.regionM (id := 1) tys_ok [] [2,7] ?_; conv => whnf)
 | (refine W.region tys_ok [] ?_; conv => whnf)
 | (refine W.drawAll tys_ok [] mixed rfl ?_; conv => whnf)
 | (refine W.ret ?_; conv => whnf)
 | (refine W.skip ?_; conv => whnf)
 | (refine W.exit ?_; conv => whnf)
 | (refine callM_at (c1) ?_; clear c1; conv => whnf)
 | (refine callM_at (c2) ?_; conv => whnf)
 | (refine W.cond rfl (fun hb => ?_) (fun hb => ?_) <;> (try simp only [zr, zd, zm, minL, maxL, pickB, zA] at hb) <;> (try (first | (cases hb; done) | exact absurd hb (by decide) | (exfalso; omega) | (omega) | ((simp_all; done)))))
 | (refine Or.inl (And.intro ?_ ?_); exact zi; conv => whnf)
 | (refine Or.inr (And.intro ?_ ?_); exact zj; conv => whnf)
 | ((with_reducible refine And.intro ?_ ?_); exact zc; conv => whnf)
 | ((with_reducible refine And.intro (Side.out ?_) ?_); rotate_left; (conv => whnf))
 | ((first | refine retM1 ?_ | refine retM2 ?_) <;> (conv => whnf) <;> repeat' (first
 | exact trivial
 | (with_reducible rfl)
 | ((with_reducible refine And.intro ?_ ?_) <;> conv => whnf)
 | omega
 | rfl
 | (refine congrArg (SV.arr _) ?_)
 | (refine congrArg (Value.int _) ?_)
 | (refine congrArg Value.bool ?_)))); all_goals (try unfold Side)
  all_goals try (repeat' (first | exact zb | with_reducible refine And.intro ?_ ?_))
 | true =>
  rw [ha] at c1 h
  rw [Bool.true_and] at h
  rw [h] at c2
  refine FnM.of_body tys_ok Try.func39 (by rfl) rfl Try.ntmps39 (by rw [Try.results39]) (by simp) ?_
  repeat' (first
 | refine W.seq ?_
 | refine W.block ?_
 | (refine W.regionM (id := 1) tys_ok [] [2,7] ?_; conv => whnf)
 | (refine W.region tys_ok [] ?_; conv => whnf)
 | (refine W.drawAll tys_ok [] mixed rfl ?_; conv => whnf)
 | (refine W.ret ?_; conv => whnf)
 | (refine W.skip ?_; conv => whnf)
 | (refine W.exit ?_; conv => whnf)
 | (refine callM_at (c1) ?_; clear c1; conv => whnf)
 | (refine callM_at (c2) ?_; conv => whnf)
 | (refine W.cond rfl (fun hb => ?_) (fun hb => ?_) <;> (try simp only [zr, zd, zm, minL, maxL, pickB, zA] at hb) <;> (try (first | (cases hb; done) | exact absurd hb (by decide) | (exfalso; omega) | (omega) | ((simp_all; done)))))
 | (refine Or.inl (And.intro ?_ ?_); exact zi; conv => whnf)
 | (refine Or.inr (And.intro ?_ ?_); exact zj; conv => whnf)
 | ((with_reducible refine And.intro ?_ ?_); exact zc; conv => whnf)
 | ((with_reducible refine And.intro (Side.out ?_) ?_); rotate_left; (conv => whnf))
 | ((first | refine retM1 ?_ | refine retM2 ?_) <;> (conv => whnf) <;> repeat' (first
 | exact trivial
 | (with_reducible rfl)
 | ((with_reducible refine And.intro ?_ ?_) <;> conv => whnf)
 | omega
 | rfl
 | (refine congrArg (SV.arr _) ?_)
 | (refine congrArg (Value.int _) ?_)
 | (refine congrArg Value.bool ?_)))); all_goals (try unfold Side)
  all_goals try (repeat' (first | exact zb | with_reducible refine And.intro ?_ ?_))
theorem rsend_none {a b : Nat} (hhl : hs.length ≤ 1000) (ha : a < hs.length) (hb : b < hs.length) (hw : gw hs a = false) : FnM Try.prog 39 [.padr 1000000000 0, (.lit (.int .i64 (a : Int))), (.lit (.int .i64 (b : Int)))] [(1000000000, .box [.own 1000000001, .own 5]), (1000000001, .row 93 HT true (hs)), (5, .row 50 LT true (fl))] (.lit (.int .i64 (5 : Int))) [(1000000000, .box [.own 1000000001, .own 5]), (1000000001, .row 93 HT true (hs)), (5, .row 50 LT true (fl))] := by
 have c1 := exists_at (fl := fl) (i := (a : Int)) (b := true) hhl (has_of ha).symm
 have c2 := exists_at (fl := fl) (i := (b : Int)) (b := true) hhl (has_of hb).symm
 have hw' : (hs.getD a H0).1 = false := hw
 have hl : @List.length HT.T hs = hs.length := rfl
 refine FnM.of_body tys_ok Try.func39 (by rfl) rfl Try.ntmps39 (by rw [Try.results39]) (by simp) ?_
 repeat' (first
 | refine W.seq ?_
 | refine W.block ?_
 | (refine W.regionM (id := 1) tys_ok [] [2,7] ?_; conv => whnf)
 | (refine W.region tys_ok [] ?_; conv => whnf)
 | (refine W.drawAll tys_ok [] mixed rfl ?_; conv => whnf)
 | (refine W.ret ?_; conv => whnf)
 | (refine W.skip ?_; conv => whnf)
 | (refine W.exit ?_; conv => whnf)
 | (refine callM_at (c1) ?_; clear c1; conv => whnf)
 | (refine callM_at (c2) ?_; conv => whnf)
 | (refine W.cond rfl (fun hb => ?_) (fun hb => ?_) <;> (try simp only [zr, zd, zm, minL, maxL, pickB, zA] at hb) <;> (try (first | (cases hb; done) | exact absurd hb (by decide) | (exfalso; omega) | (omega) | ((simp_all; done)))))
 | (refine Or.inl (And.intro ?_ ?_); exact zi; conv => whnf)
 | (refine Or.inr (And.intro ?_ ?_); exact zj; conv => whnf)
 | ((with_reducible refine And.intro ?_ ?_); exact zc; conv => whnf)
 | ((with_reducible refine And.intro (Side.out ?_) ?_); rotate_left; (conv => whnf))
 | ((first | refine retM1 ?_ | refine retM2 ?_) <;> (conv => whnf) <;> repeat' (first
 | exact trivial
 | (with_reducible rfl)
 | ((with_reducible refine And.intro ?_ ?_) <;> conv => whnf)
 | omega
 | rfl
 | (refine congrArg (SV.arr _) ?_)
 | (refine congrArg (Value.int _) ?_)
 | (refine congrArg Value.bool ?_)))); all_goals (try unfold Side)
 all_goals try (repeat' (first | exact zb | with_reducible refine And.intro ?_ ?_))
theorem rsend_full {a b : Nat} (hhl : hs.length ≤ 1000) (ha : a < hs.length) (hb : b < hs.length) (hw : gw hs a = true) (hf : 200 ≤ fl.length) : FnM Try.prog 39 [.padr 1000000000 0, (.lit (.int .i64 (a : Int))), (.lit (.int .i64 (b : Int)))] [(1000000000, .box [.own 1000000001, .own 5]), (1000000001, .row 93 HT true (hs)), (5, .row 50 LT true (fl))] (.lit (.int .i64 (7 : Int))) [(1000000000, .box [.own 1000000001, .own 5]), (1000000001, .row 93 HT true (hs)), (5, .row 50 LT true (fl))] := by
 have c1 := exists_at (fl := fl) (i := (a : Int)) (b := true) hhl (has_of ha).symm
 have c2 := exists_at (fl := fl) (i := (b : Int)) (b := true) hhl (has_of hb).symm
 have hw' : (hs.getD a H0).1 = true := hw
 have hl : @List.length HT.T hs = hs.length := rfl
 have hlf : @List.length LT.T fl = fl.length := rfl
 refine FnM.of_body tys_ok Try.func39 (by rfl) rfl Try.ntmps39 (by rw [Try.results39]) (by simp) ?_
 repeat' (first
 | refine W.seq ?_
 | refine W.block ?_
 | (refine W.regionM (id := 1) tys_ok [] [2,7] ?_; conv => whnf)
 | (refine W.region tys_ok [] ?_; conv => whnf)
 | (refine W.drawAll tys_ok [] mixed rfl ?_; conv => whnf)
 | (refine W.ret ?_; conv => whnf)
 | (refine W.skip ?_; conv => whnf)
 | (refine W.exit ?_; conv => whnf)
 | (refine callM_at (c1) ?_; clear c1; conv => whnf)
 | (refine callM_at (c2) ?_; conv => whnf)
 | (refine W.cond rfl (fun hb => ?_) (fun hb => ?_) <;> (try simp only [zr, zd, zm, minL, maxL, pickB, zA] at hb) <;> (try (first | (cases hb; done) | exact absurd hb (by decide) | (exfalso; omega) | (omega) | ((simp_all; done)))))
 | (refine Or.inl (And.intro ?_ ?_); exact zi; conv => whnf)
 | (refine Or.inr (And.intro ?_ ?_); exact zj; conv => whnf)
 | ((with_reducible refine And.intro ?_ ?_); exact zc; conv => whnf)
 | ((with_reducible refine And.intro (Side.out ?_) ?_); rotate_left; (conv => whnf))
 | ((first | refine retM1 ?_ | refine retM2 ?_) <;> (conv => whnf) <;> repeat' (first
 | exact trivial
 | (with_reducible rfl)
 | ((with_reducible refine And.intro ?_ ?_) <;> conv => whnf)
 | omega
 | rfl
 | (refine congrArg (SV.arr _) ?_)
 | (refine congrArg (Value.int _) ?_)
 | (refine congrArg Value.bool ?_)))); all_goals (try unfold Side)
 all_goals try (repeat' (first | exact zb | with_reducible refine And.intro ?_ ?_))
theorem rsend_ok {a b : Nat} (hhl : hs.length ≤ 1000) (ha : a < hs.length) (hb : b < hs.length) (hw : gw hs a = true) (hf : ¬ 200 ≤ fl.length) (ho : 0 ≤ go hs a ∧ go hs a ≤ 1000) : FnM Try.prog 39 [.padr 1000000000 0, (.lit (.int .i64 (a : Int))), (.lit (.int .i64 (b : Int)))] [(1000000000, .box [.own 1000000001, .own 5]), (1000000001, .row 93 HT true (hs)), (5, .row 50 LT true (fl))] (.lit (.int .i64 (0 : Int))) [(1000000000, .box [.own 1000000001, .own 5]), (1000000001, .row 93 HT true (setO hs a (go hs a + 1))), (5, .row 50 LT true (fl ++ [((a : Int), (b : Int), false, ())]))] := by
 have c1 := exists_at (fl := fl) (i := (a : Int)) (b := true) hhl (has_of ha).symm
 have c2 := exists_at (fl := fl) (i := (b : Int)) (b := true) hhl (has_of hb).symm
 have c3 := put_at (hs := setO hs a (go hs a + 1)) (fl := fl) (a := (a : Int)) (b := (b : Int)) (c := false) (by omega)
 have hw' : (hs.getD a H0).1 = true := hw
 have ho' : 0 ≤ (hs.getD a H0).2.2.2.1 ∧ (hs.getD a H0).2.2.2.1 ≤ 1000 := ho
 have hl : @List.length HT.T hs = hs.length := rfl
 have hlf : @List.length LT.T fl = fl.length := rfl
 refine FnM.of_body tys_ok Try.func39 (by rfl) rfl Try.ntmps39 (by rw [Try.results39]) (by simp) ?_
 repeat' (first
 | refine W.seq ?_
 | refine W.block ?_
 | (refine W.regionM (id := 1) tys_ok [] [2,7] ?_; conv => whnf)
 | (refine W.regionM (id := 8) tys_ok [] [4] ?_; conv => whnf)
 | (refine W.region tys_ok [] ?_; conv => whnf)
 | (refine W.drawAll tys_ok [] mixed rfl ?_; conv => whnf)
 | (refine W.ret ?_; conv => whnf)
 | (refine W.skip ?_; conv => whnf)
 | (refine W.exit ?_; conv => whnf)
 | (refine callM_at (c1) ?_; clear c1; conv => whnf)
 | (refine callM_at (c2) ?_; conv => whnf)
 | (refine callM_at (c3) ?_; conv => whnf)
 | (refine W.cond rfl (fun hb => ?_) (fun hb => ?_) <;> (try simp only [zr, zd, zm, minL, maxL, pickB, zA] at hb) <;> (try (first | (cases hb; done) | exact absurd hb (by decide) | (exfalso; omega) | (omega) | ((simp_all; done)))))
 | (refine Or.inl (And.intro ?_ ?_); exact zi; conv => whnf)
 | (refine Or.inr (And.intro ?_ ?_); exact zj; conv => whnf)
 | ((with_reducible refine And.intro ?_ ?_); exact zc; conv => whnf)
 | ((with_reducible refine And.intro (Side.out ?_) ?_); rotate_left; (conv => whnf))
 | ((first | refine retM1 ?_ | refine retM2 ?_) <;> (conv => whnf) <;> repeat' (first
 | exact trivial
 | (with_reducible rfl)
 | ((with_reducible refine And.intro ?_ ?_) <;> conv => whnf)
 | omega
 | rfl
 | (refine congrArg (SV.arr _) ?_)
 | (refine congrArg (Value.int _) ?_)
 | (refine congrArg Value.bool ?_)))); all_goals (try unfold Side)
 all_goals try (repeat' (first | exact zb | with_reducible refine And.intro ?_ ?_))
theorem ridle_arg {i : Int} (hhl : hs.length ≤ 1000) (h : hasB hs.length i = false) : FnM Try.prog 40 [.padr 1000000000 0, (.lit (.int .i64 (i : Int)))] [(1000000000, .box [.own 1000000001, .own 5]), (1000000001, .row 93 HT true (hs)), (5, .row 50 LT true (fl))] (.lit (.int .i64 (1 : Int))) [(1000000000, .box [.own 1000000001, .own 5]), (1000000001, .row 93 HT true (hs)), (5, .row 50 LT true (fl))] := by
 have c1 := exists_at (fl := fl) (i := i) (b := false) hhl h.symm
 refine FnM.of_body tys_ok Try.func40 (by rfl) rfl Try.ntmps40 (by rw [Try.results40]) (by simp) ?_
 repeat' (first
 | refine W.seq ?_
 | refine W.block ?_
 | (refine W.regionM (id := 1) tys_ok [] [2] ?_; conv => whnf)
 | (refine W.region tys_ok [] ?_; conv => whnf)
 | (refine W.drawAll tys_ok [] mixed rfl ?_; conv => whnf)
 | (refine W.ret ?_; conv => whnf)
 | (refine W.skip ?_; conv => whnf)
 | (refine W.exit ?_; conv => whnf)
 | (refine callM_at (c1) ?_; conv => whnf)
 | (refine W.cond rfl (fun hb => ?_) (fun hb => ?_) <;> (try simp only [zr, zd, zm, minL, maxL, pickB, zA] at hb) <;> (try (first | (cases hb; done) | exact absurd hb (by decide) | (exfalso; omega) | (omega))))
 | (refine Or.inl (And.intro trivial ?_); (conv => whnf))
 | ((with_reducible refine And.intro ?_ ?_); exact zc; conv => whnf)
 | ((with_reducible refine And.intro (Side.out ?_) ?_); rotate_left; (conv => whnf))
 | ((first | refine retM1 ?_ | refine retM2 ?_) <;> (conv => whnf) <;> repeat' (first
 | exact trivial
 | (with_reducible rfl)
 | ((with_reducible refine And.intro ?_ ?_) <;> conv => whnf)
 | omega
 | rfl
 | (refine congrArg (SV.arr _) ?_)
 | (refine congrArg (Value.int _) ?_)
 | (refine congrArg Value.bool ?_)))); all_goals (try unfold Side)
 all_goals try (repeat' (first | exact zb | with_reducible refine And.intro ?_ ?_))
theorem ridle_none {i : Nat} (hhl : hs.length ≤ 1000) (hi : i < hs.length) (hw : gw hs i = false) : FnM Try.prog 40 [.padr 1000000000 0, (.lit (.int .i64 (i : Int)))] [(1000000000, .box [.own 1000000001, .own 5]), (1000000001, .row 93 HT true (hs)), (5, .row 50 LT true (fl))] (.lit (.int .i64 (5 : Int))) [(1000000000, .box [.own 1000000001, .own 5]), (1000000001, .row 93 HT true (hs)), (5, .row 50 LT true (fl))] := by
 have c1 := exists_at (fl := fl) (i := (i : Int)) (b := true) hhl (has_of hi).symm
 have hw' : (hs.getD i H0).1 = false := hw
 have hl : @List.length HT.T hs = hs.length := rfl
 refine FnM.of_body tys_ok Try.func40 (by rfl) rfl Try.ntmps40 (by rw [Try.results40]) (by simp) ?_
 repeat' (first
 | refine W.seq ?_
 | refine W.block ?_
 | (refine W.regionM (id := 1) tys_ok [] [2] ?_; conv => whnf)
 | (refine W.region tys_ok [] ?_; conv => whnf)
 | (refine W.drawAll tys_ok [] mixed rfl ?_; conv => whnf)
 | (refine W.ret ?_; conv => whnf)
 | (refine W.skip ?_; conv => whnf)
 | (refine W.exit ?_; conv => whnf)
 | (refine callM_at (c1) ?_; conv => whnf)
 | (refine W.cond rfl (fun hb => ?_) (fun hb => ?_) <;> (try simp only [zr, zd, zm, minL, maxL, pickB, zA] at hb) <;> (try (first | (cases hb; done) | exact absurd hb (by decide) | (exfalso; omega) | (omega) | ((simp_all; done)))))
 | (refine Or.inl (And.intro trivial ?_); (conv => whnf))
 | ((with_reducible refine And.intro ?_ ?_); exact zc; conv => whnf)
 | ((with_reducible refine And.intro (Side.out ?_) ?_); rotate_left; (conv => whnf))
 | ((first | refine retM1 ?_ | refine retM2 ?_) <;> (conv => whnf) <;> repeat' (first
 | exact trivial
 | (with_reducible rfl)
 | ((with_reducible refine And.intro ?_ ?_) <;> conv => whnf)
 | omega
 | rfl
 | (refine congrArg (SV.arr _) ?_)
 | (refine congrArg (Value.int _) ?_)
 | (refine congrArg Value.bool ?_)))); all_goals (try unfold Side)
 all_goals try (repeat' (first | exact zb | with_reducible refine And.intro ?_ ?_))
theorem ridle_full {i : Nat} (hhl : hs.length ≤ 1000) (hi : i < hs.length) (hw : gw hs i = true) (hg : goesI hs i = true) (hf : 200 ≤ fl.length) : FnM Try.prog 40 [.padr 1000000000 0, (.lit (.int .i64 (i : Int)))] [(1000000000, .box [.own 1000000001, .own 5]), (1000000001, .row 93 HT true (hs)), (5, .row 50 LT true (fl))] (.lit (.int .i64 (7 : Int))) [(1000000000, .box [.own 1000000001, .own 5]), (1000000001, .row 93 HT true (hs)), (5, .row 50 LT true (fl))] := by
 have c1 := exists_at (fl := fl) (i := (i : Int)) (b := true) hhl (has_of hi).symm
 have c3 := rleaves_at (fl := fl) (b := true) hi hg.symm
 have hw' : (hs.getD i H0).1 = true := hw
 have hl : @List.length HT.T hs = hs.length := rfl
 have hlf : @List.length LT.T fl = fl.length := rfl
 refine FnM.of_body tys_ok Try.func40 (by rfl) rfl Try.ntmps40 (by rw [Try.results40]) (by simp) ?_
 repeat' (first
 | refine W.seq ?_
 | refine W.block ?_
 | (refine W.regionM (id := 1) tys_ok [] [2] ?_; conv => whnf)
 | (refine W.regionM (id := 5) tys_ok [] [2] ?_; conv => whnf)
 | (refine W.region tys_ok [] ?_; conv => whnf)
 | (refine W.drawAll tys_ok [] mixed rfl ?_; conv => whnf)
 | (refine W.ret ?_; conv => whnf)
 | (refine W.skip ?_; conv => whnf)
 | (refine W.exit ?_; conv => whnf)
 | (refine callM_at (c1) ?_; conv => whnf)
 | (refine callM_at (c3) ?_; conv => whnf)
 | (refine W.cond rfl (fun hb => ?_) (fun hb => ?_) <;> (try simp only [zr, zd, zm, minL, maxL, pickB, zA] at hb) <;> (try (first | (cases hb; done) | exact absurd hb (by decide) | (exfalso; omega) | (omega) | ((simp_all; done)))))
 | (refine Or.inl (And.intro trivial ?_); (conv => whnf))
 | ((with_reducible refine And.intro ?_ ?_); exact zc; conv => whnf)
 | ((with_reducible refine And.intro (Side.out ?_) ?_); rotate_left; (conv => whnf))
 | ((first | refine retM1 ?_ | refine retM2 ?_) <;> (conv => whnf) <;> repeat' (first
 | exact trivial
 | (with_reducible rfl)
 | ((with_reducible refine And.intro ?_ ?_) <;> conv => whnf)
 | omega
 | rfl
 | (refine congrArg (SV.arr _) ?_)
 | (refine congrArg (Value.int _) ?_)
 | (refine congrArg Value.bool ?_)))); all_goals (try unfold Side)
 all_goals try (repeat' (first | exact zb | with_reducible refine And.intro ?_ ?_))
theorem ridle_ok {i : Nat} {h2 : List Hd} {f2 : List Lt} (hhl : hs.length ≤ 1000) (hi : i < hs.length) (hw : gw hs i = true) (hg : ¬ (goesI hs i = true ∧ 200 ≤ fl.length)) (hfl : fl.length ≤ 1000) (h : settL i (setW hs i false, fl) = (h2, f2)) : FnM Try.prog 40 [.padr 1000000000 0, (.lit (.int .i64 (i : Int)))] [(1000000000, .box [.own 1000000001, .own 5]), (1000000001, .row 93 HT true (hs)), (5, .row 50 LT true (fl))] (.lit (.int .i64 (0 : Int))) [(1000000000, .box [.own 1000000001, .own 5]), (1000000001, .row 93 HT true (h2)), (5, .row 50 LT true (f2))] := by
 have c1 := exists_at (fl := fl) (i := (i : Int)) (b := true) hhl (has_of hi).symm
 have c3 := rleaves_at (fl := fl) (b := goesI hs i) hi rfl
 have c4 := leave_at (hs := setW hs i false) (fl := fl) (i := i) (by rw [setW_len]; exact hi) hfl h
 have hw' : (hs.getD i H0).1 = true := hw
 have hl : @List.length HT.T hs = hs.length := rfl
 have hlf : @List.length LT.T fl = fl.length := rfl
 cases hgi : goesI hs i with
 | false =>
  rw [hgi] at c3
  refine FnM.of_body tys_ok Try.func40 (by rfl) rfl Try.ntmps40 (by rw [Try.results40]) (by simp) ?_
  repeat' (first
 | refine W.seq ?_
 | refine W.block ?_
 | (refine W.regionM (id := 1) tys_ok [] [2] ?_; conv => whnf)
 | (refine W.regionM (id := 5) tys_ok [] [2] ?_; conv => whnf)
 | (refine W.regionM (id := 8) tys_ok [] [2] ?_; conv => whnf)
 | (refine W.region tys_ok [] ?_; conv => whnf)
 | (refine W.drawAll tys_ok [] mixed rfl ?_; conv => whnf)
 | (refine W.ret ?_; conv => whnf)
 | (refine W.skip ?_; conv => whnf)
 | (refine W.exit ?_; conv => whnf)
 | (refine callM_at (c1) ?_; conv => whnf)
 | (refine callM_at (c3) ?_; conv => whnf)
 | (refine callM_at (c4) ?_; conv => whnf)
 | (refine W.cond rfl (fun hb => ?_) (fun hb => ?_) <;> (try simp only [zr, zd, zm, minL, maxL, pickB, zA] at hb) <;> (try (first | (cases hb; done) | exact absurd hb (by decide) | (exfalso; omega) | (omega) | ((simp_all; done)))))
 | (refine Or.inl (And.intro trivial ?_); (conv => whnf))
 | ((with_reducible refine And.intro ?_ ?_); exact zc; conv => whnf)
 | ((with_reducible refine And.intro (Side.out ?_) ?_); rotate_left; (conv => whnf))
 | ((first | refine retM1 ?_ | refine retM2 ?_) <;> (conv => whnf) <;> repeat' (first
 | exact trivial
 | (with_reducible rfl)
 | ((with_reducible refine And.intro ?_ ?_) <;> conv => whnf)
 | omega
 | rfl
 | (refine congrArg (SV.arr _) ?_)
 | (refine congrArg (Value.int _) ?_)
 | (refine congrArg Value.bool ?_)))); all_goals (try unfold Side)
  all_goals try (repeat' (first | exact zb | with_reducible refine And.intro ?_ ?_))
 | true =>
  rw [hgi] at c3
  have hf : ¬ 200 ≤ fl.length := fun h => hg ⟨hgi, h⟩
  refine FnM.of_body tys_ok Try.func40 (by rfl) rfl Try.ntmps40 (by rw [Try.results40]) (by simp) ?_
  repeat' (first
 | refine W.seq ?_
 | refine W.block ?_
 | (refine W.regionM (id := 1) tys_ok [] [2] ?_; conv => whnf)
 | (refine W.regionM (id := 5) tys_ok [] [2] ?_; conv => whnf)
 | (refine W.regionM (id := 8) tys_ok [] [2] ?_; conv => whnf)
 | (refine W.region tys_ok [] ?_; conv => whnf)
 | (refine W.drawAll tys_ok [] mixed rfl ?_; conv => whnf)
 | (refine W.ret ?_; conv => whnf)
 | (refine W.skip ?_; conv => whnf)
 | (refine W.exit ?_; conv => whnf)
 | (refine callM_at (c1) ?_; conv => whnf)
 | (refine callM_at (c3) ?_; conv => whnf)
 | (refine callM_at (c4) ?_; conv => whnf)
 | (refine W.cond rfl (fun hb => ?_) (fun hb => ?_) <;> (try simp only [zr, zd, zm, minL, maxL, pickB, zA] at hb) <;> (try (first | (cases hb; done) | exact absurd hb (by decide) | (exfalso; omega) | (omega) | ((simp_all; done)))))
 | (refine Or.inl (And.intro trivial ?_); (conv => whnf))
 | ((with_reducible refine And.intro ?_ ?_); exact zc; conv => whnf)
 | ((with_reducible refine And.intro (Side.out ?_) ?_); rotate_left; (conv => whnf))
 | ((first | refine retM1 ?_ | refine retM2 ?_) <;> (conv => whnf) <;> repeat' (first
 | exact trivial
 | (with_reducible rfl)
 | ((with_reducible refine And.intro ?_ ?_) <;> conv => whnf)
 | omega
 | rfl
 | (refine congrArg (SV.arr _) ?_)
 | (refine congrArg (Value.int _) ?_)
 | (refine congrArg Value.bool ?_)))); all_goals (try unfold Side)
  all_goals try (repeat' (first | exact zb | with_reducible refine And.intro ?_ ?_))
theorem rended_at {b : Bool} (h0 : 0 < hs.length) (h : b = endB (hs, fl)) : FnM Try.prog 50 [.padr 1000000000 0] [(1000000000, .box [.own 1000000001, .own 1000000002]), (1000000001, .row 93 HT true (hs)), (1000000002, .row 50 LT true (fl))] (.lit (.bool b)) [(1000000000, .box [.own 1000000001, .own 1000000002]), (1000000001, .row 93 HT true (hs)), (1000000002, .row 50 LT true (fl))] := by
 subst h
 have hl : @List.length HT.T hs = hs.length := rfl
 refine FnM.of_body tys_ok Try.func50 (by rfl) rfl Try.ntmps50 (by rw [Try.results50]) (by simp) ?_
 repeat' (first
 | refine W.seq ?_
 | refine W.block ?_
 | (refine W.region tys_ok [] ?_; conv => whnf)
 | (refine W.drawAll tys_ok [] mixed rfl ?_; conv => whnf)
 | (refine W.ret ?_; conv => whnf)
 | (refine W.skip ?_; conv => whnf)
 | (refine W.exit ?_; conv => whnf)
 | (refine W.cond rfl (fun hb => ?_) (fun hb => ?_) <;> (try simp only [zr, zd, zm, minL, maxL, pickB, zA] at hb) <;> (try (first | (cases hb; done) | exact absurd hb (by decide) | (exfalso; omega) | (omega) | ((simp_all; done)))))
 | ((with_reducible refine And.intro ?_ ?_); exact zc; conv => whnf)
 | ((with_reducible refine And.intro (Side.out ?_) ?_); rotate_left; (conv => whnf))
 | ((first | refine retM1 ?_ | refine retM2 ?_) <;> (conv => whnf) <;> repeat' (first
 | exact trivial
 | (with_reducible rfl)
 | ((with_reducible refine And.intro ?_ ?_) <;> conv => whnf)
 | omega
 | rfl
 | (refine congrArg (SV.arr _) ?_)
 | (refine congrArg (Value.int _) ?_)
 | (refine congrArg Value.bool ?_)))); all_goals (try unfold Side)
 all_goals try (repeat' (first | exact zb | with_reducible refine And.intro ?_ ?_))
theorem rbegin_at {n : Nat} (h1 : 1 ≤ n) (h2 : n ≤ 10) : FnM Try.prog 37 [(.lit (.int .i64 (n : Int)))] [] (.padr 0 0) [(0, .box [.own 1, .own 2]), (1, .row 93 HT true ((begL n).1)), (2, .row 50 LT true ((begL n).2))] := by
 have hbl : (begL n).1.length = n := by unfold begL; simp
 refine FnM.of_body tys_ok Try.func37 (by rfl) rfl Try.ntmps37 (by rw [Try.results37]) (by simp) ?_
 repeat' (first
 | refine W.seq ?_
 | refine W.block ?_
 | (refine W.region tys_ok [] ?_; conv => whnf)
 | (refine W.drawAll tys_ok [] mixed rfl ?_; conv => whnf)
 | (refine W.ret ?_; conv => whnf)
 | (refine W.skip ?_; conv => whnf)
 | (refine W.exit ?_; conv => whnf)
 | (refine W.cond rfl (fun hb => ?_) (fun hb => ?_) <;> (try simp only [zr, zd, zm, minL, maxL, pickB, zA] at hb) <;> (try (first | (cases hb; done) | exact absurd hb (by decide) | (exfalso; omega) | (omega) | ((simp [pickB] at hb; omega)))))
 | ((with_reducible refine And.intro ?_ ?_); exact zc; conv => whnf)
 | ((with_reducible refine And.intro (Side.out ?_) ?_); rotate_left; (conv => whnf))
 | ((first | refine retM1 ?_ | refine retM2 ?_) <;> (conv => whnf) <;> repeat' (first
 | exact trivial
 | (with_reducible rfl)
 | ((with_reducible refine And.intro ?_ ?_) <;> conv => whnf)
 | omega
 | rfl
 | (refine congrArg (SV.arr _) ?_)
 | (refine congrArg (Value.int _) ?_)
 | (refine congrArg Value.bool ?_)))); all_goals (try unfold Side)
 all_goals try (repeat' (first | exact zb | with_reducible refine And.intro ?_ ?_))
 refine W.loop (fun i : Nat => ⟨[(0, .lit (.int .i64 ((n : Int)))), (3, .padr 4000 0), (4, .lit (.int .i64 ((i : Int))))], [(4000, .box [.own 5001, .lit (.slice none 0 0)]), (5001, .row 93 HT true ((begL n).1.take i))]⟩) (fun i => i ≤ n) (fun i => n - i) (0) ?_ ?_
 · refine ⟨Nat.zero_le _, ?_⟩
   refine subF.ok ?_ <;> (conv => whnf) <;> repeat' (first
 | exact trivial
 | (with_reducible rfl)
 | ((with_reducible refine And.intro ?_ ?_) <;> conv => whnf)
 | omega
 | rfl
 | (refine congrArg (SV.arr _) ?_)
 | (refine congrArg (Value.int _) ?_)
 | (refine congrArg Value.bool ?_))
 · intro i hi
   have e2 : @List.length HT.T ((begL n).1.take i) = i := by show ((begL n).1.take i).length = i; rw [List.length_take]; omega
   by_cases hin : i < n
   · have e1 : (begL n).1.take i ++ [(decide ((i : Int) = 0), decide ((i : Int) = 0), -1, 0, ())] = (begL n).1.take (i + 1) := by
      rw [List.take_succ_eq_append_getElem (by omega)]
      congr 2
      have := List.getElem?_eq_getElem (l := (begL n).1) (i := i) (by omega)
      have e : (begL n).1.getD i H0 = (begL n).1[i] := by rw [List.getD_eq_getElem?_getD, this]; rfl
      rw [← e]
      unfold begL
      rw [Rg.getD_set (by rw [List.length_replicate]; omega)]
      by_cases e : i = 0
      · subst e
        rw [if_pos rfl]
        rfl
      · rw [if_neg e, List.getD_eq_getElem?_getD, List.getElem?_replicate, if_pos hin]
        have : ¬ (i : Int) = 0 := by omega
        simp [this, e]
     repeat' (first
 | refine W.seq ?_
 | refine W.block ?_
 | (refine W.region tys_ok [] ?_; conv => whnf)
 | (refine W.drawAll tys_ok [] mixed rfl ?_; conv => whnf)
 | (refine W.ret ?_; conv => whnf)
 | (refine W.skip ?_; conv => whnf)
 | (refine W.exit ?_; conv => whnf)
 | (refine W.cond rfl (fun hb => ?_) (fun hb => ?_) <;> (try simp only [zr, zd, zm, minL, maxL, pickB, zA] at hb) <;> (try (first | (cases hb; done) | exact absurd hb (by decide) | (exfalso; omega) | (omega))))
 | ((with_reducible refine And.intro ?_ ?_); exact zc; conv => whnf)
 | ((with_reducible refine And.intro (Side.out ?_) ?_); rotate_left; (conv => whnf))
 | ((first | refine retM1 ?_ | refine retM2 ?_) <;> (conv => whnf) <;> repeat' (first
 | exact trivial
 | (with_reducible rfl)
 | ((with_reducible refine And.intro ?_ ?_) <;> conv => whnf)
 | omega
 | rfl
 | (refine congrArg (SV.arr _) ?_)
 | (refine congrArg (Value.int _) ?_)
 | (refine congrArg Value.bool ?_)))); all_goals (try unfold Side)
     all_goals try (repeat' (first | exact zb | with_reducible refine And.intro ?_ ?_))
     refine ⟨i + 1, ⟨by omega, by omega⟩, ?_⟩
     refine subF.ok ?_ <;> (conv => whnf) <;> repeat' (first
 | exact trivial
 | (with_reducible rfl)
 | ((with_reducible refine And.intro ?_ ?_) <;> conv => whnf)
 | omega
 | rfl
 | (refine congrArg (SV.arr _) ?_)
 | (refine congrArg (Value.int _) ?_)
 | (refine congrArg Value.bool ?_))
     all_goals exact e1
   · have hie : i = n := by omega
     subst hie
     have e3 : (begL i).1.take i = (begL i).1 := List.take_of_length_le (by omega)
     repeat' (first
 | refine W.seq ?_
 | refine W.block ?_
 | (refine W.region tys_ok [] ?_; conv => whnf)
 | (refine W.drawAll tys_ok [] mixed rfl ?_; conv => whnf)
 | (refine W.ret ?_; conv => whnf)
 | (refine W.skip ?_; conv => whnf)
 | (refine W.exit ?_; conv => whnf)
 | (refine W.cond rfl (fun hb => ?_) (fun hb => ?_) <;> (try simp only [zr, zd, zm, minL, maxL, pickB, zA] at hb) <;> (try (first | (cases hb; done) | exact absurd hb (by decide) | (exfalso; omega) | (omega))))
 | ((with_reducible refine And.intro ?_ ?_); exact zc; conv => whnf)
 | ((with_reducible refine And.intro (Side.out ?_) ?_); rotate_left; (conv => whnf))
 | ((first | refine retM1 ?_ | refine retM2 ?_) <;> (conv => whnf) <;> repeat' (first
 | exact trivial
 | (with_reducible rfl)
 | ((with_reducible refine And.intro ?_ ?_) <;> conv => whnf)
 | omega
 | rfl
 | (refine congrArg (SV.arr _) ?_)
 | (refine congrArg (Value.int _) ?_)
 | (refine congrArg Value.bool ?_)))); all_goals (try unfold Side)
     all_goals try (repeat' (first | exact zb | with_reducible refine And.intro ?_ ?_))
     all_goals exact e3
set_option maxHeartbeats 4000000 in
theorem rclone_at (h0 : 0 < hs.length) (hhl : hs.length ≤ 1000) (hfl : fl.length ≤ 1000) : FnM Try.prog 45 [.padr 1000000000 0] [(1000000000, .box [.own 1000000001, .own 1000000002]), (1000000001, .row 93 HT true (hs)), (1000000002, .row 50 LT true (fl))] (.padr 0 0) [(1000000000, .box [.own 1000000001, .own 1000000002]), (1000000001, .row 93 HT true (hs)), (1000000002, .row 50 LT true (fl)), (0, .box [.own 1, .own 2]), (1, .row 93 HT true (hs)), (2, .row 50 LT true (fl))] := by
 have hl : @List.length HT.T hs = hs.length := rfl
 have hlf : @List.length LT.T fl = fl.length := rfl
 refine FnM.of_body tys_ok Try.func45 (by rfl) rfl Try.ntmps45 (by rw [Try.results45]) (by simp) ?_
 repeat' (first
 | refine W.seq ?_
 | refine W.block ?_
 | (refine W.drawPhTo (id := 1) tys_ok [] mixed [0, 0, 2, 4, 8, 17, 0, 0, 128, 256, 512, 1120, 2080, 4096, 16383] [([1, 2, 3, 7, 8, 9], 5, 2047), ([], 1, 4095), ([], 1, 8191), ([], 1, 16383), ([14], 0, 32767)] ⟨[(0, .padr 1000000000 0), (2, .padr 3000 0)], [(1000000000, .box [.own 1000000001, .own 1000000002]), (1000000001, .row 93 HT true hs), (1000000002, .row 50 LT true fl), (3000, .box [.own 3001, .own 3002]), (3001, .row 93 HT true hs), (3002, .row 50 LT true fl)]⟩ (by decide +kernel) ?_ ?_ <;> (conv => whnf))
 | (refine W.region tys_ok [] ?_; conv => whnf)
 | (refine W.drawAll tys_ok [] mixed rfl ?_; conv => whnf)
 | (refine W.ret ?_; conv => whnf)
 | (refine W.skip ?_; conv => whnf)
 | (refine W.exit ?_; conv => whnf)
 | (refine Both.mk ?_ ?_ <;> (conv => whnf))
 | (refine W.cond rfl (fun hb => ?_) (fun hb => ?_) <;> (try simp only [zr, zd, zm, minL, maxL, pickB, zA] at hb) <;> (try (first | (cases hb; done) | exact absurd hb (by decide) | (exfalso; omega) | (omega))))
 | ((with_reducible refine And.intro ?_ ?_); exact zc; conv => whnf)
 | ((with_reducible refine And.intro (Side.out ?_) ?_); rotate_left; (conv => whnf))
 | ((first | refine retM1 ?_ | refine retM2 ?_ | refine subF.leaf ?_ | refine subF.side ?_) <;> (conv => whnf) <;> repeat' (first
 | exact trivial
 | (with_reducible rfl)
 | ((with_reducible refine And.intro ?_ ?_) <;> conv => whnf)
 | omega
 | rfl
 | (refine congrArg (SV.arr _) ?_)
 | (refine congrArg (Value.int _) ?_)
 | (refine congrArg Value.bool ?_)))); all_goals (try unfold Side)
 all_goals try (repeat' (first | exact zb | with_reducible refine And.intro ?_ ?_))
theorem rdeliver_arg {k : Int} (hfl : fl.length ≤ 1000) (h : hasB fl.length k = false) : FnM Try.prog 41 [.padr 1000000000 0, (.lit (.int .i64 (k : Int)))] [(1000000000, .box [.own 1000000001, .own 5]), (1000000001, .row 93 HT true (hs)), (5, .row 50 LT true (fl))] (.lit (.int .i64 (1 : Int))) [(1000000000, .box [.own 1000000001, .own 5]), (1000000001, .row 93 HT true (hs)), (5, .row 50 LT true (fl))] := by
 have c1 := inB_at (v := k) (lo := 0) (hi := (fl.length : Int) - 1) (b := false) (by
  rw [← h]; unfold hasB; congr 1; rw [decide_eq_decide]; omega)
 have hlf : @List.length LT.T fl = fl.length := rfl
 refine FnM.of_body tys_ok Try.func41 (by rfl) rfl Try.ntmps41 (by rw [Try.results41]) (by simp) ?_
 repeat' (first
 | refine W.seq ?_
 | refine W.block ?_
 | (refine W.region tys_ok [] ?_; conv => whnf)
 | (refine W.drawAll tys_ok [] mixed rfl ?_; conv => whnf)
 | (refine W.ret ?_; conv => whnf)
 | (refine W.skip ?_; conv => whnf)
 | (refine W.exit ?_; conv => whnf)
 | (refine call_at (al := false) (c1) rfl rfl rfl rfl ?_; conv => whnf)
 | (refine W.cond rfl (fun hb => ?_) (fun hb => ?_) <;> (try simp only [zr, zd, zm, minL, maxL, pickB, zA] at hb) <;> (try (first | (cases hb; done) | exact absurd hb (by decide) | (exfalso; omega) | (omega))))
 | ((with_reducible refine And.intro ?_ ?_); exact zc; conv => whnf)
 | ((with_reducible refine And.intro (Side.out ?_) ?_); rotate_left; (conv => whnf))
 | ((first | refine retM1 ?_ | refine retM2 ?_) <;> (conv => whnf) <;> repeat' (first
 | exact trivial
 | (with_reducible rfl)
 | ((with_reducible refine And.intro ?_ ?_) <;> conv => whnf)
 | omega
 | rfl
 | (refine congrArg (SV.arr _) ?_)
 | (refine congrArg (Value.int _) ?_)
 | (refine congrArg Value.bool ?_)))); all_goals (try unfold Side)
 all_goals try (repeat' (first | exact zb | with_reducible refine And.intro ?_ ?_))
open Go Go.Vc Go.Rg
variable {hs : List Hd} {fl : List Lt}
set_option maxHeartbeats 16000000 in
theorem rdeliver_at {k f x : Nat} {b : Bool} {h2 : List Hd} {f2 : List Lt} (hk : k < fl.length) (hfl : fl.length ≤ 1000) (hx : x < hs.length) (hm : fl.getD k L0 = ((f : Int), (x : Int), b, ())) (ho : 0 ≤ go hs x ∧ go hs x ≤ 1000) (h : delL k (hs, fl) = (h2, f2)) :
  FnM Try.prog 41 [.padr 1000000000 0, (.lit (.int .i64 (k : Int)))] [(1000000000, .box [.own 1000000001, .own 5]), (1000000001, .row 93 HT true (hs)), (5, .row 50 LT true (fl))] (.lit (.int .i64 (0 : Int))) [(1000000000, .box [.own 1000000001, .own 5]), (1000000001, .row 93 HT true (h2)), (5, .row 50 LT true (f2))] := by
 have c1 := inB_at (v := (k : Int)) (lo := 0) (hi := (fl.length : Int) - 1) (b := true) (by
  rw [eq_comm, Bool.and_eq_true, decide_eq_true_eq, decide_eq_true_eq]; omega)
 have hel := era_len hk
 have hl : @List.length HT.T hs = hs.length := rfl
 have hlf : @List.length LT.T fl = fl.length := rfl
 have hle : @List.length LT.T (era fl k) = (era fl k).length := rfl
 have hm1 : (fl.getD k L0).1 = (f : Int) := by rw [hm]
 have hm2 : (fl.getD k L0).2.1 = (x : Int) := by rw [hm]
 have hm3 : (fl.getD k L0).2.2.1 = b := by rw [hm]
 have ho' : 0 ≤ (hs.getD x H0).2.2.2.1 ∧ (hs.getD x H0).2.2.2.1 ≤ 1000 := ho
 have h' : (if b = true then settL x (setO hs x (go hs x - 1), era fl k) else if ge hs x = true then (setW hs x true, era fl k ++ [((x : Int), (f : Int), true, ())]) else (hs.set x (true, true, (f : Int), go hs x, ()), era fl k)) = (h2, f2) := by
  rw [← h]; unfold delL; rw [hm1, hm2, hm3, Int.toNat_natCast]
 have c3 := put_at (hs := setW hs x true) (fl := era fl k) (a := (x : Int)) (b := (f : Int)) (c := true) (by omega)
 have d1 : ([] ++ List.drop 0 (List.take k fl) : List Lt) ++ List.drop (k + 1) (List.take fl.length fl) = era fl k := by rw [List.drop_zero, List.take_length]; rfl
 have d2 : (([] : List Lt) ++ List.drop 0 (List.take k fl)).length + (List.drop (k + 1) (List.take fl.length fl)).length ≤ 4294967296 := by simp; omega
 have d3 : ([] : List Lt).length + (List.drop 0 (List.take k fl)).length ≤ 4294967296 := by simp; omega
 cases hb1 : b with
 | true =>
  rw [if_pos hb1] at h'
  have c4 := leave_at (by rw [setO_len]; exact hx) (by omega) h'
  refine FnM.of_body tys_ok Try.func41 (by rfl) rfl Try.ntmps41 (by rw [Try.results41]) (by simp) ?_
  repeat' (first
 | refine W.seq ?_
 | refine W.block ?_
 | (refine W.resub (x := Code.region 4 _ _) (Γ' := ⟨[(0, .padr 1000000000 0), (1, .lit (.int .i64 ((k : Int)))), (5, .padr 6000 0)], [(1000000000, .box [.own 1000000001, .st true (.arr LT fl)]), (1000000001, .row 93 HT true (hs)), (6000, .box [(.lit (.int .i64 (f : Int))), (.lit (.int .i64 (x : Int))), .lit (.bool b)])]⟩) ?_ ?_; rotate_left; refine W.drawPhTo (id := 4) tys_ok [] mixed [0, 0, 0, 4, 8, 16, 0, 96, 130, 0, 512, 1024, 2048, 0, 8192, 20480, 33024, 131071, 262143, 393215] [([0, 2, 3, 4, 6, 9, 10, 11, 13, 14], 6, 65535), ([], 1, 131071), ([17, 18], 1, 1048575)] ⟨[(0, .padr 1000000000 0), (5, .padr 6000 0)], [(1000000000, .box [.own 1000000001, .own 5]), (1000000001, .row 93 HT true (hs)), (5, .row 50 LT true (era fl k)), (6000, .box [(.lit (.int .i64 (f : Int))), (.lit (.int .i64 (x : Int))), .lit (.bool b)])]⟩ (by decide +kernel) ?_ ?_; (conv => whnf); rotate_left; (conv => whnf))
 | (refine W.drawPhTo (id := 5) tys_ok [] mixed [0, 1, 2, 4, 0, 16, 40, 127] [([0, 1, 2, 4], 2, 63), ([6, 7], 0, 255)] ⟨[(0, .padr 1000000000 0), (5, .padr 6000 0), (6, .oadr 1000000001 4 x 0)], [(1000000000, .box [.own 1000000001, .own 5]), (1000000001, .row 93 HT true (hs)), (5, .row 50 LT true (era fl k)), (6000, .box [(.lit (.int .i64 (f : Int))), (.lit (.int .i64 (x : Int))), .lit (.bool b)])]⟩ (by decide +kernel) ?_ ?_ <;> (conv => whnf))
 | (refine W.regionM (id := 9) tys_ok [] [3] ?_; conv => whnf)
 | (refine W.region tys_ok [] ?_; conv => whnf)
 | (refine W.drawAll tys_ok [] mixed rfl ?_; conv => whnf)
 | (refine W.ret ?_; conv => whnf)
 | (refine W.skip ?_; conv => whnf)
 | (refine W.exit ?_; conv => whnf)
 | (refine call_at (al := false) (c1) rfl rfl rfl rfl ?_; conv => whnf)
 | (refine callM_at (c4) ?_; conv => whnf)
 | (refine Both.mk ?_ ?_ <;> (conv => whnf))
 | (refine W.cond rfl (fun hb => ?_) (fun hb => ?_) <;> (try simp only [zr, zd, zm, minL, maxL, pickB, zA] at hb) <;> (try (first | (cases hb; done) | exact absurd hb (by decide) | (exfalso; omega) | (omega) | ((simp_all; done)))))
 | (refine Or.inl (And.intro trivial ?_); (conv => whnf))
 | ((with_reducible refine And.intro ?_ ?_); exact zc; conv => whnf)
 | ((with_reducible refine And.intro (Side.out ?_) ?_); rotate_left; (conv => whnf))
 | ((first | refine retM1 ?_ | refine retM2 ?_ | refine subF.leaf ?_ | refine subF.side ?_) <;> (conv => whnf) <;> repeat' (first
 | exact trivial
 | (with_reducible rfl)
 | ((with_reducible refine And.intro ?_ ?_) <;> conv => whnf)
 | omega
 | rfl
 | (refine congrArg (SV.arr _) ?_)
 | (refine congrArg (Value.int _) ?_)
 | (refine congrArg Value.bool ?_)))); all_goals (try unfold Side)
  all_goals try (repeat' (first | exact zb | with_reducible refine And.intro ?_ ?_))
  all_goals first | exact d1 | exact d2 | exact d3 | exact hm1 | exact hm2 | exact hm3
 | false =>
  have hb2 : ¬ b = true := by rw [hb1]; decide
  rw [if_neg hb2] at h'
  have hgx : (hs.getD x H0).2.1 = ge hs x := rfl
  have h3 : ge hs x = true → h2 = setW hs x true ∧ f2 = era fl k ++ [((x : Int), (f : Int), true, ())] := fun e => by rw [if_pos e] at h'; cases h'; exact ⟨rfl, rfl⟩
  have h4 : ge hs x = false → h2 = hs.set x (true, true, (f : Int), go hs x, ()) ∧ f2 = era fl k := fun e => by rw [if_neg (by rw [e]; decide)] at h'; cases h'; exact ⟨rfl, rfl⟩
  refine FnM.of_body tys_ok Try.func41 (by rfl) rfl Try.ntmps41 (by rw [Try.results41]) (by simp) ?_
  repeat' (first
 | refine W.seq ?_
 | refine W.block ?_
 | (refine W.resub (x := Code.region 4 _ _) (Γ' := ⟨[(0, .padr 1000000000 0), (1, .lit (.int .i64 ((k : Int)))), (5, .padr 6000 0)], [(1000000000, .box [.own 1000000001, .st true (.arr LT fl)]), (1000000001, .row 93 HT true (hs)), (6000, .box [(.lit (.int .i64 (f : Int))), (.lit (.int .i64 (x : Int))), .lit (.bool b)])]⟩) ?_ ?_; rotate_left; refine W.drawPhTo (id := 4) tys_ok [] mixed [0, 0, 0, 4, 8, 16, 0, 96, 130, 0, 512, 1024, 2048, 0, 8192, 20480, 33024, 131071, 262143, 393215] [([0, 2, 3, 4, 6, 9, 10, 11, 13, 14], 6, 65535), ([], 1, 131071), ([17, 18], 1, 1048575)] ⟨[(0, .padr 1000000000 0), (5, .padr 6000 0)], [(1000000000, .box [.own 1000000001, .own 5]), (1000000001, .row 93 HT true (hs)), (5, .row 50 LT true (era fl k)), (6000, .box [(.lit (.int .i64 (f : Int))), (.lit (.int .i64 (x : Int))), .lit (.bool b)])]⟩ (by decide +kernel) ?_ ?_; (conv => whnf); rotate_left; (conv => whnf))
 | (refine W.drawPhTo (id := 5) tys_ok [] mixed [0, 1, 2, 4, 0, 16, 40, 127] [([0, 1, 2, 4], 2, 63), ([6, 7], 0, 255)] ⟨[(0, .padr 1000000000 0), (5, .padr 6000 0), (6, .oadr 1000000001 4 x 0)], [(1000000000, .box [.own 1000000001, .own 5]), (1000000001, .row 93 HT true (hs)), (5, .row 50 LT true (era fl k)), (6000, .box [(.lit (.int .i64 (f : Int))), (.lit (.int .i64 (x : Int))), .lit (.bool b)])]⟩ (by decide +kernel) ?_ ?_ <;> (conv => whnf))
 | (refine W.regionM (id := 12) tys_ok [] [6] ?_; conv => whnf)
 | (refine W.drawPhTo (id := 6) tys_ok [] mixed [0, 0, 0, 0, 8, 1, 33, 65, 227, 483, 739, 2047, 4095, 6143] [([0, 1, 2, 3, 5, 6], 5, 2047), ([11, 12], 1, 16383)] ⟨[(0, .padr 1000000000 0)], [(1000000000, .box [.own 1000000001, .own 5]), (1000000001, .row 93 HT true (hs.set x (true, true, (f : Int), go hs x, ()))), (5, .row 50 LT true (era fl k))]⟩ (by decide +kernel) ?_ ?_ <;> (conv => whnf))
 | (refine W.region tys_ok [] ?_; conv => whnf)
 | (refine W.drawAll tys_ok [] mixed rfl ?_; conv => whnf)
 | (refine W.ret ?_; conv => whnf)
 | (refine W.skip ?_; conv => whnf)
 | (refine W.exit ?_; conv => whnf)
 | (refine call_at (al := false) (c1) rfl rfl rfl rfl ?_; conv => whnf)
 | (refine callM_at (c3) ?_; conv => whnf)
 | (refine Both.mk ?_ ?_ <;> (conv => whnf))
 | (refine W.cond rfl (fun hb => ?_) (fun hb => ?_) <;> (try simp only [zr, zd, zm, minL, maxL, pickB, zA] at hb) <;> (try (first | (cases hb; done) | exact absurd hb (by decide) | (exfalso; omega) | (omega) | ((simp_all; done)))))
 | (refine Or.inl (And.intro trivial ?_); (conv => whnf))
 | ((with_reducible refine And.intro ?_ ?_); exact zc; conv => whnf)
 | ((with_reducible refine And.intro (Side.out ?_) ?_); rotate_left; (conv => whnf))
 | ((first | refine retM1 ?_ | refine retM2 ?_ | refine subF.leaf ?_ | refine subF.side ?_) <;> (conv => whnf) <;> repeat' (first
 | exact trivial
 | (with_reducible rfl)
 | ((with_reducible refine And.intro ?_ ?_) <;> conv => whnf)
 | omega
 | rfl
 | (refine congrArg (SV.arr _) ?_)
 | (refine congrArg (Value.int _) ?_)
 | (refine congrArg Value.bool ?_)))); all_goals (try unfold Side)
  all_goals try (repeat' (first | exact zb | with_reducible refine And.intro ?_ ?_))
  all_goals first | exact d1 | exact d2 | exact d3 | exact hm1 | exact hm2 | exact hm3 | exact st_len1 hx | exact st_len2 hx | exact st_all hx | exact (h3 hb).1.symm | exact (h3 hb).2.symm | exact (h4 hb).1.symm | exact (h4 hb).2.symm
open Int renaming reduceToNat → zr, reduceTDiv → zd, reduceTMod → zm
open Go Go.Vc Go.Rg
variable {n : Nat} {w w2 : Wk} {e : Int}
theorem send_cases {a b : Int} (h : WOk n w) (he : sendE a b w = e) (hw : sendK a b w = w2) :
  ((hasB w.1.length a && hasB w.1.length b) = false ∧ e = 1 ∧ w2 = w) ∨ ∃ f x : Nat, a = f ∧ b = x ∧ f < w.1.length ∧ x < w.1.length ∧
    ((gw w.1 f = false ∧ e = 5 ∧ w2 = w) ∨ (gw w.1 f = true ∧ 200 ≤ w.2.length ∧ e = 7 ∧ w2 = w) ∨
      (gw w.1 f = true ∧ ¬ 200 ≤ w.2.length ∧ e = 0 ∧ w2 = (setO w.1 f (go w.1 f + 1), w.2 ++ [((f : Int), (x : Int), false, ())]))) := by
 unfold sendK at hw
 rw [he] at hw
 unfold sendE at he
 split at he
 · rename_i h1
   rw [Bool.and_eq_true] at h1
   obtain ⟨f, rfl, hf⟩ := has_nat h1.1
   obtain ⟨x, rfl, hx⟩ := has_nat h1.2
   rw [Int.toNat_natCast] at he hw
   refine .inr ⟨f, x, rfl, rfl, hf, hx, ?_⟩
   split at he
   · rename_i h2
     split at he
     · rename_i h3
       subst he
       rw [if_neg (by decide)] at hw
       exact .inr (.inl ⟨h2, h3, rfl, hw.symm⟩)
     · rename_i h3
       subst he
       rw [if_pos rfl] at hw
       exact .inr (.inr ⟨h2, h3, rfl, hw.symm⟩)
   · rename_i h2
     subst he
     rw [if_neg (by decide)] at hw
     exact .inl ⟨by simpa using h2, rfl, hw.symm⟩
 · rename_i h1
   subst he
   rw [if_neg (by decide)] at hw
   exact .inl ⟨by simpa using h1, rfl, hw.symm⟩
theorem idle_cases {i : Int} (h : WOk n w) (he : idleE i w = e) (hw : idleK i w = w2) :
  (hasB w.1.length i = false ∧ e = 1 ∧ w2 = w) ∨ ∃ f : Nat, i = f ∧ f < w.1.length ∧
   ((gw w.1 f = false ∧ e = 5 ∧ w2 = w) ∨ (gw w.1 f = true ∧ goesI w.1 f = true ∧ 200 ≤ w.2.length ∧ e = 7 ∧ w2 = w) ∨
     (gw w.1 f = true ∧ ¬ (goesI w.1 f = true ∧ 200 ≤ w.2.length) ∧ e = 0 ∧ w2 = settL f (setW w.1 f false, w.2))) := by
 unfold idleK at hw
 rw [he] at hw
 unfold idleE at he
 split at he
 · rename_i h1
   obtain ⟨f, rfl, hf⟩ := has_nat h1
   rw [Int.toNat_natCast] at he hw
   refine .inr ⟨f, rfl, hf, ?_⟩
   split at he
   · rename_i h2
     split at he
     · rename_i h3
       subst he
       rw [if_neg (by decide)] at hw
       exact .inr (.inl ⟨h2, h3.1, h3.2, rfl, hw.symm⟩)
     · rename_i h3
       subst he
       rw [if_pos rfl] at hw
       exact .inr (.inr ⟨h2, h3, rfl, hw.symm⟩)
   · rename_i h2
     subst he
     rw [if_neg (by decide)] at hw
     exact .inl ⟨by simpa using h2, rfl, hw.symm⟩
 · rename_i h1
   subst he
   rw [if_neg (by decide)] at hw
   exact .inl ⟨by simpa using h1, rfl, hw.symm⟩
theorem del_cases {k : Int} (h : WOk n w) (he : delE k w = e) (hw : delK k w = w2) :
  (hasB w.2.length k = false ∧ e = 1 ∧ w2 = w) ∨ ∃ (j f x : Nat) (b : Bool), k = j ∧ j < w.2.length ∧ w.2.getD j L0 = ((f : Int), (x : Int), b, ()) ∧ x < w.1.length ∧ (0 ≤ go w.1 x ∧ go w.1 x ≤ 1000) ∧ e = 0 ∧ w2 = delL j w := by
 unfold delK at hw
 rw [he] at hw
 unfold delE at he
 split at he
 · rename_i h1
   subst he
   rw [if_pos rfl] at hw
   obtain ⟨j, rfl, hj⟩ := has_nat h1
   rw [Int.toNat_natCast] at hw
   obtain ⟨⟨v1, v2⟩, v3, v4⟩ := h.let hj
   obtain ⟨f, hf⟩ : ∃ f : Nat, (f : Int) = (w.2.getD j L0).1 := ⟨(w.2.getD j L0).1.toNat, by omega⟩
   obtain ⟨x, hx⟩ : ∃ x : Nat, (x : Int) = (w.2.getD j L0).2.1 := ⟨(w.2.getD j L0).2.1.toNat, by omega⟩
   have hxl : x < n := by omega
   have := h.owed hxl
   refine .inr ⟨j, f, x, (w.2.getD j L0).2.2.1, rfl, hj, by rw [hf, hx], by rw [h.len]; exact hxl, by omega, rfl, hw.symm⟩
 · rename_i h1
   subst he
   rw [if_neg (by decide)] at hw
   exact .inl ⟨by simpa using h1, rfl, hw.symm⟩
theorem send_at {a b : Int} (h : WOk n w) (he : sendE a b w = e) (hw : sendK a b w = w2) : FnM Try.prog 38 [.padr 1000000000 0, (.lit (.int .i64 (a : Int))), (.lit (.int .i64 (b : Int)))] [(1000000000, .box [.own 1000000001, .own 5]), (1000000001, .row 96 HT true (w).1), (5, .row 50 LT true (w).2)] (.lit (.int .i64 (e : Int))) [(1000000000, .box [.own 1000000001, .own 5]), (1000000001, .row 96 HT true (w2).1), (5, .row 50 LT true (w2).2)] := by
 have h0 : 0 < w.1.length := by rw [h.len]; exact h.n0
 have hf := h.fl
 rcases send_cases h he hw with ⟨h1, rfl, rfl⟩ | ⟨f, x, rfl, rfl, hf, hx, ⟨h1, rfl, rfl⟩ | ⟨h1, h2, rfl, rfl⟩ | ⟨h1, h2, rfl, rfl⟩⟩
 · exact send_arg h0 h1
 · exact send_none hf hx h1
 · exact send_full hf hx h1 h2
 · have := h.owed (i := f) (by rw [← h.len]; exact hf)
   exact send_ok hf hx h1 h2 (by omega)
theorem rsend_at {a b : Int} (h : WOk n w) (he : sendE a b w = e) (hw : sendK a b w = w2) : FnM Try.prog 39 [.padr 1000000000 0, (.lit (.int .i64 (a : Int))), (.lit (.int .i64 (b : Int)))] [(1000000000, .box [.own 1000000001, .own 5]), (1000000001, .row 93 HT true (w).1), (5, .row 50 LT true (w).2)] (.lit (.int .i64 (e : Int))) [(1000000000, .box [.own 1000000001, .own 5]), (1000000001, .row 93 HT true (w2).1), (5, .row 50 LT true (w2).2)] := by
 have h1 : w.1.length ≤ 1000 := by have := h.len; have := h.n1; omega
 have hf := h.fl
 rcases send_cases h he hw with ⟨h2, rfl, rfl⟩ | ⟨f, x, rfl, rfl, hf, hx, ⟨h2, rfl, rfl⟩ | ⟨h2, h3, rfl, rfl⟩ | ⟨h2, h3, rfl, rfl⟩⟩
 · exact rsend_arg h1 h2
 · exact rsend_none h1 hf hx h2
 · exact rsend_full h1 hf hx h2 h3
 · have := h.owed (i := f) (by rw [← h.len]; exact hf)
   exact rsend_ok h1 hf hx h2 h3 (by omega)
theorem idle_at {i : Int} (h : WOk n w) (he : idleE i w = e) (hw : idleK i w = w2) : FnM Try.prog 19 [.padr 1000000000 0, (.lit (.int .i64 (i : Int)))] [(1000000000, .box [.own 1000000001, .own 5]), (1000000001, .row 96 HT true (w).1), (5, .row 50 LT true (w).2)] (.lit (.int .i64 (e : Int))) [(1000000000, .box [.own 1000000001, .own 5]), (1000000001, .row 96 HT true (w2).1), (5, .row 50 LT true (w2).2)] := by
 have h0 : 0 < w.1.length := by rw [h.len]; exact h.n0
 have hf := h.fl
 rcases idle_cases h he hw with ⟨h1, rfl, rfl⟩ | ⟨f, rfl, hf, ⟨h1, rfl, rfl⟩ | ⟨h1, h2, h3, rfl, rfl⟩ | ⟨h1, h2, rfl, rfl⟩⟩
 · exact idle_arg h0 h1
 · exact idle_none hf h1
 · exact idle_full hf h1 h2 h3
 · exact idle_ok hf h1 h2 (by omega) rfl
theorem ridle_at {i : Int} (h : WOk n w) (he : idleE i w = e) (hw : idleK i w = w2) : FnM Try.prog 40 [.padr 1000000000 0, (.lit (.int .i64 (i : Int)))] [(1000000000, .box [.own 1000000001, .own 5]), (1000000001, .row 93 HT true (w).1), (5, .row 50 LT true (w).2)] (.lit (.int .i64 (e : Int))) [(1000000000, .box [.own 1000000001, .own 5]), (1000000001, .row 93 HT true (w2).1), (5, .row 50 LT true (w2).2)] := by
 have h1 : w.1.length ≤ 1000 := by have := h.len; have := h.n1; omega
 have hf := h.fl
 rcases idle_cases h he hw with ⟨h2, rfl, rfl⟩ | ⟨f, rfl, hf, ⟨h2, rfl, rfl⟩ | ⟨h2, h3, h4, rfl, rfl⟩ | ⟨h2, h3, rfl, rfl⟩⟩
 · exact ridle_arg h1 h2
 · exact ridle_none h1 hf h2
 · exact ridle_full h1 hf h2 h3 h4
 · exact ridle_ok h1 hf h2 h3 (by omega) rfl
theorem deliver_at {k : Int} (h : WOk n w) (he : delE k w = e) (hw : delK k w = w2) : FnM Try.prog 21 [.padr 1000000000 0, (.lit (.int .i64 (k : Int)))] [(1000000000, .box [.own 1000000001, .own 5]), (1000000001, .row 96 HT true (w).1), (5, .row 50 LT true (w).2)] (.lit (.int .i64 (e : Int))) [(1000000000, .box [.own 1000000001, .own 5]), (1000000001, .row 96 HT true (w2).1), (5, .row 50 LT true (w2).2)] := by
 have h0 : 0 < w.1.length := by rw [h.len]; exact h.n0
 have hf := h.fl
 rcases del_cases h he hw with ⟨h1, rfl, rfl⟩ | ⟨j, f, x, b, rfl, hj, hm, hx, ho, rfl, rfl⟩
 · exact deliver_arg h0 h1
 · have e0 : delL j w = if b = true then settL x (setO w.1 x (go w.1 x - 1), era w.2 j) else if ge w.1 x = true then (setW w.1 x true, era w.2 j ++ [((x : Int), (f : Int), true, ())]) else (w.1.set x (true, true, (f : Int), go w.1 x, ()), era w.2 j) := by
    unfold delL; rw [hm]; rfl
   rw [e0]
   cases b with
   | true =>
    rw [if_pos rfl]
    exact deliver_ack h0 hj (by omega) hx hm ho rfl
   | false =>
    rw [if_neg (by decide)]
    cases hg : ge w.1 x with
    | true =>
     rw [if_pos rfl]
     exact deliver_eng h0 hj (by omega) hx hm hg
    | false =>
     rw [if_neg (by decide)]
     exact deliver_new h0 hj (by omega) hx hm hg
theorem rdeliver_all {k : Int} (h : WOk n w) (he : delE k w = e) (hw : delK k w = w2) : FnM Try.prog 41 [.padr 1000000000 0, (.lit (.int .i64 (k : Int)))] [(1000000000, .box [.own 1000000001, .own 5]), (1000000001, .row 93 HT true (w).1), (5, .row 50 LT true (w).2)] (.lit (.int .i64 (e : Int))) [(1000000000, .box [.own 1000000001, .own 5]), (1000000001, .row 93 HT true (w2).1), (5, .row 50 LT true (w2).2)] := by
 have hf := h.fl
 rcases del_cases h he hw with ⟨h1, rfl, rfl⟩ | ⟨j, f, x, b, rfl, hj, hm, hx, ho, rfl, rfl⟩
 · exact rdeliver_arg (by omega) h1
 · exact rdeliver_at hj (by omega) hx hm ho rfl
open Go Go.Vc Go.Rg
variable {n : Nat} {pet : Bool} {r : Rn}
set_option maxHeartbeats 4000000 in
theorem rdel_ok_c {i : Nat} (h : ROk n false r) (hi : i < n) (hs : r.2.2 ≤ 900000) (h0 : (r.2.1.getD i []).length ≠ 0) : FnM Try.prog 33 [.padr 1000000000 0, (.lit (.int .i64 (i : Int)))] [(1000000000, .box [.lit (.bool true), .lit (.bool false), .own 1000000001, .mown 5, (.lit (.int .i64 ((r).2.2 : Int)))]), (1000000001, .row 105 PT true (r).1), (5, .mat 80 91 NT true (r).2.1 none)] (.lit (.int .i64 (0 : Int))) [(1000000000, .box [.lit (.bool true), .lit (.bool false), .own 1000000001, .mown 5, (.lit (.int .i64 (((rdelL false i r)).2.2 : Int)))]), (1000000001, .row 105 PT true ((rdelL false i r)).1), (5, .mat 80 91 NT true ((rdelL false i r)).2.1 none)] := by
 have hs0 := h.s0
 have hp : i < r.1.length := by rw [h.len]; exact hi
 have hF : i < r.2.1.length := by rw [h.fln]; exact hi
 have hd := h.drop hi
 have hn0 := h.n0
 have hn1 := h.n1
 have hj : (i + 1) % n < n := Nat.mod_lt _ hn0
 obtain ⟨F2, hF2⟩ : ∃ F2, F2 = r.2.1.set i ((r.2.1.getD i []).drop 1) := ⟨_, rfl⟩
 obtain ⟨k, hk⟩ : ∃ k, k = ((r.2.1.getD i []).getD 0 N0).1 := ⟨_, rfl⟩
 obtain ⟨v, hv⟩ : ∃ v, v = ((r.2.1.getD i []).getD 0 N0).2.1 := ⟨_, rfl⟩
 have eL : rdelL false i r = changR ((i + 1) % n) k v (r.1, F2, r.2.2) := by unfold rdelL recvR; rw [h.len, ← hk, ← hv, ← hF2]; rfl
 rw [eL]
 have c1 := ris_at (pet := false) (r := r)
 have c2 := rhas_at (pet := false) (r := r) (has_of hp).symm
 have c3 := chang_at (pet := false) (r := (r.1, F2, r.2.2)) (i := (i + 1) % n) (k := k) (v := v) (by show _ < r.1.length; rw [h.len]; exact hj) (by rw [hF2]; show _ < (List.set _ _ _).length; rw [List.length_set, h.fln]; exact hj) (by rw [hF2]; exact hd.fl _) (by dsimp only; omega)
 have hl : @List.length PT.T r.1 = n := h.len
 have em : ((i : Int) + 1).tmod (n : Int) = (((i + 1) % n : Nat) : Int) := by
  rw [show (i : Int) + 1 = ((i + 1 : Nat) : Int) by omega]; exact (Int.ofNat_tmod _ _).symm
 have em' : ((i : Int) + 1).tmod (r.1.length : Int) = (((i + 1) % n : Nat) : Int) := by rw [h.len]; exact em
 have e0 : 0 ≤ (i : Int) ∧ i < r.2.1.length := ⟨by omega, hF⟩
 have e1 : 0 ≤ (0 : Int) ∧ 0 < (r.2.1.getD i []).length := ⟨by omega, by omega⟩
 have e2 : 0 ≤ (0 : Int) ∧ (0 : Int) < 1 ∧ (1 : Int).toNat ≤ (r.2.1.getD i []).length ∧ (r.2.1.getD i []).length ≤ 4294967296 := by
  have := h.fl i
  exact ⟨by omega, by omega, by show 1 ≤ _; omega, by omega⟩
 have e9 : (r.2.1.getD i []).length ≤ 4294967296 := e2.2.2.2
 have e3 : i < (r.2.1.set i ((r.2.1.getD i []).take 0 ++ (r.2.1.getD i []).drop 1)).length := by rw [List.length_set]; exact hF
 have e4 : 0 ≤ (i : Int) ∧ i < (r.2.1.set i ((r.2.1.getD i []).take 0 ++ (r.2.1.getD i []).drop 1)).length := ⟨by omega, e3⟩
 have e5 : r.2.1.set i ((r.2.1.getD i []).take 0 ++ (r.2.1.getD i []).drop 1) = F2 := by rw [hF2]; rfl
 have e6 : ((r.2.1.getD i []).getD 0 N0).1 = k := hk.symm
 have e7 : ((r.2.1.getD i []).getD 0 N0).2.1 = v := hv.symm
 have e8 : ¬ @List.length NT.T (@List.getD (List NT.T) r.2.1 i []) = 0 := h0
 refine FnM.of_body tys_ok Try.func33 (by rfl) rfl Try.ntmps33 (by rw [Try.results33]) (by simp) ?_
 repeat' (first
 | refine W.seq ?_
 | refine W.block ?_
 | (refine W.regionM (id := 1) tys_ok [] [1] ?_; conv => whnf)
 | (refine W.regionM (id := 3) tys_ok [] [2] ?_; conv => whnf)
 | (refine W.resub (x := Code.region 8 _ _) (Γ' := ⟨[(0, .padr 1000000000 0), (1, (.lit (.int .i64 (i : Int)))), (5, .padr 6000 0)], [(1000000000, .box [.lit (.bool true), .lit (.bool false), .own 1000000001, .mown 5, (.lit (.int .i64 ((r).2.2 : Int)))]), (1000000001, .row 105 PT true (r).1), (5, .mat 80 91 NT true (r).2.1 none), (6000, .box [(.lit (.int .i64 (k : Int))), (.lit (.int .i64 (v : Int)))])]⟩) ?_ ?_; rotate_left; refine W.drawMTo (id := 8) tys_ok [] [12] mixed [0, 1, 2, 4, 0, 0, 32, 64, 128, 0, 768, 1024, 2048, 8191, 16383] [([0, 1, 2, 4, 5, 6, 7, 9], 5, 8191), ([13], 1, 32767)] ⟨[(0, .padr 1000000000 0), (1, (.lit (.int .i64 (i : Int)))), (5, .padr 6000 0)], [(1000000000, .box [.lit (.bool true), .lit (.bool false), .own 1000000001, .mown 5, (.lit (.int .i64 (((r.1, F2, r.2.2)).2.2 : Int)))]), (1000000001, .row 105 PT true ((r.1, F2, r.2.2)).1), (5, .mat 80 91 NT true ((r.1, F2, r.2.2)).2.1 none), (6000, .box [(.lit (.int .i64 (k : Int))), (.lit (.int .i64 (v : Int)))])]⟩ (by decide +kernel) ?_ ?_; (conv => whnf); rotate_left; (conv => whnf))
 | (refine W.resub (x := Code.region 12 _ _) (Γ' := ⟨[(0, .padr 1000000000 0), (1, (.lit (.int .i64 (i : Int)))), (5, .padr 6000 0), (6, .fn 1000066 [.padr 1000000000 0])], [(1000000000, .box [.lit (.bool true), .lit (.bool false), .own 1000000001, .mown 5, (.lit (.int .i64 (((r.1, F2, r.2.2)).2.2 : Int)))]), (1000000001, .row 105 PT true ((r.1, F2, r.2.2)).1), (5, .mat 80 91 NT true ((r.1, F2, r.2.2)).2.1 none), (6000, .box [(.lit (.int .i64 (k : Int))), (.lit (.int .i64 (v : Int)))])]⟩) ?_ (W.drawM (id := 12) tys_ok [] [10] mixed [0, 0, 2, 0, 8, 16, 32, 64, 132, 0, 769] [([0, 1, 2, 3, 4, 5], 4, 1023), ([], 1, 2047)] (by decide +kernel) ?_); rotate_left; (conv => whnf))
 | (refine W.region tys_ok [] ?_; conv => whnf)
 | (refine W.drawAll tys_ok [] mixed rfl ?_; conv => whnf)
 | (refine W.ret ?_; conv => whnf)
 | (refine W.skip ?_; conv => whnf)
 | (refine W.exit ?_; conv => whnf)
 | (refine callM_at (c1) ?_; conv => whnf)
 | (refine callM_at (c2) ?_; conv => whnf)
 | (refine callM_at (c3) ?_; conv => whnf)
 | (refine And.intro del_note ?_; (conv => whnf))
 | (refine Both.mk ?_ ?_ <;> (conv => whnf))
 | (refine W.cond rfl (fun hb => ?_) (fun hb => ?_) <;> (try simp only [zr, zd, zm, minL, maxL, pickB, zA] at hb) <;> (try (first | (cases hb; done) | exact absurd hb (by decide) | (exfalso; omega) | (omega) | ((simp_all; done)))))
 | (refine Or.inl (And.intro trivial ?_); (conv => whnf))
 | ((with_reducible refine And.intro ?_ ?_); exact zc; conv => whnf)
 | ((with_reducible refine And.intro (Side.out ?_) ?_); rotate_left; (conv => whnf))
 | ((first | refine retM1 ?_ | refine retM2 ?_ | refine subF.leaf ?_ | refine subF.side ?_) <;> (conv => whnf) <;> repeat' (first
 | exact trivial
 | (with_reducible rfl)
 | ((with_reducible refine And.intro ?_ ?_) <;> conv => whnf)
 | omega
 | rfl
 | (refine congrArg (SV.arr _) ?_)
 | (refine congrArg (Value.int _) ?_)
 | (refine congrArg Value.bool ?_)))); all_goals (try unfold Side)
 all_goals try (repeat' (first | exact zb | with_reducible refine And.intro ?_ ?_))
 all_goals first | exact e9 | exact hF | exact e3 | exact e5 | exact e6 | exact e7 | exact em | exact em' | exact Path.imp_of hF | exact Path.imp_of e0 | exact Path.imp_of e1 | exact e2 | exact Path.imp_of e4 | skip
set_option maxHeartbeats 4000000 in
theorem rdel_ok_p {i : Nat} (h : ROk n true r) (hi : i < n) (hs : r.2.2 ≤ 900000) (h0 : (r.2.1.getD i []).length ≠ 0) : FnM Try.prog 33 [.padr 1000000000 0, (.lit (.int .i64 (i : Int)))] [(1000000000, .box [.lit (.bool true), .lit (.bool true), .own 1000000001, .mown 5, (.lit (.int .i64 ((r).2.2 : Int)))]), (1000000001, .row 105 PT true (r).1), (5, .mat 80 91 NT true (r).2.1 none)] (.lit (.int .i64 (0 : Int))) [(1000000000, .box [.lit (.bool true), .lit (.bool true), .own 1000000001, .mown 5, (.lit (.int .i64 (((rdelL true i r)).2.2 : Int)))]), (1000000001, .row 105 PT true ((rdelL true i r)).1), (5, .mat 80 91 NT true ((rdelL true i r)).2.1 none)] := by
 have hs0 := h.s0
 have hp : i < r.1.length := by rw [h.len]; exact hi
 have hF : i < r.2.1.length := by rw [h.fln]; exact hi
 have hd := h.drop hi
 have hn0 := h.n0
 have hn1 := h.n1
 have hj : (i + 1) % n < n := Nat.mod_lt _ hn0
 obtain ⟨F2, hF2⟩ : ∃ F2, F2 = r.2.1.set i ((r.2.1.getD i []).drop 1) := ⟨_, rfl⟩
 obtain ⟨k, hk⟩ : ∃ k, k = ((r.2.1.getD i []).getD 0 N0).1 := ⟨_, rfl⟩
 obtain ⟨v, hv⟩ : ∃ v, v = ((r.2.1.getD i []).getD 0 N0).2.1 := ⟨_, rfl⟩
 have eL : rdelL true i r = peterR ((i + 1) % n) k v (r.1, F2, r.2.2) := by unfold rdelL recvR; rw [h.len, ← hk, ← hv, ← hF2]; rfl
 rw [eL]
 have c1 := ris_at (pet := true) (r := r)
 have c2 := rhas_at (pet := true) (r := r) (has_of hp).symm
 have c3 := peter_at (pet := true) (r := (r.1, F2, r.2.2)) (i := (i + 1) % n) (k := k) (v := v) (by show _ < r.1.length; rw [h.len]; exact hj) (by rw [hF2]; show _ < (List.set _ _ _).length; rw [List.length_set, h.fln]; exact hj) (by rw [hF2]; exact hd.fl _) (by dsimp only; omega)
 have hl : @List.length PT.T r.1 = n := h.len
 have em : ((i : Int) + 1).tmod (n : Int) = (((i + 1) % n : Nat) : Int) := by
  rw [show (i : Int) + 1 = ((i + 1 : Nat) : Int) by omega]; exact (Int.ofNat_tmod _ _).symm
 have em' : ((i : Int) + 1).tmod (r.1.length : Int) = (((i + 1) % n : Nat) : Int) := by rw [h.len]; exact em
 have e0 : 0 ≤ (i : Int) ∧ i < r.2.1.length := ⟨by omega, hF⟩
 have e1 : 0 ≤ (0 : Int) ∧ 0 < (r.2.1.getD i []).length := ⟨by omega, by omega⟩
 have e2 : 0 ≤ (0 : Int) ∧ (0 : Int) < 1 ∧ (1 : Int).toNat ≤ (r.2.1.getD i []).length ∧ (r.2.1.getD i []).length ≤ 4294967296 := by
  have := h.fl i
  exact ⟨by omega, by omega, by show 1 ≤ _; omega, by omega⟩
 have e9 : (r.2.1.getD i []).length ≤ 4294967296 := e2.2.2.2
 have e3 : i < (r.2.1.set i ((r.2.1.getD i []).take 0 ++ (r.2.1.getD i []).drop 1)).length := by rw [List.length_set]; exact hF
 have e4 : 0 ≤ (i : Int) ∧ i < (r.2.1.set i ((r.2.1.getD i []).take 0 ++ (r.2.1.getD i []).drop 1)).length := ⟨by omega, e3⟩
 have e5 : r.2.1.set i ((r.2.1.getD i []).take 0 ++ (r.2.1.getD i []).drop 1) = F2 := by rw [hF2]; rfl
 have e6 : ((r.2.1.getD i []).getD 0 N0).1 = k := hk.symm
 have e7 : ((r.2.1.getD i []).getD 0 N0).2.1 = v := hv.symm
 have e8 : ¬ @List.length NT.T (@List.getD (List NT.T) r.2.1 i []) = 0 := h0
 refine FnM.of_body tys_ok Try.func33 (by rfl) rfl Try.ntmps33 (by rw [Try.results33]) (by simp) ?_
 repeat' (first
 | refine W.seq ?_
 | refine W.block ?_
 | (refine W.regionM (id := 1) tys_ok [] [1] ?_; conv => whnf)
 | (refine W.regionM (id := 3) tys_ok [] [2] ?_; conv => whnf)
 | (refine W.resub (x := Code.region 8 _ _) (Γ' := ⟨[(0, .padr 1000000000 0), (1, (.lit (.int .i64 (i : Int)))), (5, .padr 6000 0)], [(1000000000, .box [.lit (.bool true), .lit (.bool true), .own 1000000001, .mown 5, (.lit (.int .i64 ((r).2.2 : Int)))]), (1000000001, .row 105 PT true (r).1), (5, .mat 80 91 NT true (r).2.1 none), (6000, .box [(.lit (.int .i64 (k : Int))), (.lit (.int .i64 (v : Int)))])]⟩) ?_ ?_; rotate_left; refine W.drawMTo (id := 8) tys_ok [] [12] mixed [0, 1, 2, 4, 0, 0, 32, 64, 128, 0, 768, 1024, 2048, 8191, 16383] [([0, 1, 2, 4, 5, 6, 7, 9], 5, 8191), ([13], 1, 32767)] ⟨[(0, .padr 1000000000 0), (1, (.lit (.int .i64 (i : Int)))), (5, .padr 6000 0)], [(1000000000, .box [.lit (.bool true), .lit (.bool true), .own 1000000001, .mown 5, (.lit (.int .i64 (((r.1, F2, r.2.2)).2.2 : Int)))]), (1000000001, .row 105 PT true ((r.1, F2, r.2.2)).1), (5, .mat 80 91 NT true ((r.1, F2, r.2.2)).2.1 none), (6000, .box [(.lit (.int .i64 (k : Int))), (.lit (.int .i64 (v : Int)))])]⟩ (by decide +kernel) ?_ ?_; (conv => whnf); rotate_left; (conv => whnf))
 | (refine W.resub (x := Code.region 12 _ _) (Γ' := ⟨[(0, .padr 1000000000 0), (1, (.lit (.int .i64 (i : Int)))), (5, .padr 6000 0), (6, .fn 1000067 [.padr 1000000000 0])], [(1000000000, .box [.lit (.bool true), .lit (.bool true), .own 1000000001, .mown 5, (.lit (.int .i64 (((r.1, F2, r.2.2)).2.2 : Int)))]), (1000000001, .row 105 PT true ((r.1, F2, r.2.2)).1), (5, .mat 80 91 NT true ((r.1, F2, r.2.2)).2.1 none), (6000, .box [(.lit (.int .i64 (k : Int))), (.lit (.int .i64 (v : Int)))])]⟩) ?_ (W.drawM (id := 12) tys_ok [] [10] mixed [0, 0, 2, 0, 8, 16, 32, 64, 132, 0, 769] [([0, 1, 2, 3, 4, 5], 4, 1023), ([], 1, 2047)] (by decide +kernel) ?_); rotate_left; (conv => whnf))
 | (refine W.region tys_ok [] ?_; conv => whnf)
 | (refine W.drawAll tys_ok [] mixed rfl ?_; conv => whnf)
 | (refine W.ret ?_; conv => whnf)
 | (refine W.skip ?_; conv => whnf)
 | (refine W.exit ?_; conv => whnf)
 | (refine callM_at (c1) ?_; conv => whnf)
 | (refine callM_at (c2) ?_; conv => whnf)
 | (refine callM_at (c3) ?_; conv => whnf)
 | (refine And.intro del_note ?_; (conv => whnf))
 | (refine Both.mk ?_ ?_ <;> (conv => whnf))
 | (refine W.cond rfl (fun hb => ?_) (fun hb => ?_) <;> (try simp only [zr, zd, zm, minL, maxL, pickB, zA] at hb) <;> (try (first | (cases hb; done) | exact absurd hb (by decide) | (exfalso; omega) | (omega) | ((simp_all; done)))))
 | (refine Or.inl (And.intro trivial ?_); (conv => whnf))
 | ((with_reducible refine And.intro ?_ ?_); exact zc; conv => whnf)
 | ((with_reducible refine And.intro (Side.out ?_) ?_); rotate_left; (conv => whnf))
 | ((first | refine retM1 ?_ | refine retM2 ?_ | refine subF.leaf ?_ | refine subF.side ?_) <;> (conv => whnf) <;> repeat' (first
 | exact trivial
 | (with_reducible rfl)
 | ((with_reducible refine And.intro ?_ ?_) <;> conv => whnf)
 | omega
 | rfl
 | (refine congrArg (SV.arr _) ?_)
 | (refine congrArg (Value.int _) ?_)
 | (refine congrArg Value.bool ?_)))); all_goals (try unfold Side)
 all_goals try (repeat' (first | exact zb | with_reducible refine And.intro ?_ ?_))
 all_goals first | exact e9 | exact hF | exact e3 | exact e5 | exact e6 | exact e7 | exact em | exact em' | exact Path.imp_of hF | exact Path.imp_of e0 | exact Path.imp_of e1 | exact e2 | exact Path.imp_of e4 | skip
open Int renaming reduceToNat → zr, reduceTDiv → zd, reduceTMod → zm
open Go Go.Vc Go.Rg
variable {n : Nat} {pet : Bool} {r r2 : Rn} {e : Int}
theorem start_ring {i : Int} (h : ROk n pet r) (hs : r.2.2 ≤ 900000) (he : startE i r = e) (hr : startK i r = r2) : FnM Try.prog 30 [.padr 1000000000 0, (.lit (.int .i64 (i : Int)))] [(1000000000, .box [.lit (.bool true), .lit (.bool pet), .own 1000000001, .mown 5, (.lit (.int .i64 ((r).2.2 : Int)))]), (1000000001, .row 105 PT true (r).1), (5, .mat 80 91 NT true (r).2.1 none)] (.lit (.int .i64 (e : Int))) [(1000000000, .box [.lit (.bool true), .lit (.bool pet), .own 1000000001, .mown 5, (.lit (.int .i64 ((r2).2.2 : Int)))]), (1000000001, .row 105 PT true (r2).1), (5, .mat 80 91 NT true (r2).2.1 none)] := by
 have hs0 := h.s0
 unfold startK at hr
 rw [he] at hr
 unfold startE at he
 split at he
 · rename_i h1
   obtain ⟨j, rfl, hj⟩ := has_nat h1
   rw [Int.toNat_natCast] at he hr
   split at he
   · rename_i h2
     subst he
     rw [if_neg (by decide)] at hr
     subst hr
     exact start_none hj h2
   · rename_i h2
     subst he
     rw [if_pos rfl] at hr
     subst hr
     exact start_ok hj (by rw [h.fln, ← h.len]; exact hj) (h.fl j) (by omega) (by simpa using h2)
 · rename_i h1
   subst he
   rw [if_neg (by decide)] at hr
   subst hr
   exact start_arg (by simpa using h1)
theorem deliver_ring {i : Int} (h : ROk n pet r) (hs : r.2.2 ≤ 900000) (he : rdelE i r = e) (hr : rdelK pet i r = r2) : FnM Try.prog 33 [.padr 1000000000 0, (.lit (.int .i64 (i : Int)))] [(1000000000, .box [.lit (.bool true), .lit (.bool pet), .own 1000000001, .mown 5, (.lit (.int .i64 ((r).2.2 : Int)))]), (1000000001, .row 105 PT true (r).1), (5, .mat 80 91 NT true (r).2.1 none)] (.lit (.int .i64 (e : Int))) [(1000000000, .box [.lit (.bool true), .lit (.bool pet), .own 1000000001, .mown 5, (.lit (.int .i64 ((r2).2.2 : Int)))]), (1000000001, .row 105 PT true (r2).1), (5, .mat 80 91 NT true (r2).2.1 none)] := by
 have hs0 := h.s0
 unfold rdelK at hr
 rw [he] at hr
 unfold rdelE at he
 split at he
 · rename_i h1
   obtain ⟨j, rfl, hj⟩ := has_nat h1
   rw [Int.toNat_natCast] at he hr
   split at he
   · rename_i h2
     subst he
     rw [if_neg (by decide)] at hr
     subst hr
     exact rdel_none hj (by rw [h.fln, ← h.len]; exact hj) h2
   · rename_i h2
     subst he
     rw [if_pos rfl] at hr
     subst hr
     have hjn : j < n := by rw [← h.len]; exact hj
     cases pet with
     | false => exact rdel_ok_c h hjn hs h2
     | true => exact rdel_ok_p h hjn hs h2
 · rename_i h1
   subst he
   rw [if_neg (by decide)] at hr
   subst hr
   exact rdel_arg (by simpa using h1)
end Go.Proofs.Ytkjcnegkdlmapaa
