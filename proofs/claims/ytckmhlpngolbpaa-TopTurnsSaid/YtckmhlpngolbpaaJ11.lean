/- Joined of: H17 H18 D8 Vc37. No condition. -/
import Derived.Test.YtckmhlpngolbpaaJ9
import Derived.Test.YtckmhlpngolbpaaJ7
import Derived.Test.YtckmhlpngolbpaaJ10
import Derived.Test.YtckmhlpngolbpaaJ4
import Derived.Test.YtckmhlpngolbpaaJ5
set_option linter.unusedVariables false
set_option linter.unusedSimpArgs false
namespace Go.Proofs.Ytckmhlpngolbpaa
open Int renaming reduceToNat → zr, reduceTDiv → zd, reduceTMod → zm
open Go Go.Vc Go.Sh
set_option maxHeartbeats 8000000 in
theorem growA_at {P : Int} {l0 : List Jb} {os : List Od} (hP : 0 ≤ P ∧ P ≤ 100) {l : List Jb} {N : List Nd} (hbd : Bd l) (ho : Ords os l.length) (h1l : 1 ≤ l.length) (hN : N.length ≤ 20000) (hlong : 20000 ≤ N.length) :
  FnM Try.prog 26 [.padr 1000000000 0, .st false (.arr JT l)] [(1000000000, .box [.lit (.int .i64 P), .st true (.arr JT l0), .st true (.arr OT os), .own 5]), (5, .row 101 NT true N)] (.tup [.lit (.int .i64 0), .lit (.bool false)]) [(1000000000, .box [.lit (.int .i64 P), .st true (.arr JT l0), .st true (.arr OT os), .own 5]), (5, .row 101 NT true N)] := by
 have hll : @List.length JT.T l = l.length := rfl
 have hlN : @List.length NT.T N = N.length := rfl
 have hll2 := hbd.len
 refine FnM.of_body tys_ok Try.func26 (by rfl) rfl Try.ntmps26 (by rw [Try.results26]) (by simp) ?_
 repeat' (first
 | refine W.seq ?_
 | refine W.block ?_
 | (refine W.region tys_ok [] ?_; conv => whnf)
 | (refine W.drawAll tys_ok [] mixed rfl ?_; conv => whnf)
 | (refine W.ret ?_; conv => whnf)
 | (refine W.skip ?_; conv => whnf)
 | (refine W.exit ?_; conv => whnf)
 | (refine W.cond rfl (fun hb => ?_) (fun hb => ?_) <;> (try simp only [zr, zd, zm, minL, maxL, pickB, zA] at hb) <;> (try (first | (cases hb; done) | exact absurd hb (by decide) | (exfalso; omega) | (omega))))
 | ((with_reducible refine And.intro ?_ ?_); exact zc; conv => whnf)
 | ((with_reducible refine And.intro (Side.out ?_) ?_); rotate_left; (conv => whnf))
 | ((first | refine retM1 ?_ | refine retM2 ?_) <;> (conv => whnf) <;> repeat' (first
 | exact trivial
 | (with_reducible rfl)
 | ((with_reducible refine And.intro ?_ ?_) <;> conv => whnf)
 | omega
 | rfl
 | (refine congrArg (SV.arr _) ?_)
 | (refine congrArg (Value.int _) ?_)
 | (refine congrArg Value.bool ?_)))); all_goals (try unfold Side)
 all_goals try (repeat' (first | exact zb | with_reducible refine And.intro ?_ ?_))
set_option maxHeartbeats 8000000 in
theorem growB_at {P : Int} {l0 : List Jb} {os : List Od} (hP : 0 ≤ P ∧ P ≤ 100) {l : List Jb} {N : List Nd} (hbd : Bd l) (ho : Ords os l.length) (h1l : 1 ≤ l.length) (hN : N.length ≤ 20000) (hlong : ¬ 20000 ≤ N.length) {i : Nat} (hi : ixT os l = (i : Int)) :
  FnM Try.prog 26 [.padr 1000000000 0, .st false (.arr JT l)] [(1000000000, .box [.lit (.int .i64 P), .st true (.arr JT l0), .st true (.arr OT os), .own 5]), (5, .row 101 NT true N)] (.tup [.lit (.int .i64 (N.length : Int)), .lit (.bool true)]) [(1000000000, .box [.lit (.int .i64 P), .st true (.arr JT l0), .st true (.arr OT os), .own 5]), (5, .row 101 NT true ((N ++ [N0]).set N.length (3, (i : Int), 0, 0, 0, 0, ())))] := by
 have hll : @List.length JT.T l = l.length := rfl
 have hlN : @List.length NT.T N = N.length := rfl
 have hll2 := hbd.len
 have hix := indexB_at hbd ho
 rw [hi] at hix
 have hset0 : ((N.length : Nat) : Int).toNat < (N ++ [N0]).length := by rw [Int.toNat_natCast]; simp
 refine FnM.of_body tys_ok Try.func26 (by rfl) rfl Try.ntmps26 (by rw [Try.results26]) (by simp) ?_
 repeat' (first
 | refine W.seq ?_
 | refine W.block ?_
 | (refine W.region tys_ok [] ?_; conv => whnf)
 | (refine W.drawAll tys_ok [] mixed rfl ?_; conv => whnf)
 | (refine W.ret ?_; conv => whnf)
 | (refine W.skip ?_; conv => whnf)
 | (refine W.exit ?_; conv => whnf)
 | (refine call_at (al := false) (hix) rfl rfl rfl rfl ?_; conv => whnf)
 | (refine W.cond rfl (fun hb => ?_) (fun hb => ?_) <;> (try simp only [zr, zd, zm, minL, maxL, pickB, zA] at hb) <;> (try (first | (cases hb; done) | exact absurd hb (by decide) | (exfalso; omega) | (omega))))
 | ((with_reducible refine And.intro ?_ ?_); exact zc; conv => whnf)
 | ((with_reducible refine And.intro (Side.out ?_) ?_); rotate_left; (conv => whnf))
 | ((first | refine retM1 ?_ | refine retM2 ?_) <;> (conv => whnf) <;> repeat' (first
 | exact trivial
 | (with_reducible rfl)
 | ((with_reducible refine And.intro ?_ ?_) <;> conv => whnf)
 | omega
 | rfl
 | (refine congrArg (SV.arr _) ?_)
 | (refine congrArg (Value.int _) ?_)
 | (refine congrArg Value.bool ?_)))); all_goals (try unfold Side)
 all_goals try (repeat' (first | exact zb | with_reducible refine And.intro ?_ ?_))
 all_goals first | exact hset0 | exact Path.imp_of ⟨by omega, hset0⟩
set_option maxHeartbeats 8000000 in
theorem growC_at {P : Int} {l0 : List Jb} {os : List Od} (hP : 0 ≤ P ∧ P ≤ 100) {l : List Jb} {N : List Nd} (hbd : Bd l) (ho : Ords os l.length) (h1l : 1 ≤ l.length) (hN : N.length ≤ 20000) (hlong : ¬ 20000 ≤ N.length) (hi : lateI os l = none) {a b : Nat} (hf : overF P l = some (a, b)) :
  FnM Try.prog 26 [.padr 1000000000 0, .st false (.arr JT l)] [(1000000000, .box [.lit (.int .i64 P), .st true (.arr JT l0), .st true (.arr OT os), .own 5]), (5, .row 101 NT true N)] (.tup [.lit (.int .i64 (N.length : Int)), .lit (.bool true)]) [(1000000000, .box [.lit (.int .i64 P), .st true (.arr JT l0), .st true (.arr OT os), .own 5]), (5, .row 101 NT true ((N ++ [N0]).set N.length (2, 0, (a : Int), (b : Int), 0, 0, ())))] := by
 have hll : @List.length JT.T l = l.length := rfl
 have hlN : @List.length NT.T N = N.length := rfl
 have hll2 := hbd.len
 have hix := indexB_at hbd ho
 have hixn : ixT os l = -1 := by unfold ixT; rw [hi]
 rw [hixn] at hix
 have hov := overfull_at hP hbd
 have e1 : ovA P l = a := by unfold ovA; rw [hf]
 have e2 : ovE P l = b := by unfold ovE; rw [hf]
 have e3 : ovB P l = true := by unfold ovB; rw [hf]
 rw [e1, e2, e3] at hov
 have hset0 : ((N.length : Nat) : Int).toNat < (N ++ [N0]).length := by rw [Int.toNat_natCast]; simp
 refine FnM.of_body tys_ok Try.func26 (by rfl) rfl Try.ntmps26 (by rw [Try.results26]) (by simp) ?_
 repeat' (first
 | refine W.seq ?_
 | refine W.block ?_
 | (refine W.resub (x := Code.region 9 _ _) (Γ' := ⟨[(0, .padr 1000000000 0), (3, .st false (.sadr (.arr JT l))), (6, .lit (.int .i64 ((N.length : Int))))], [(1000000000, .box [.lit (.int .i64 P), .st true (.arr JT l0), .st true (.arr OT os), .own 5]), (5, .row 101 NT true (N ++ [N0]))]⟩) ?_ (W.drawPh (id := 9) tys_ok [] mixed [0, 1, 2, 4, 8, 0, 48, 64, 128, 128, 128, 511, 3071, 8191] [([0, 1, 2, 3, 5], 1, 63), ([], 1, 127), ([7, 8, 9, 10, 11, 12, 13], 0, 16383)] (by decide +kernel) ?_); rotate_left; (conv => whnf))
 | (refine W.region tys_ok [] ?_; conv => whnf)
 | (refine W.drawAll tys_ok [] mixed rfl ?_; conv => whnf)
 | (refine W.ret ?_; conv => whnf)
 | (refine W.skip ?_; conv => whnf)
 | (refine W.exit ?_; conv => whnf)
 | (refine call_at (al := false) (hix) rfl rfl rfl rfl ?_; conv => whnf)
 | (refine call_at (al := false) (hov) rfl rfl rfl rfl ?_; conv => whnf)
 | (refine Both.mk ?_ ?_ <;> (conv => whnf))
 | (refine W.cond rfl (fun hb => ?_) (fun hb => ?_) <;> (try simp only [zr, zd, zm, minL, maxL, pickB, zA] at hb) <;> (try (first | (cases hb; done) | exact absurd hb (by decide) | (exfalso; omega) | (omega))))
 | ((with_reducible refine And.intro ?_ ?_); exact zc; conv => whnf)
 | ((with_reducible refine And.intro (Side.out ?_) ?_); rotate_left; (conv => whnf))
 | ((first | refine retM1 ?_ | refine retM2 ?_ | refine subF.leaf ?_ | refine subF.side ?_) <;> (conv => whnf) <;> repeat' (first
 | exact trivial
 | (with_reducible rfl)
 | ((with_reducible refine And.intro ?_ ?_) <;> conv => whnf)
 | omega
 | rfl
 | (refine congrArg (SV.arr _) ?_)
 | (refine congrArg (Value.int _) ?_)
 | (refine congrArg Value.bool ?_)))); all_goals (try unfold Side)
 all_goals try (repeat' (first | exact zb | with_reducible refine And.intro ?_ ?_))
 all_goals try (first | exact hset0 | exact Path.imp_of ⟨by omega, hset0⟩)
 all_goals refine subF.ok ?_ <;> (conv => whnf) <;> repeat' (first
 | exact trivial
 | (with_reducible rfl)
 | ((with_reducible refine And.intro ?_ ?_) <;> conv => whnf)
 | omega
 | rfl
 | (refine congrArg (SV.arr _) ?_)
 | (refine congrArg (Value.int _) ?_)
 | (refine congrArg Value.bool ?_))
set_option maxHeartbeats 8000000 in
theorem growD_at {P : Int} {l0 : List Jb} {os : List Od} (hP : 0 ≤ P ∧ P ≤ 100) {l : List Jb} {N : List Nd} (hbd : Bd l) (ho : Ords os l.length) (h1l : 1 ≤ l.length) (hN : N.length ≤ 20000) (hlong : ¬ 20000 ≤ N.length) (hi : lateI os l = none) (hf : overF P l = none) (hpk : pkI l l.length = -1) :
  FnM Try.prog 26 [.padr 1000000000 0, .st false (.arr JT l)] [(1000000000, .box [.lit (.int .i64 P), .st true (.arr JT l0), .st true (.arr OT os), .own 5]), (5, .row 101 NT true N)] (.tup [.lit (.int .i64 0), .lit (.bool false)]) [(1000000000, .box [.lit (.int .i64 P), .st true (.arr JT l0), .st true (.arr OT os), .own 5]), (5, .row 101 NT true (N ++ [N0]))] := by
 have hll : @List.length JT.T l = l.length := rfl
 have hlN : @List.length NT.T N = N.length := rfl
 have hll2 := hbd.len
 have hix := indexB_at hbd ho
 have hixn : ixT os l = -1 := by unfold ixT; rw [hi]
 rw [hixn] at hix
 have hov := overfull_at hP hbd
 have e1 : ovA P l = 0 := by unfold ovA; rw [hf]
 have e2 : ovE P l = 0 := by unfold ovE; rw [hf]
 have e3 : ovB P l = false := by unfold ovB; rw [hf]
 rw [e1, e2, e3] at hov
 refine FnM.of_body tys_ok Try.func26 (by rfl) rfl Try.ntmps26 (by rw [Try.results26]) (by simp) ?_
 repeat' (first
 | refine W.seq ?_
 | refine W.block ?_
 | (refine W.resub (x := Code.region 9 _ _) (Γ' := ⟨[(0, .padr 1000000000 0), (3, .st false (.sadr (.arr JT l))), (6, .lit (.int .i64 ((N.length : Int))))], [(1000000000, .box [.lit (.int .i64 P), .st true (.arr JT l0), .st true (.arr OT os), .own 5]), (5, .row 101 NT true (N ++ [N0]))]⟩) ?_ (W.drawPh (id := 9) tys_ok [] mixed [0, 1, 2, 4, 8, 0, 48, 64, 128, 128, 128, 511, 3071, 8191] [([0, 1, 2, 3, 5], 1, 63), ([], 1, 127), ([7, 8, 9, 10, 11, 12, 13], 0, 16383)] (by decide +kernel) ?_); rotate_left; (conv => whnf))
 | (refine W.region tys_ok [] ?_; conv => whnf)
 | (refine W.drawAll tys_ok [] mixed rfl ?_; conv => whnf)
 | (refine W.ret ?_; conv => whnf)
 | (refine W.skip ?_; conv => whnf)
 | (refine W.exit ?_; conv => whnf)
 | (refine call_at (al := false) (hix) rfl rfl rfl rfl ?_; conv => whnf)
 | (refine call_at (al := false) (hov) rfl rfl rfl rfl ?_; conv => whnf)
 | (refine Both.mk ?_ ?_ <;> (conv => whnf))
 | (refine W.cond rfl (fun hb => ?_) (fun hb => ?_) <;> (try simp only [zr, zd, zm, minL, maxL, pickB, zA] at hb) <;> (try (first | (cases hb; done) | exact absurd hb (by decide) | (exfalso; omega) | (omega))))
 | ((with_reducible refine And.intro ?_ ?_); exact zc; conv => whnf)
 | ((with_reducible refine And.intro (Side.out ?_) ?_); rotate_left; (conv => whnf))
 | ((first | refine retM1 ?_ | refine retM2 ?_ | refine subF.leaf ?_ | refine subF.side ?_) <;> (conv => whnf) <;> repeat' (first
 | exact trivial
 | (with_reducible rfl)
 | ((with_reducible refine And.intro ?_ ?_) <;> conv => whnf)
 | omega
 | rfl
 | (refine congrArg (SV.arr _) ?_)
 | (refine congrArg (Value.int _) ?_)
 | (refine congrArg Value.bool ?_)))); all_goals (try unfold Side)
 all_goals try (repeat' (first | exact zb | with_reducible refine And.intro ?_ ?_))
 all_goals try refine subF.ok ?_ <;> (conv => whnf) <;> repeat' (first
 | exact trivial
 | (with_reducible rfl)
 | ((with_reducible refine And.intro ?_ ?_) <;> conv => whnf)
 | omega
 | rfl
 | (refine congrArg (SV.arr _) ?_)
 | (refine congrArg (Value.int _) ?_)
 | (refine congrArg Value.bool ?_))
 refine W.loop (fun i : Nat => ⟨[(0, .padr 1000000000 0), (3, .st false (.sadr (.arr JT l))), (6, .lit (.int .i64 ((N.length : Int)))), (11, .fn 51 []), (12, .lit (.int .i64 ((pkI l i)))), (78, .st false (.arr JT l)), (79, .lit (.int .i64 ((l.length : Int)))), (80, .lit (.int .i64 (i)))], [(1000000000, .box [.lit (.int .i64 P), .st true (.arr JT l0), .st true (.arr OT os), .own 5]), (5, .row 101 NT true (N ++ [N0]))]⟩) (fun i => i ≤ l.length) (fun i => l.length - i) (0) ?_ ?_
 · refine ⟨Nat.zero_le _, ?_⟩
   refine subF.ok ?_ <;> (conv => whnf) <;> repeat' (first
 | exact trivial
 | (with_reducible rfl)
 | ((with_reducible refine And.intro ?_ ?_) <;> conv => whnf)
 | omega
 | rfl
 | (refine congrArg (SV.arr _) ?_)
 | (refine congrArg (Value.int _) ?_)
 | (refine congrArg Value.bool ?_))
   all_goals exact pk_zero.symm
 · intro i hi2
   have hpr := pk_rg (l := l) (k := i)
   by_cases hil : i < l.length
   · have hri := hbd.rg i hil
     have hrj := hbd.rg (pkI l i).toNat (by omega)
     have c1 := free_at (f := (l.getD i J0).1) (t := (l.getD i J0).2.1) (n := (l.getD i J0).2.2.1) (p := (l.getD i J0).2.2.2.1) hri.1 hri.2.1 hri.2.2.1
     have c2 := free_at (f := (l.getD (pkI l i).toNat J0).1) (t := (l.getD (pkI l i).toNat J0).2.1) (n := (l.getD (pkI l i).toNat J0).2.2.1) (p := (l.getD (pkI l i).toNat J0).2.2.2.1) hrj.1 hrj.2.1 hrj.2.2.1
     have hy := pk_yes (l := l) (k := i)
     have hn := pk_no (l := l) (k := i)
     have hC : pkC l i ↔ 0 < (l.getD i J0).2.1 - (l.getD i J0).2.2.1 - (l.getD i J0).1 ∧ (pkI l i < 0 ∨ (l.getD i J0).2.1 - (l.getD i J0).2.2.1 - (l.getD i J0).1 < (l.getD (pkI l i).toNat J0).2.1 - (l.getD (pkI l i).toNat J0).2.2.1 - (l.getD (pkI l i).toNat J0).1) := Iff.rfl
     unfold jf jt jl jp at hri hrj
     rw [hC] at hy hn
     by_cases hc : 0 < (l.getD i J0).2.1 - (l.getD i J0).2.2.1 - (l.getD i J0).1 ∧ (pkI l i < 0 ∨ (l.getD i J0).2.1 - (l.getD i J0).2.2.1 - (l.getD i J0).1 < (l.getD (pkI l i).toNat J0).2.1 - (l.getD (pkI l i).toNat J0).2.2.1 - (l.getD (pkI l i).toNat J0).1)
     · have hy := hy hc
       repeat' (first
 | refine W.seq ?_
 | refine W.block ?_
 | (refine W.resub (x := Code.region 18 _ _) (Γ' := ⟨[(0, .padr 1000000000 0), (3, .st false (.sadr (.arr JT l))), (6, .lit (.int .i64 ((N.length : Int)))), (11, .fn 51 []), (12, .lit (.int .i64 ((pkI l i)))), (78, .st false (.arr JT l)), (79, .lit (.int .i64 ((l.length : Int)))), (80, .lit (.int .i64 (i))), (13, .lit (.int .i64 (i))), (14, .st true (.sadr (.agg [I64 (l.getD i J0).1, I64 (l.getD i J0).2.1, I64 (l.getD i J0).2.2.1, I64 (l.getD i J0).2.2.2.1])))], [(1000000000, .box [.lit (.int .i64 P), .st true (.arr JT l0), .st true (.arr OT os), .own 5]), (5, .row 101 NT true (N ++ [N0]))]⟩) ?_ (W.drawPh (id := 18) tys_ok [] mixed [0, 0, 3, 4, 12, 16, 48, 80, 128, 128, 896, 128, 128, 128, 12416, 16512, 35968, 66688, 131216, 262160] [([0, 1], 1, 7), ([3, 4, 5, 6, 7, 8, 9, 11, 12, 13, 14, 15], 1, 65535), ([], 1, 131071), ([17, 18, 19], 0, 1048575)] (by decide +kernel) ?_); rotate_left; (conv => whnf))
 | (refine W.region tys_ok [] ?_; conv => whnf)
 | (refine W.drawAll tys_ok [] mixed rfl ?_; conv => whnf)
 | (refine W.ret ?_; conv => whnf)
 | (refine W.skip ?_; conv => whnf)
 | (refine W.exit ?_; conv => whnf)
 | (refine call_at (al := false) (c1) rfl rfl rfl rfl ?_; conv => whnf)
 | (refine call_at (al := false) (c2) rfl rfl rfl rfl ?_; conv => whnf)
 | (refine Both.mk ?_ ?_ <;> (conv => whnf))
 | (refine W.cond rfl (fun hb => ?_) (fun hb => ?_) <;> (try simp only [zr, zd, zm, minL, maxL, pickB, zA] at hb) <;> (try (first | (cases hb; done) | exact absurd hb (by decide) | (exfalso; omega) | (omega))))
 | ((with_reducible refine And.intro ?_ ?_); exact zc; conv => whnf)
 | ((with_reducible refine And.intro (Side.out ?_) ?_); rotate_left; (conv => whnf))
 | ((first | refine retM1 ?_ | refine retM2 ?_ | refine subF.leaf ?_ | refine subF.side ?_) <;> (conv => whnf) <;> repeat' (first
 | exact trivial
 | (with_reducible rfl)
 | ((with_reducible refine And.intro ?_ ?_) <;> conv => whnf)
 | omega
 | rfl
 | (refine congrArg (SV.arr _) ?_)
 | (refine congrArg (Value.int _) ?_)
 | (refine congrArg Value.bool ?_)))); all_goals (try unfold Side)
       all_goals try (repeat' (first | exact zb | with_reducible refine And.intro ?_ ?_))
       all_goals try (refine ⟨i + 1, ⟨by omega, by omega⟩, ?_⟩)
       all_goals refine subF.ok ?_ <;> (conv => whnf) <;> repeat' (first
 | exact trivial
 | (with_reducible rfl)
 | ((with_reducible refine And.intro ?_ ?_) <;> conv => whnf)
 | omega
 | rfl
 | (refine congrArg (SV.arr _) ?_)
 | (refine congrArg (Value.int _) ?_)
 | (refine congrArg Value.bool ?_))
       all_goals first | exact hy.symm | rfl
     · have hn := hn hc
       repeat' (first
 | refine W.seq ?_
 | refine W.block ?_
 | (refine W.resub (x := Code.region 18 _ _) (Γ' := ⟨[(0, .padr 1000000000 0), (3, .st false (.sadr (.arr JT l))), (6, .lit (.int .i64 ((N.length : Int)))), (11, .fn 51 []), (12, .lit (.int .i64 ((pkI l i)))), (78, .st false (.arr JT l)), (79, .lit (.int .i64 ((l.length : Int)))), (80, .lit (.int .i64 (i))), (13, .lit (.int .i64 (i))), (14, .st true (.sadr (.agg [I64 (l.getD i J0).1, I64 (l.getD i J0).2.1, I64 (l.getD i J0).2.2.1, I64 (l.getD i J0).2.2.2.1])))], [(1000000000, .box [.lit (.int .i64 P), .st true (.arr JT l0), .st true (.arr OT os), .own 5]), (5, .row 101 NT true (N ++ [N0]))]⟩) ?_ (W.drawPh (id := 18) tys_ok [] mixed [0, 0, 3, 4, 12, 16, 48, 80, 128, 128, 896, 128, 128, 128, 12416, 16512, 35968, 66688, 131216, 262160] [([0, 1], 1, 7), ([3, 4, 5, 6, 7, 8, 9, 11, 12, 13, 14, 15], 1, 65535), ([], 1, 131071), ([17, 18, 19], 0, 1048575)] (by decide +kernel) ?_); rotate_left; (conv => whnf))
 | (refine W.region tys_ok [] ?_; conv => whnf)
 | (refine W.drawAll tys_ok [] mixed rfl ?_; conv => whnf)
 | (refine W.ret ?_; conv => whnf)
 | (refine W.skip ?_; conv => whnf)
 | (refine W.exit ?_; conv => whnf)
 | (refine call_at (al := false) (c1) rfl rfl rfl rfl ?_; conv => whnf)
 | (refine call_at (al := false) (c2) rfl rfl rfl rfl ?_; conv => whnf)
 | (refine Both.mk ?_ ?_ <;> (conv => whnf))
 | (refine W.cond rfl (fun hb => ?_) (fun hb => ?_) <;> (try simp only [zr, zd, zm, minL, maxL, pickB, zA] at hb) <;> (try (first | (cases hb; done) | exact absurd hb (by decide) | (exfalso; omega) | (omega))))
 | ((with_reducible refine And.intro ?_ ?_); exact zc; conv => whnf)
 | ((with_reducible refine And.intro (Side.out ?_) ?_); rotate_left; (conv => whnf))
 | ((first | refine retM1 ?_ | refine retM2 ?_ | refine subF.leaf ?_ | refine subF.side ?_) <;> (conv => whnf) <;> repeat' (first
 | exact trivial
 | (with_reducible rfl)
 | ((with_reducible refine And.intro ?_ ?_) <;> conv => whnf)
 | omega
 | rfl
 | (refine congrArg (SV.arr _) ?_)
 | (refine congrArg (Value.int _) ?_)
 | (refine congrArg Value.bool ?_)))); all_goals (try unfold Side)
       all_goals try (repeat' (first | exact zb | with_reducible refine And.intro ?_ ?_))
       all_goals try (refine ⟨i + 1, ⟨by omega, by omega⟩, ?_⟩)
       all_goals refine subF.ok ?_ <;> (conv => whnf) <;> repeat' (first
 | exact trivial
 | (with_reducible rfl)
 | ((with_reducible refine And.intro ?_ ?_) <;> conv => whnf)
 | omega
 | rfl
 | (refine congrArg (SV.arr _) ?_)
 | (refine congrArg (Value.int _) ?_)
 | (refine congrArg Value.bool ?_))
       all_goals first | exact hn.symm | rfl
   · have hie : l.length = i := by omega
     subst hie
     rw [hpk]
     repeat' (first
 | refine W.seq ?_
 | refine W.block ?_
 | (refine W.region tys_ok [] ?_; conv => whnf)
 | (refine W.drawAll tys_ok [] mixed rfl ?_; conv => whnf)
 | (refine W.ret ?_; conv => whnf)
 | (refine W.skip ?_; conv => whnf)
 | (refine W.exit ?_; conv => whnf)
 | (refine W.cond rfl (fun hb => ?_) (fun hb => ?_) <;> (try simp only [zr, zd, zm, minL, maxL, pickB, zA] at hb) <;> (try (first | (cases hb; done) | exact absurd hb (by decide) | (exfalso; omega))))
 | ((with_reducible refine And.intro ?_ ?_); exact zc; conv => whnf)
 | ((with_reducible refine And.intro (Side.out ?_) ?_); rotate_left; (conv => whnf))
 | ((first | refine retM1 ?_ | refine retM2 ?_) <;> (conv => whnf) <;> repeat' (first
 | exact trivial
 | (with_reducible rfl)
 | ((with_reducible refine And.intro ?_ ?_) <;> conv => whnf)
 | omega
 | rfl
 | (refine congrArg (SV.arr _) ?_)
 | (refine congrArg (Value.int _) ?_)
 | (refine congrArg Value.bool ?_)))); all_goals (try unfold Side)
     all_goals try (repeat' (first | exact zb | with_reducible refine And.intro ?_ ?_))
set_option maxHeartbeats 8000000 in
theorem growE_at {P : Int} {l0 : List Jb} {os : List Od} (hP : 0 ≤ P ∧ P ≤ 100) {l : List Jb} {N : List Nd} (hbd : Bd l) (ho : Ords os l.length) (h1l : 1 ≤ l.length) (hN : N.length ≤ 20000) (hlong : ¬ 20000 ≤ N.length) (hi : lateI os l = none) (hf : overF P l = none) {j : Nat} (hj : j < l.length) (hfree : 0 < frT l j) (hpk : pkI l l.length = (j : Int)) {L R : List Jb} (hL : L = partL l j (midT l j)) (hR : R = partR l j (midT l j)) {N2 N3 : List Nd}
  (cL : FnM Try.prog 26 [.padr 1000000000 0, .st false (.arr JT L)] [(1000000000, .box [.lit (.int .i64 P), .st true (.arr JT l0), .st true (.arr OT os), .own 5]), (5, .row 101 NT true (N ++ [N0]))] (.tup [.lit (.int .i64 0), .lit (.bool false)]) [(1000000000, .box [.lit (.int .i64 P), .st true (.arr JT l0), .st true (.arr OT os), .own 5]), (5, .row 101 NT true N2)]) :
  FnM Try.prog 26 [.padr 1000000000 0, .st false (.arr JT l)] [(1000000000, .box [.lit (.int .i64 P), .st true (.arr JT l0), .st true (.arr OT os), .own 5]), (5, .row 101 NT true N)] (.tup [.lit (.int .i64 0), .lit (.bool false)]) [(1000000000, .box [.lit (.int .i64 P), .st true (.arr JT l0), .st true (.arr OT os), .own 5]), (5, .row 101 NT true N2)] := by
 have hll : @List.length JT.T l = l.length := rfl
 have hlN : @List.length NT.T N = N.length := rfl
 have hll2 := hbd.len
 have hix := indexB_at hbd ho
 have hixn : ixT os l = -1 := by unfold ixT; rw [hi]
 rw [hixn] at hix
 have hov := overfull_at hP hbd
 have e1 : ovA P l = 0 := by unfold ovA; rw [hf]
 have e2 : ovE P l = 0 := by unfold ovE; rw [hf]
 have e3 : ovB P l = false := by unfold ovB; rw [hf]
 rw [e1, e2, e3] at hov
 refine FnM.of_body tys_ok Try.func26 (by rfl) rfl Try.ntmps26 (by rw [Try.results26]) (by simp) ?_
 repeat' (first
 | refine W.seq ?_
 | refine W.block ?_
 | (refine W.resub (x := Code.region 9 _ _) (Γ' := ⟨[(0, .padr 1000000000 0), (3, .st false (.sadr (.arr JT l))), (6, .lit (.int .i64 ((N.length : Int))))], [(1000000000, .box [.lit (.int .i64 P), .st true (.arr JT l0), .st true (.arr OT os), .own 5]), (5, .row 101 NT true (N ++ [N0]))]⟩) ?_ (W.drawPh (id := 9) tys_ok [] mixed [0, 1, 2, 4, 8, 0, 48, 64, 128, 128, 128, 511, 3071, 8191] [([0, 1, 2, 3, 5], 1, 63), ([], 1, 127), ([7, 8, 9, 10, 11, 12, 13], 0, 16383)] (by decide +kernel) ?_); rotate_left; (conv => whnf))
 | (refine W.region tys_ok [] ?_; conv => whnf)
 | (refine W.drawAll tys_ok [] mixed rfl ?_; conv => whnf)
 | (refine W.ret ?_; conv => whnf)
 | (refine W.skip ?_; conv => whnf)
 | (refine W.exit ?_; conv => whnf)
 | (refine call_at (al := false) (hix) rfl rfl rfl rfl ?_; conv => whnf)
 | (refine call_at (al := false) (hov) rfl rfl rfl rfl ?_; conv => whnf)
 | (refine Both.mk ?_ ?_ <;> (conv => whnf))
 | (refine W.cond rfl (fun hb => ?_) (fun hb => ?_) <;> (try simp only [zr, zd, zm, minL, maxL, pickB, zA] at hb) <;> (try (first | (cases hb; done) | exact absurd hb (by decide) | (exfalso; omega) | (omega))))
 | ((with_reducible refine And.intro ?_ ?_); exact zc; conv => whnf)
 | ((with_reducible refine And.intro (Side.out ?_) ?_); rotate_left; (conv => whnf))
 | ((first | refine retM1 ?_ | refine retM2 ?_ | refine subF.leaf ?_ | refine subF.side ?_) <;> (conv => whnf) <;> repeat' (first
 | exact trivial
 | (with_reducible rfl)
 | ((with_reducible refine And.intro ?_ ?_) <;> conv => whnf)
 | omega
 | rfl
 | (refine congrArg (SV.arr _) ?_)
 | (refine congrArg (Value.int _) ?_)
 | (refine congrArg Value.bool ?_)))); all_goals (try unfold Side)
 all_goals try (repeat' (first | exact zb | with_reducible refine And.intro ?_ ?_))
 all_goals try refine subF.ok ?_ <;> (conv => whnf) <;> repeat' (first
 | exact trivial
 | (with_reducible rfl)
 | ((with_reducible refine And.intro ?_ ?_) <;> conv => whnf)
 | omega
 | rfl
 | (refine congrArg (SV.arr _) ?_)
 | (refine congrArg (Value.int _) ?_)
 | (refine congrArg Value.bool ?_))
 refine W.loop (fun i : Nat => ⟨[(0, .padr 1000000000 0), (3, .st false (.sadr (.arr JT l))), (6, .lit (.int .i64 ((N.length : Int)))), (11, .fn 51 []), (12, .lit (.int .i64 ((pkI l i)))), (78, .st false (.arr JT l)), (79, .lit (.int .i64 ((l.length : Int)))), (80, .lit (.int .i64 (i)))], [(1000000000, .box [.lit (.int .i64 P), .st true (.arr JT l0), .st true (.arr OT os), .own 5]), (5, .row 101 NT true (N ++ [N0]))]⟩) (fun i => i ≤ l.length) (fun i => l.length - i) (0) ?_ ?_
 · refine ⟨Nat.zero_le _, ?_⟩
   refine subF.ok ?_ <;> (conv => whnf) <;> repeat' (first
 | exact trivial
 | (with_reducible rfl)
 | ((with_reducible refine And.intro ?_ ?_) <;> conv => whnf)
 | omega
 | rfl
 | (refine congrArg (SV.arr _) ?_)
 | (refine congrArg (Value.int _) ?_)
 | (refine congrArg Value.bool ?_))
   all_goals exact pk_zero.symm
 · intro i hi2
   have hpr := pk_rg (l := l) (k := i)
   by_cases hil : i < l.length
   · have hri := hbd.rg i hil
     have hrj := hbd.rg (pkI l i).toNat (by omega)
     have c1 := free_at (f := (l.getD i J0).1) (t := (l.getD i J0).2.1) (n := (l.getD i J0).2.2.1) (p := (l.getD i J0).2.2.2.1) hri.1 hri.2.1 hri.2.2.1
     have c2 := free_at (f := (l.getD (pkI l i).toNat J0).1) (t := (l.getD (pkI l i).toNat J0).2.1) (n := (l.getD (pkI l i).toNat J0).2.2.1) (p := (l.getD (pkI l i).toNat J0).2.2.2.1) hrj.1 hrj.2.1 hrj.2.2.1
     have hy := pk_yes (l := l) (k := i)
     have hn := pk_no (l := l) (k := i)
     have hC : pkC l i ↔ 0 < (l.getD i J0).2.1 - (l.getD i J0).2.2.1 - (l.getD i J0).1 ∧ (pkI l i < 0 ∨ (l.getD i J0).2.1 - (l.getD i J0).2.2.1 - (l.getD i J0).1 < (l.getD (pkI l i).toNat J0).2.1 - (l.getD (pkI l i).toNat J0).2.2.1 - (l.getD (pkI l i).toNat J0).1) := Iff.rfl
     unfold jf jt jl jp at hri hrj
     rw [hC] at hy hn
     by_cases hc : 0 < (l.getD i J0).2.1 - (l.getD i J0).2.2.1 - (l.getD i J0).1 ∧ (pkI l i < 0 ∨ (l.getD i J0).2.1 - (l.getD i J0).2.2.1 - (l.getD i J0).1 < (l.getD (pkI l i).toNat J0).2.1 - (l.getD (pkI l i).toNat J0).2.2.1 - (l.getD (pkI l i).toNat J0).1)
     · have hy := hy hc
       repeat' (first
 | refine W.seq ?_
 | refine W.block ?_
 | (refine W.resub (x := Code.region 18 _ _) (Γ' := ⟨[(0, .padr 1000000000 0), (3, .st false (.sadr (.arr JT l))), (6, .lit (.int .i64 ((N.length : Int)))), (11, .fn 51 []), (12, .lit (.int .i64 ((pkI l i)))), (78, .st false (.arr JT l)), (79, .lit (.int .i64 ((l.length : Int)))), (80, .lit (.int .i64 (i))), (13, .lit (.int .i64 (i))), (14, .st true (.sadr (.agg [I64 (l.getD i J0).1, I64 (l.getD i J0).2.1, I64 (l.getD i J0).2.2.1, I64 (l.getD i J0).2.2.2.1])))], [(1000000000, .box [.lit (.int .i64 P), .st true (.arr JT l0), .st true (.arr OT os), .own 5]), (5, .row 101 NT true (N ++ [N0]))]⟩) ?_ (W.drawPh (id := 18) tys_ok [] mixed [0, 0, 3, 4, 12, 16, 48, 80, 128, 128, 896, 128, 128, 128, 12416, 16512, 35968, 66688, 131216, 262160] [([0, 1], 1, 7), ([3, 4, 5, 6, 7, 8, 9, 11, 12, 13, 14, 15], 1, 65535), ([], 1, 131071), ([17, 18, 19], 0, 1048575)] (by decide +kernel) ?_); rotate_left; (conv => whnf))
 | (refine W.region tys_ok [] ?_; conv => whnf)
 | (refine W.drawAll tys_ok [] mixed rfl ?_; conv => whnf)
 | (refine W.ret ?_; conv => whnf)
 | (refine W.skip ?_; conv => whnf)
 | (refine W.exit ?_; conv => whnf)
 | (refine call_at (al := false) (c1) rfl rfl rfl rfl ?_; conv => whnf)
 | (refine call_at (al := false) (c2) rfl rfl rfl rfl ?_; conv => whnf)
 | (refine Both.mk ?_ ?_ <;> (conv => whnf))
 | (refine W.cond rfl (fun hb => ?_) (fun hb => ?_) <;> (try simp only [zr, zd, zm, minL, maxL, pickB, zA] at hb) <;> (try (first | (cases hb; done) | exact absurd hb (by decide) | (exfalso; omega) | (omega))))
 | ((with_reducible refine And.intro ?_ ?_); exact zc; conv => whnf)
 | ((with_reducible refine And.intro (Side.out ?_) ?_); rotate_left; (conv => whnf))
 | ((first | refine retM1 ?_ | refine retM2 ?_ | refine subF.leaf ?_ | refine subF.side ?_) <;> (conv => whnf) <;> repeat' (first
 | exact trivial
 | (with_reducible rfl)
 | ((with_reducible refine And.intro ?_ ?_) <;> conv => whnf)
 | omega
 | rfl
 | (refine congrArg (SV.arr _) ?_)
 | (refine congrArg (Value.int _) ?_)
 | (refine congrArg Value.bool ?_)))); all_goals (try unfold Side)
       all_goals try (repeat' (first | exact zb | with_reducible refine And.intro ?_ ?_))
       all_goals try (refine ⟨i + 1, ⟨by omega, by omega⟩, ?_⟩)
       all_goals refine subF.ok ?_ <;> (conv => whnf) <;> repeat' (first
 | exact trivial
 | (with_reducible rfl)
 | ((with_reducible refine And.intro ?_ ?_) <;> conv => whnf)
 | omega
 | rfl
 | (refine congrArg (SV.arr _) ?_)
 | (refine congrArg (Value.int _) ?_)
 | (refine congrArg Value.bool ?_))
       all_goals first | exact hy.symm | rfl
     · have hn := hn hc
       repeat' (first
 | refine W.seq ?_
 | refine W.block ?_
 | (refine W.resub (x := Code.region 18 _ _) (Γ' := ⟨[(0, .padr 1000000000 0), (3, .st false (.sadr (.arr JT l))), (6, .lit (.int .i64 ((N.length : Int)))), (11, .fn 51 []), (12, .lit (.int .i64 ((pkI l i)))), (78, .st false (.arr JT l)), (79, .lit (.int .i64 ((l.length : Int)))), (80, .lit (.int .i64 (i))), (13, .lit (.int .i64 (i))), (14, .st true (.sadr (.agg [I64 (l.getD i J0).1, I64 (l.getD i J0).2.1, I64 (l.getD i J0).2.2.1, I64 (l.getD i J0).2.2.2.1])))], [(1000000000, .box [.lit (.int .i64 P), .st true (.arr JT l0), .st true (.arr OT os), .own 5]), (5, .row 101 NT true (N ++ [N0]))]⟩) ?_ (W.drawPh (id := 18) tys_ok [] mixed [0, 0, 3, 4, 12, 16, 48, 80, 128, 128, 896, 128, 128, 128, 12416, 16512, 35968, 66688, 131216, 262160] [([0, 1], 1, 7), ([3, 4, 5, 6, 7, 8, 9, 11, 12, 13, 14, 15], 1, 65535), ([], 1, 131071), ([17, 18, 19], 0, 1048575)] (by decide +kernel) ?_); rotate_left; (conv => whnf))
 | (refine W.region tys_ok [] ?_; conv => whnf)
 | (refine W.drawAll tys_ok [] mixed rfl ?_; conv => whnf)
 | (refine W.ret ?_; conv => whnf)
 | (refine W.skip ?_; conv => whnf)
 | (refine W.exit ?_; conv => whnf)
 | (refine call_at (al := false) (c1) rfl rfl rfl rfl ?_; conv => whnf)
 | (refine call_at (al := false) (c2) rfl rfl rfl rfl ?_; conv => whnf)
 | (refine Both.mk ?_ ?_ <;> (conv => whnf))
 | (refine W.cond rfl (fun hb => ?_) (fun hb => ?_) <;> (try simp only [zr, zd, zm, minL, maxL, pickB, zA] at hb) <;> (try (first | (cases hb; done) | exact absurd hb (by decide) | (exfalso; omega) | (omega))))
 | ((with_reducible refine And.intro ?_ ?_); exact zc; conv => whnf)
 | ((with_reducible refine And.intro (Side.out ?_) ?_); rotate_left; (conv => whnf))
 | ((first | refine retM1 ?_ | refine retM2 ?_ | refine subF.leaf ?_ | refine subF.side ?_) <;> (conv => whnf) <;> repeat' (first
 | exact trivial
 | (with_reducible rfl)
 | ((with_reducible refine And.intro ?_ ?_) <;> conv => whnf)
 | omega
 | rfl
 | (refine congrArg (SV.arr _) ?_)
 | (refine congrArg (Value.int _) ?_)
 | (refine congrArg Value.bool ?_)))); all_goals (try unfold Side)
       all_goals try (repeat' (first | exact zb | with_reducible refine And.intro ?_ ?_))
       all_goals try (refine ⟨i + 1, ⟨by omega, by omega⟩, ?_⟩)
       all_goals refine subF.ok ?_ <;> (conv => whnf) <;> repeat' (first
 | exact trivial
 | (with_reducible rfl)
 | ((with_reducible refine And.intro ?_ ?_) <;> conv => whnf)
 | omega
 | rfl
 | (refine congrArg (SV.arr _) ?_)
 | (refine congrArg (Value.int _) ?_)
 | (refine congrArg Value.bool ?_))
       all_goals first | exact hn.symm | rfl
   · have hie : l.length = i := by omega
     subst hie
     rw [hpk]
     have hfr : 0 < (l.getD j J0).2.1 - (l.getD j J0).2.2.1 - (l.getD j J0).1 := hfree
     have hrj := hbd.rg j hj
     unfold jf jt jl jp at hrj
     have c3 := free_at (f := (l.getD j J0).1) (t := (l.getD j J0).2.1) (n := (l.getD j J0).2.2.1) (p := (l.getD j J0).2.2.2.1) hrj.1 hrj.2.1 hrj.2.2.1
     have hmid : ((l.getD j J0).1 + Int.tdiv ((l.getD j J0).2.1 - (l.getD j J0).2.2.1 - (l.getD j J0).1 - 1) 2) = midT l j := by
      rw [Int.tdiv_eq_ediv_of_nonneg (by omega)]; rfl
     have hmr := mid_rg hfree
     unfold jf jt jl at hmr
     have hpt : FnAt Try.prog false 52 [.arr JT l, I64 (j : Int), I64 ((l.getD j J0).1 + Int.tdiv ((l.getD j J0).2.1 - (l.getD j J0).2.2.1 - (l.getD j J0).1 - 1) 2)] (.tup [.own 0, .own 1]) [(0, .row 30 JT true L), (1, .row 30 JT true R)] := by
      have h := parted_at hbd (j := (j : Int)) (a := ((l.getD j J0).1 + Int.tdiv ((l.getD j J0).2.1 - (l.getD j J0).2.2.1 - (l.getD j J0).1 - 1) 2)) (by omega) (by rw [hmid]; omega)
      rw [hmid, Int.toNat_natCast] at h
      rw [hmid, hL, hR]
      exact h
     repeat' (first
 | refine W.seq ?_
 | refine W.block ?_
 | (refine W.drawPh (id := 23) tys_ok [] mixed [0, 0, 3, 4, 8, 0, 0, 0, 192, 256, 544, 1024, 2048, 4112, 16383] [([0, 1, 2, 3, 4, 5, 6, 7, 8, 9], 1, 2047), ([11, 12, 13, 14], 0, 32767)] (by decide +kernel) ?_; conv => whnf)
 | (refine W.resub (x := Code.region 25 _ _) (Γ' := ⟨[(0, .padr 1000000000 0), (6, .lit (.int .i64 ((N.length : Int)))), (12, .lit (.int .i64 ((j : Int)))), (15, .lit (.int .i64 ((midT l j)))), (16, .st true (.arr JT L)), (17, .st true (.arr JT R))], [(1000000000, .box [.lit (.int .i64 P), .st true (.arr JT l0), .st true (.arr OT os), .own 5]), (5, .row 101 NT true (N ++ [N0]))]⟩) ?_ (W.regionM tys_ok [] [2] ?_); rotate_left; (conv => whnf))
 | (refine W.region tys_ok [] ?_; conv => whnf)
 | (refine W.drawAll tys_ok [] mixed rfl ?_; conv => whnf)
 | (refine W.ret ?_; conv => whnf)
 | (refine W.skip ?_; conv => whnf)
 | (refine W.exit ?_; conv => whnf)
 | (refine call_at (al := false) (c3) rfl rfl rfl rfl ?_; conv => whnf)
 | (refine call_at (al := false) (hpt) rfl rfl rfl rfl ?_; conv => whnf)
 | (refine callM_at (cL) ?_; conv => whnf)
 | (refine Both.mk ?_ ?_ <;> (conv => whnf))
 | (refine W.cond rfl (fun hb => ?_) (fun hb => ?_) <;> (try simp only [zr, zd, zm, minL, maxL, pickB, zA] at hb) <;> (try (first | (cases hb; done) | exact absurd hb (by decide) | (exfalso; omega))))
 | (refine Or.inl (And.intro trivial ?_); (conv => whnf))
 | ((with_reducible refine And.intro ?_ ?_); exact zc; conv => whnf)
 | ((with_reducible refine And.intro (Side.out ?_) ?_); rotate_left; (conv => whnf))
 | ((first | refine retM1 ?_ | refine retM2 ?_ | refine subF.leaf ?_ | refine subF.side ?_) <;> (conv => whnf) <;> repeat' (first
 | exact trivial
 | (with_reducible rfl)
 | ((with_reducible refine And.intro ?_ ?_) <;> conv => whnf)
 | omega
 | rfl
 | (refine congrArg (SV.arr _) ?_)
 | (refine congrArg (Value.int _) ?_)
 | (refine congrArg Value.bool ?_)))); all_goals (try unfold Side)
     all_goals try (repeat' (first | exact zb | with_reducible refine And.intro ?_ ?_))
     all_goals try exact hmid
     all_goals refine subF.ok ?_ <;> (conv => whnf) <;> repeat' (first
 | exact trivial
 | (with_reducible rfl)
 | ((with_reducible refine And.intro ?_ ?_) <;> conv => whnf)
 | omega
 | rfl
 | (refine congrArg (SV.arr _) ?_)
 | (refine congrArg (Value.int _) ?_)
 | (refine congrArg Value.bool ?_))
     all_goals exact hmid
set_option maxHeartbeats 8000000 in
theorem growF_at {P : Int} {l0 : List Jb} {os : List Od} (hP : 0 ≤ P ∧ P ≤ 100) {l : List Jb} {N : List Nd} (hbd : Bd l) (ho : Ords os l.length) (h1l : 1 ≤ l.length) (hN : N.length ≤ 20000) (hlong : ¬ 20000 ≤ N.length) (hi : lateI os l = none) (hf : overF P l = none) {j : Nat} (hj : j < l.length) (hfree : 0 < frT l j) (hpk : pkI l l.length = (j : Int)) {L R : List Jb} (hL : L = partL l j (midT l j)) (hR : R = partR l j (midT l j)) {N2 N3 : List Nd} (hN2 : N2.length ≤ 20000)
  (cL : FnM Try.prog 26 [.padr 1000000000 0, .st false (.arr JT L)] [(1000000000, .box [.lit (.int .i64 P), .st true (.arr JT l0), .st true (.arr OT os), .own 5]), (5, .row 101 NT true (N ++ [N0]))] (.tup [.lit (.int .i64 ((N.length : Int) + 1)), .lit (.bool true)]) [(1000000000, .box [.lit (.int .i64 P), .st true (.arr JT l0), .st true (.arr OT os), .own 5]), (5, .row 101 NT true N2)])
  (cR : FnM Try.prog 26 [.padr 1000000000 0, .st false (.arr JT R)] [(1000000000, .box [.lit (.int .i64 P), .st true (.arr JT l0), .st true (.arr OT os), .own 5]), (5, .row 101 NT true N2)] (.tup [.lit (.int .i64 0), .lit (.bool false)]) [(1000000000, .box [.lit (.int .i64 P), .st true (.arr JT l0), .st true (.arr OT os), .own 5]), (5, .row 101 NT true N3)]) :
  FnM Try.prog 26 [.padr 1000000000 0, .st false (.arr JT l)] [(1000000000, .box [.lit (.int .i64 P), .st true (.arr JT l0), .st true (.arr OT os), .own 5]), (5, .row 101 NT true N)] (.tup [.lit (.int .i64 0), .lit (.bool false)]) [(1000000000, .box [.lit (.int .i64 P), .st true (.arr JT l0), .st true (.arr OT os), .own 5]), (5, .row 101 NT true N3)] := by
 have hll : @List.length JT.T l = l.length := rfl
 have hlN : @List.length NT.T N = N.length := rfl
 have hll2 := hbd.len
 have hix := indexB_at hbd ho
 have hixn : ixT os l = -1 := by unfold ixT; rw [hi]
 rw [hixn] at hix
 have hov := overfull_at hP hbd
 have e1 : ovA P l = 0 := by unfold ovA; rw [hf]
 have e2 : ovE P l = 0 := by unfold ovE; rw [hf]
 have e3 : ovB P l = false := by unfold ovB; rw [hf]
 rw [e1, e2, e3] at hov
 refine FnM.of_body tys_ok Try.func26 (by rfl) rfl Try.ntmps26 (by rw [Try.results26]) (by simp) ?_
 repeat' (first
 | refine W.seq ?_
 | refine W.block ?_
 | (refine W.resub (x := Code.region 9 _ _) (Γ' := ⟨[(0, .padr 1000000000 0), (3, .st false (.sadr (.arr JT l))), (6, .lit (.int .i64 ((N.length : Int))))], [(1000000000, .box [.lit (.int .i64 P), .st true (.arr JT l0), .st true (.arr OT os), .own 5]), (5, .row 101 NT true (N ++ [N0]))]⟩) ?_ (W.drawPh (id := 9) tys_ok [] mixed [0, 1, 2, 4, 8, 0, 48, 64, 128, 128, 128, 511, 3071, 8191] [([0, 1, 2, 3, 5], 1, 63), ([], 1, 127), ([7, 8, 9, 10, 11, 12, 13], 0, 16383)] (by decide +kernel) ?_); rotate_left; (conv => whnf))
 | (refine W.region tys_ok [] ?_; conv => whnf)
 | (refine W.drawAll tys_ok [] mixed rfl ?_; conv => whnf)
 | (refine W.ret ?_; conv => whnf)
 | (refine W.skip ?_; conv => whnf)
 | (refine W.exit ?_; conv => whnf)
 | (refine call_at (al := false) (hix) rfl rfl rfl rfl ?_; conv => whnf)
 | (refine call_at (al := false) (hov) rfl rfl rfl rfl ?_; conv => whnf)
 | (refine Both.mk ?_ ?_ <;> (conv => whnf))
 | (refine W.cond rfl (fun hb => ?_) (fun hb => ?_) <;> (try simp only [zr, zd, zm, minL, maxL, pickB, zA] at hb) <;> (try (first | (cases hb; done) | exact absurd hb (by decide) | (exfalso; omega) | (omega))))
 | ((with_reducible refine And.intro ?_ ?_); exact zc; conv => whnf)
 | ((with_reducible refine And.intro (Side.out ?_) ?_); rotate_left; (conv => whnf))
 | ((first | refine retM1 ?_ | refine retM2 ?_ | refine subF.leaf ?_ | refine subF.side ?_) <;> (conv => whnf) <;> repeat' (first
 | exact trivial
 | (with_reducible rfl)
 | ((with_reducible refine And.intro ?_ ?_) <;> conv => whnf)
 | omega
 | rfl
 | (refine congrArg (SV.arr _) ?_)
 | (refine congrArg (Value.int _) ?_)
 | (refine congrArg Value.bool ?_)))); all_goals (try unfold Side)
 all_goals try (repeat' (first | exact zb | with_reducible refine And.intro ?_ ?_))
 all_goals try refine subF.ok ?_ <;> (conv => whnf) <;> repeat' (first
 | exact trivial
 | (with_reducible rfl)
 | ((with_reducible refine And.intro ?_ ?_) <;> conv => whnf)
 | omega
 | rfl
 | (refine congrArg (SV.arr _) ?_)
 | (refine congrArg (Value.int _) ?_)
 | (refine congrArg Value.bool ?_))
 refine W.loop (fun i : Nat => ⟨[(0, .padr 1000000000 0), (3, .st false (.sadr (.arr JT l))), (6, .lit (.int .i64 ((N.length : Int)))), (11, .fn 51 []), (12, .lit (.int .i64 ((pkI l i)))), (78, .st false (.arr JT l)), (79, .lit (.int .i64 ((l.length : Int)))), (80, .lit (.int .i64 (i)))], [(1000000000, .box [.lit (.int .i64 P), .st true (.arr JT l0), .st true (.arr OT os), .own 5]), (5, .row 101 NT true (N ++ [N0]))]⟩) (fun i => i ≤ l.length) (fun i => l.length - i) (0) ?_ ?_
 · refine ⟨Nat.zero_le _, ?_⟩
   refine subF.ok ?_ <;> (conv => whnf) <;> repeat' (first
 | exact trivial
 | (with_reducible rfl)
 | ((with_reducible refine And.intro ?_ ?_) <;> conv => whnf)
 | omega
 | rfl
 | (refine congrArg (SV.arr _) ?_)
 | (refine congrArg (Value.int _) ?_)
 | (refine congrArg Value.bool ?_))
   all_goals exact pk_zero.symm
 · intro i hi2
   have hpr := pk_rg (l := l) (k := i)
   by_cases hil : i < l.length
   · have hri := hbd.rg i hil
     have hrj := hbd.rg (pkI l i).toNat (by omega)
     have c1 := free_at (f := (l.getD i J0).1) (t := (l.getD i J0).2.1) (n := (l.getD i J0).2.2.1) (p := (l.getD i J0).2.2.2.1) hri.1 hri.2.1 hri.2.2.1
     have c2 := free_at (f := (l.getD (pkI l i).toNat J0).1) (t := (l.getD (pkI l i).toNat J0).2.1) (n := (l.getD (pkI l i).toNat J0).2.2.1) (p := (l.getD (pkI l i).toNat J0).2.2.2.1) hrj.1 hrj.2.1 hrj.2.2.1
     have hy := pk_yes (l := l) (k := i)
     have hn := pk_no (l := l) (k := i)
     have hC : pkC l i ↔ 0 < (l.getD i J0).2.1 - (l.getD i J0).2.2.1 - (l.getD i J0).1 ∧ (pkI l i < 0 ∨ (l.getD i J0).2.1 - (l.getD i J0).2.2.1 - (l.getD i J0).1 < (l.getD (pkI l i).toNat J0).2.1 - (l.getD (pkI l i).toNat J0).2.2.1 - (l.getD (pkI l i).toNat J0).1) := Iff.rfl
     unfold jf jt jl jp at hri hrj
     rw [hC] at hy hn
     by_cases hc : 0 < (l.getD i J0).2.1 - (l.getD i J0).2.2.1 - (l.getD i J0).1 ∧ (pkI l i < 0 ∨ (l.getD i J0).2.1 - (l.getD i J0).2.2.1 - (l.getD i J0).1 < (l.getD (pkI l i).toNat J0).2.1 - (l.getD (pkI l i).toNat J0).2.2.1 - (l.getD (pkI l i).toNat J0).1)
     · have hy := hy hc
       repeat' (first
 | refine W.seq ?_
 | refine W.block ?_
 | (refine W.resub (x := Code.region 18 _ _) (Γ' := ⟨[(0, .padr 1000000000 0), (3, .st false (.sadr (.arr JT l))), (6, .lit (.int .i64 ((N.length : Int)))), (11, .fn 51 []), (12, .lit (.int .i64 ((pkI l i)))), (78, .st false (.arr JT l)), (79, .lit (.int .i64 ((l.length : Int)))), (80, .lit (.int .i64 (i))), (13, .lit (.int .i64 (i))), (14, .st true (.sadr (.agg [I64 (l.getD i J0).1, I64 (l.getD i J0).2.1, I64 (l.getD i J0).2.2.1, I64 (l.getD i J0).2.2.2.1])))], [(1000000000, .box [.lit (.int .i64 P), .st true (.arr JT l0), .st true (.arr OT os), .own 5]), (5, .row 101 NT true (N ++ [N0]))]⟩) ?_ (W.drawPh (id := 18) tys_ok [] mixed [0, 0, 3, 4, 12, 16, 48, 80, 128, 128, 896, 128, 128, 128, 12416, 16512, 35968, 66688, 131216, 262160] [([0, 1], 1, 7), ([3, 4, 5, 6, 7, 8, 9, 11, 12, 13, 14, 15], 1, 65535), ([], 1, 131071), ([17, 18, 19], 0, 1048575)] (by decide +kernel) ?_); rotate_left; (conv => whnf))
 | (refine W.region tys_ok [] ?_; conv => whnf)
 | (refine W.drawAll tys_ok [] mixed rfl ?_; conv => whnf)
 | (refine W.ret ?_; conv => whnf)
 | (refine W.skip ?_; conv => whnf)
 | (refine W.exit ?_; conv => whnf)
 | (refine call_at (al := false) (c1) rfl rfl rfl rfl ?_; conv => whnf)
 | (refine call_at (al := false) (c2) rfl rfl rfl rfl ?_; conv => whnf)
 | (refine Both.mk ?_ ?_ <;> (conv => whnf))
 | (refine W.cond rfl (fun hb => ?_) (fun hb => ?_) <;> (try simp only [zr, zd, zm, minL, maxL, pickB, zA] at hb) <;> (try (first | (cases hb; done) | exact absurd hb (by decide) | (exfalso; omega) | (omega))))
 | ((with_reducible refine And.intro ?_ ?_); exact zc; conv => whnf)
 | ((with_reducible refine And.intro (Side.out ?_) ?_); rotate_left; (conv => whnf))
 | ((first | refine retM1 ?_ | refine retM2 ?_ | refine subF.leaf ?_ | refine subF.side ?_) <;> (conv => whnf) <;> repeat' (first
 | exact trivial
 | (with_reducible rfl)
 | ((with_reducible refine And.intro ?_ ?_) <;> conv => whnf)
 | omega
 | rfl
 | (refine congrArg (SV.arr _) ?_)
 | (refine congrArg (Value.int _) ?_)
 | (refine congrArg Value.bool ?_)))); all_goals (try unfold Side)
       all_goals try (repeat' (first | exact zb | with_reducible refine And.intro ?_ ?_))
       all_goals try (refine ⟨i + 1, ⟨by omega, by omega⟩, ?_⟩)
       all_goals refine subF.ok ?_ <;> (conv => whnf) <;> repeat' (first
 | exact trivial
 | (with_reducible rfl)
 | ((with_reducible refine And.intro ?_ ?_) <;> conv => whnf)
 | omega
 | rfl
 | (refine congrArg (SV.arr _) ?_)
 | (refine congrArg (Value.int _) ?_)
 | (refine congrArg Value.bool ?_))
       all_goals first | exact hy.symm | rfl
     · have hn := hn hc
       repeat' (first
 | refine W.seq ?_
 | refine W.block ?_
 | (refine W.resub (x := Code.region 18 _ _) (Γ' := ⟨[(0, .padr 1000000000 0), (3, .st false (.sadr (.arr JT l))), (6, .lit (.int .i64 ((N.length : Int)))), (11, .fn 51 []), (12, .lit (.int .i64 ((pkI l i)))), (78, .st false (.arr JT l)), (79, .lit (.int .i64 ((l.length : Int)))), (80, .lit (.int .i64 (i))), (13, .lit (.int .i64 (i))), (14, .st true (.sadr (.agg [I64 (l.getD i J0).1, I64 (l.getD i J0).2.1, I64 (l.getD i J0).2.2.1, I64 (l.getD i J0).2.2.2.1])))], [(1000000000, .box [.lit (.int .i64 P), .st true (.arr JT l0), .st true (.arr OT os), .own 5]), (5, .row 101 NT true (N ++ [N0]))]⟩) ?_ (W.drawPh (id := 18) tys_ok [] mixed [0, 0, 3, 4, 12, 16, 48, 80, 128, 128, 896, 128, 128, 128, 12416, 16512, 35968, 66688, 131216, 262160] [([0, 1], 1, 7), ([3, 4, 5, 6, 7, 8, 9, 11, 12, 13, 14, 15], 1, 65535), ([], 1, 131071), ([17, 18, 19], 0, 1048575)] (by decide +kernel) ?_); rotate_left; (conv => whnf))
 | (refine W.region tys_ok [] ?_; conv => whnf)
 | (refine W.drawAll tys_ok [] mixed rfl ?_; conv => whnf)
 | (refine W.ret ?_; conv => whnf)
 | (refine W.skip ?_; conv => whnf)
 | (refine W.exit ?_; conv => whnf)
 | (refine call_at (al := false) (c1) rfl rfl rfl rfl ?_; conv => whnf)
 | (refine call_at (al := false) (c2) rfl rfl rfl rfl ?_; conv => whnf)
 | (refine Both.mk ?_ ?_ <;> (conv => whnf))
 | (refine W.cond rfl (fun hb => ?_) (fun hb => ?_) <;> (try simp only [zr, zd, zm, minL, maxL, pickB, zA] at hb) <;> (try (first | (cases hb; done) | exact absurd hb (by decide) | (exfalso; omega) | (omega))))
 | ((with_reducible refine And.intro ?_ ?_); exact zc; conv => whnf)
 | ((with_reducible refine And.intro (Side.out ?_) ?_); rotate_left; (conv => whnf))
 | ((first | refine retM1 ?_ | refine retM2 ?_ | refine subF.leaf ?_ | refine subF.side ?_) <;> (conv => whnf) <;> repeat' (first
 | exact trivial
 | (with_reducible rfl)
 | ((with_reducible refine And.intro ?_ ?_) <;> conv => whnf)
 | omega
 | rfl
 | (refine congrArg (SV.arr _) ?_)
 | (refine congrArg (Value.int _) ?_)
 | (refine congrArg Value.bool ?_)))); all_goals (try unfold Side)
       all_goals try (repeat' (first | exact zb | with_reducible refine And.intro ?_ ?_))
       all_goals try (refine ⟨i + 1, ⟨by omega, by omega⟩, ?_⟩)
       all_goals refine subF.ok ?_ <;> (conv => whnf) <;> repeat' (first
 | exact trivial
 | (with_reducible rfl)
 | ((with_reducible refine And.intro ?_ ?_) <;> conv => whnf)
 | omega
 | rfl
 | (refine congrArg (SV.arr _) ?_)
 | (refine congrArg (Value.int _) ?_)
 | (refine congrArg Value.bool ?_))
       all_goals first | exact hn.symm | rfl
   · have hie : l.length = i := by omega
     subst hie
     rw [hpk]
     have hfr : 0 < (l.getD j J0).2.1 - (l.getD j J0).2.2.1 - (l.getD j J0).1 := hfree
     have hrj := hbd.rg j hj
     unfold jf jt jl jp at hrj
     have c3 := free_at (f := (l.getD j J0).1) (t := (l.getD j J0).2.1) (n := (l.getD j J0).2.2.1) (p := (l.getD j J0).2.2.2.1) hrj.1 hrj.2.1 hrj.2.2.1
     have hmid : ((l.getD j J0).1 + Int.tdiv ((l.getD j J0).2.1 - (l.getD j J0).2.2.1 - (l.getD j J0).1 - 1) 2) = midT l j := by
      rw [Int.tdiv_eq_ediv_of_nonneg (by omega)]; rfl
     have hmr := mid_rg hfree
     unfold jf jt jl at hmr
     have hpt : FnAt Try.prog false 52 [.arr JT l, I64 (j : Int), I64 ((l.getD j J0).1 + Int.tdiv ((l.getD j J0).2.1 - (l.getD j J0).2.2.1 - (l.getD j J0).1 - 1) 2)] (.tup [.own 0, .own 1]) [(0, .row 30 JT true L), (1, .row 30 JT true R)] := by
      have h := parted_at hbd (j := (j : Int)) (a := ((l.getD j J0).1 + Int.tdiv ((l.getD j J0).2.1 - (l.getD j J0).2.2.1 - (l.getD j J0).1 - 1) 2)) (by omega) (by rw [hmid]; omega)
      rw [hmid, Int.toNat_natCast] at h
      rw [hmid, hL, hR]
      exact h
     repeat' (first
 | refine W.seq ?_
 | refine W.block ?_
 | (refine W.drawPh (id := 23) tys_ok [] mixed [0, 0, 3, 4, 8, 0, 0, 0, 192, 256, 544, 1024, 2048, 4112, 16383] [([0, 1, 2, 3, 4, 5, 6, 7, 8, 9], 1, 2047), ([11, 12, 13, 14], 0, 32767)] (by decide +kernel) ?_; conv => whnf)
 | (refine W.resub (x := Code.region 25 _ _) (Γ' := ⟨[(0, .padr 1000000000 0), (6, .lit (.int .i64 ((N.length : Int)))), (12, .lit (.int .i64 ((j : Int)))), (15, .lit (.int .i64 ((midT l j)))), (16, .st true (.arr JT L)), (17, .st true (.arr JT R))], [(1000000000, .box [.lit (.int .i64 P), .st true (.arr JT l0), .st true (.arr OT os), .own 5]), (5, .row 101 NT true (N ++ [N0]))]⟩) ?_ (W.regionM tys_ok [] [2] ?_); rotate_left; (conv => whnf))
 | (refine W.resub (x := Code.region 28 _ _) (Γ' := ⟨[(0, .padr 1000000000 0), (6, .lit (.int .i64 ((N.length : Int)))), (12, .lit (.int .i64 ((j : Int)))), (15, .lit (.int .i64 ((midT l j)))), (17, .st true (.arr JT R)), (18, .lit (.int .i64 (((N.length : Int) + 1))))], [(1000000000, .box [.lit (.int .i64 P), .st true (.arr JT l0), .st true (.arr OT os), .own 5]), (5, .row 101 NT true N2)]⟩) ?_ (W.regionM tys_ok [] [2] ?_); rotate_left; (conv => whnf))
 | (refine W.region tys_ok [] ?_; conv => whnf)
 | (refine W.drawAll tys_ok [] mixed rfl ?_; conv => whnf)
 | (refine W.ret ?_; conv => whnf)
 | (refine W.skip ?_; conv => whnf)
 | (refine W.exit ?_; conv => whnf)
 | (refine call_at (al := false) (c3) rfl rfl rfl rfl ?_; conv => whnf)
 | (refine call_at (al := false) (hpt) rfl rfl rfl rfl ?_; conv => whnf)
 | (refine callM_at (cL) ?_; clear cL; conv => whnf)
 | (refine callM_at (cR) ?_; conv => whnf)
 | (refine Both.mk ?_ ?_ <;> (conv => whnf))
 | (refine W.cond rfl (fun hb => ?_) (fun hb => ?_) <;> (try simp only [zr, zd, zm, minL, maxL, pickB, zA] at hb) <;> (try (first | (cases hb; done) | exact absurd hb (by decide) | (exfalso; omega))))
 | (refine Or.inl (And.intro trivial ?_); (conv => whnf))
 | ((with_reducible refine And.intro ?_ ?_); exact zc; conv => whnf)
 | ((with_reducible refine And.intro (Side.out ?_) ?_); rotate_left; (conv => whnf))
 | ((first | refine retM1 ?_ | refine retM2 ?_ | refine subF.leaf ?_ | refine subF.side ?_) <;> (conv => whnf) <;> repeat' (first
 | exact trivial
 | (with_reducible rfl)
 | ((with_reducible refine And.intro ?_ ?_) <;> conv => whnf)
 | omega
 | rfl
 | (refine congrArg (SV.arr _) ?_)
 | (refine congrArg (Value.int _) ?_)
 | (refine congrArg Value.bool ?_)))); all_goals (try unfold Side)
     all_goals try (repeat' (first | exact zb | with_reducible refine And.intro ?_ ?_))
     all_goals try exact hmid
     all_goals refine subF.ok ?_ <;> (conv => whnf) <;> repeat' (first
 | exact trivial
 | (with_reducible rfl)
 | ((with_reducible refine And.intro ?_ ?_) <;> conv => whnf)
 | omega
 | rfl
 | (refine congrArg (SV.arr _) ?_)
 | (refine congrArg (Value.int _) ?_)
 | (refine congrArg Value.bool ?_))
     all_goals exact hmid
set_option maxHeartbeats 8000000 in
theorem growG_at {P : Int} {l0 : List Jb} {os : List Od} (hP : 0 ≤ P ∧ P ≤ 100) {l : List Jb} {N : List Nd} (hbd : Bd l) (ho : Ords os l.length) (h1l : 1 ≤ l.length) (hN : N.length ≤ 20000) (hlong : ¬ 20000 ≤ N.length) (hi : lateI os l = none) (hf : overF P l = none) {j : Nat} (hj : j < l.length) (hfree : 0 < frT l j) (hpk : pkI l l.length = (j : Int)) {L R : List Jb} (hL : L = partL l j (midT l j)) (hR : R = partR l j (midT l j)) {N2 N3 : List Nd} (hN2 : N2.length ≤ 20000) (hN3 : N3.length ≤ 20000) (hN3l : N.length < N3.length)
  (cL : FnM Try.prog 26 [.padr 1000000000 0, .st false (.arr JT L)] [(1000000000, .box [.lit (.int .i64 P), .st true (.arr JT l0), .st true (.arr OT os), .own 5]), (5, .row 101 NT true (N ++ [N0]))] (.tup [.lit (.int .i64 ((N.length : Int) + 1)), .lit (.bool true)]) [(1000000000, .box [.lit (.int .i64 P), .st true (.arr JT l0), .st true (.arr OT os), .own 5]), (5, .row 101 NT true N2)])
  (cR : FnM Try.prog 26 [.padr 1000000000 0, .st false (.arr JT R)] [(1000000000, .box [.lit (.int .i64 P), .st true (.arr JT l0), .st true (.arr OT os), .own 5]), (5, .row 101 NT true N2)] (.tup [.lit (.int .i64 (N2.length : Int)), .lit (.bool true)]) [(1000000000, .box [.lit (.int .i64 P), .st true (.arr JT l0), .st true (.arr OT os), .own 5]), (5, .row 101 NT true N3)]) :
  FnM Try.prog 26 [.padr 1000000000 0, .st false (.arr JT l)] [(1000000000, .box [.lit (.int .i64 P), .st true (.arr JT l0), .st true (.arr OT os), .own 5]), (5, .row 101 NT true N)] (.tup [.lit (.int .i64 (N.length : Int)), .lit (.bool true)]) [(1000000000, .box [.lit (.int .i64 P), .st true (.arr JT l0), .st true (.arr OT os), .own 5]), (5, .row 101 NT true (N3.set N.length (1, (j : Int), midT l j, 0, (N.length : Int) + 1, (N2.length : Int), ())))] := by
 have hll : @List.length JT.T l = l.length := rfl
 have hlN : @List.length NT.T N = N.length := rfl
 have hll2 := hbd.len
 have hl3 : @List.length NT.T N3 = N3.length := rfl
 have hix := indexB_at hbd ho
 have hixn : ixT os l = -1 := by unfold ixT; rw [hi]
 rw [hixn] at hix
 have hov := overfull_at hP hbd
 have e1 : ovA P l = 0 := by unfold ovA; rw [hf]
 have e2 : ovE P l = 0 := by unfold ovE; rw [hf]
 have e3 : ovB P l = false := by unfold ovB; rw [hf]
 rw [e1, e2, e3] at hov
 refine FnM.of_body tys_ok Try.func26 (by rfl) rfl Try.ntmps26 (by rw [Try.results26]) (by simp) ?_
 repeat' (first
 | refine W.seq ?_
 | refine W.block ?_
 | (refine W.resub (x := Code.region 9 _ _) (Γ' := ⟨[(0, .padr 1000000000 0), (3, .st false (.sadr (.arr JT l))), (6, .lit (.int .i64 ((N.length : Int))))], [(1000000000, .box [.lit (.int .i64 P), .st true (.arr JT l0), .st true (.arr OT os), .own 5]), (5, .row 101 NT true (N ++ [N0]))]⟩) ?_ (W.drawPh (id := 9) tys_ok [] mixed [0, 1, 2, 4, 8, 0, 48, 64, 128, 128, 128, 511, 3071, 8191] [([0, 1, 2, 3, 5], 1, 63), ([], 1, 127), ([7, 8, 9, 10, 11, 12, 13], 0, 16383)] (by decide +kernel) ?_); rotate_left; (conv => whnf))
 | (refine W.region tys_ok [] ?_; conv => whnf)
 | (refine W.drawAll tys_ok [] mixed rfl ?_; conv => whnf)
 | (refine W.ret ?_; conv => whnf)
 | (refine W.skip ?_; conv => whnf)
 | (refine W.exit ?_; conv => whnf)
 | (refine call_at (al := false) (hix) rfl rfl rfl rfl ?_; conv => whnf)
 | (refine call_at (al := false) (hov) rfl rfl rfl rfl ?_; conv => whnf)
 | (refine Both.mk ?_ ?_ <;> (conv => whnf))
 | (refine W.cond rfl (fun hb => ?_) (fun hb => ?_) <;> (try simp only [zr, zd, zm, minL, maxL, pickB, zA] at hb) <;> (try (first | (cases hb; done) | exact absurd hb (by decide) | (exfalso; omega) | (omega))))
 | ((with_reducible refine And.intro ?_ ?_); exact zc; conv => whnf)
 | ((with_reducible refine And.intro (Side.out ?_) ?_); rotate_left; (conv => whnf))
 | ((first | refine retM1 ?_ | refine retM2 ?_ | refine subF.leaf ?_ | refine subF.side ?_) <;> (conv => whnf) <;> repeat' (first
 | exact trivial
 | (with_reducible rfl)
 | ((with_reducible refine And.intro ?_ ?_) <;> conv => whnf)
 | omega
 | rfl
 | (refine congrArg (SV.arr _) ?_)
 | (refine congrArg (Value.int _) ?_)
 | (refine congrArg Value.bool ?_)))); all_goals (try unfold Side)
 all_goals try (repeat' (first | exact zb | with_reducible refine And.intro ?_ ?_))
 all_goals try refine subF.ok ?_ <;> (conv => whnf) <;> repeat' (first
 | exact trivial
 | (with_reducible rfl)
 | ((with_reducible refine And.intro ?_ ?_) <;> conv => whnf)
 | omega
 | rfl
 | (refine congrArg (SV.arr _) ?_)
 | (refine congrArg (Value.int _) ?_)
 | (refine congrArg Value.bool ?_))
 refine W.loop (fun i : Nat => ⟨[(0, .padr 1000000000 0), (3, .st false (.sadr (.arr JT l))), (6, .lit (.int .i64 ((N.length : Int)))), (11, .fn 51 []), (12, .lit (.int .i64 ((pkI l i)))), (78, .st false (.arr JT l)), (79, .lit (.int .i64 ((l.length : Int)))), (80, .lit (.int .i64 (i)))], [(1000000000, .box [.lit (.int .i64 P), .st true (.arr JT l0), .st true (.arr OT os), .own 5]), (5, .row 101 NT true (N ++ [N0]))]⟩) (fun i => i ≤ l.length) (fun i => l.length - i) (0) ?_ ?_
 · refine ⟨Nat.zero_le _, ?_⟩
   refine subF.ok ?_ <;> (conv => whnf) <;> repeat' (first
 | exact trivial
 | (with_reducible rfl)
 | ((with_reducible refine And.intro ?_ ?_) <;> conv => whnf)
 | omega
 | rfl
 | (refine congrArg (SV.arr _) ?_)
 | (refine congrArg (Value.int _) ?_)
 | (refine congrArg Value.bool ?_))
   all_goals exact pk_zero.symm
 · intro i hi2
   have hpr := pk_rg (l := l) (k := i)
   by_cases hil : i < l.length
   · have hri := hbd.rg i hil
     have hrj := hbd.rg (pkI l i).toNat (by omega)
     have c1 := free_at (f := (l.getD i J0).1) (t := (l.getD i J0).2.1) (n := (l.getD i J0).2.2.1) (p := (l.getD i J0).2.2.2.1) hri.1 hri.2.1 hri.2.2.1
     have c2 := free_at (f := (l.getD (pkI l i).toNat J0).1) (t := (l.getD (pkI l i).toNat J0).2.1) (n := (l.getD (pkI l i).toNat J0).2.2.1) (p := (l.getD (pkI l i).toNat J0).2.2.2.1) hrj.1 hrj.2.1 hrj.2.2.1
     have hy := pk_yes (l := l) (k := i)
     have hn := pk_no (l := l) (k := i)
     have hC : pkC l i ↔ 0 < (l.getD i J0).2.1 - (l.getD i J0).2.2.1 - (l.getD i J0).1 ∧ (pkI l i < 0 ∨ (l.getD i J0).2.1 - (l.getD i J0).2.2.1 - (l.getD i J0).1 < (l.getD (pkI l i).toNat J0).2.1 - (l.getD (pkI l i).toNat J0).2.2.1 - (l.getD (pkI l i).toNat J0).1) := Iff.rfl
     unfold jf jt jl jp at hri hrj
     rw [hC] at hy hn
     by_cases hc : 0 < (l.getD i J0).2.1 - (l.getD i J0).2.2.1 - (l.getD i J0).1 ∧ (pkI l i < 0 ∨ (l.getD i J0).2.1 - (l.getD i J0).2.2.1 - (l.getD i J0).1 < (l.getD (pkI l i).toNat J0).2.1 - (l.getD (pkI l i).toNat J0).2.2.1 - (l.getD (pkI l i).toNat J0).1)
     · have hy := hy hc
       repeat' (first
 | refine W.seq ?_
 | refine W.block ?_
 | (refine W.resub (x := Code.region 18 _ _) (Γ' := ⟨[(0, .padr 1000000000 0), (3, .st false (.sadr (.arr JT l))), (6, .lit (.int .i64 ((N.length : Int)))), (11, .fn 51 []), (12, .lit (.int .i64 ((pkI l i)))), (78, .st false (.arr JT l)), (79, .lit (.int .i64 ((l.length : Int)))), (80, .lit (.int .i64 (i))), (13, .lit (.int .i64 (i))), (14, .st true (.sadr (.agg [I64 (l.getD i J0).1, I64 (l.getD i J0).2.1, I64 (l.getD i J0).2.2.1, I64 (l.getD i J0).2.2.2.1])))], [(1000000000, .box [.lit (.int .i64 P), .st true (.arr JT l0), .st true (.arr OT os), .own 5]), (5, .row 101 NT true (N ++ [N0]))]⟩) ?_ (W.drawPh (id := 18) tys_ok [] mixed [0, 0, 3, 4, 12, 16, 48, 80, 128, 128, 896, 128, 128, 128, 12416, 16512, 35968, 66688, 131216, 262160] [([0, 1], 1, 7), ([3, 4, 5, 6, 7, 8, 9, 11, 12, 13, 14, 15], 1, 65535), ([], 1, 131071), ([17, 18, 19], 0, 1048575)] (by decide +kernel) ?_); rotate_left; (conv => whnf))
 | (refine W.region tys_ok [] ?_; conv => whnf)
 | (refine W.drawAll tys_ok [] mixed rfl ?_; conv => whnf)
 | (refine W.ret ?_; conv => whnf)
 | (refine W.skip ?_; conv => whnf)
 | (refine W.exit ?_; conv => whnf)
 | (refine call_at (al := false) (c1) rfl rfl rfl rfl ?_; conv => whnf)
 | (refine call_at (al := false) (c2) rfl rfl rfl rfl ?_; conv => whnf)
 | (refine Both.mk ?_ ?_ <;> (conv => whnf))
 | (refine W.cond rfl (fun hb => ?_) (fun hb => ?_) <;> (try simp only [zr, zd, zm, minL, maxL, pickB, zA] at hb) <;> (try (first | (cases hb; done) | exact absurd hb (by decide) | (exfalso; omega) | (omega))))
 | ((with_reducible refine And.intro ?_ ?_); exact zc; conv => whnf)
 | ((with_reducible refine And.intro (Side.out ?_) ?_); rotate_left; (conv => whnf))
 | ((first | refine retM1 ?_ | refine retM2 ?_ | refine subF.leaf ?_ | refine subF.side ?_) <;> (conv => whnf) <;> repeat' (first
 | exact trivial
 | (with_reducible rfl)
 | ((with_reducible refine And.intro ?_ ?_) <;> conv => whnf)
 | omega
 | rfl
 | (refine congrArg (SV.arr _) ?_)
 | (refine congrArg (Value.int _) ?_)
 | (refine congrArg Value.bool ?_)))); all_goals (try unfold Side)
       all_goals try (repeat' (first | exact zb | with_reducible refine And.intro ?_ ?_))
       all_goals try (refine ⟨i + 1, ⟨by omega, by omega⟩, ?_⟩)
       all_goals refine subF.ok ?_ <;> (conv => whnf) <;> repeat' (first
 | exact trivial
 | (with_reducible rfl)
 | ((with_reducible refine And.intro ?_ ?_) <;> conv => whnf)
 | omega
 | rfl
 | (refine congrArg (SV.arr _) ?_)
 | (refine congrArg (Value.int _) ?_)
 | (refine congrArg Value.bool ?_))
       all_goals first | exact hy.symm | rfl
     · have hn := hn hc
       repeat' (first
 | refine W.seq ?_
 | refine W.block ?_
 | (refine W.resub (x := Code.region 18 _ _) (Γ' := ⟨[(0, .padr 1000000000 0), (3, .st false (.sadr (.arr JT l))), (6, .lit (.int .i64 ((N.length : Int)))), (11, .fn 51 []), (12, .lit (.int .i64 ((pkI l i)))), (78, .st false (.arr JT l)), (79, .lit (.int .i64 ((l.length : Int)))), (80, .lit (.int .i64 (i))), (13, .lit (.int .i64 (i))), (14, .st true (.sadr (.agg [I64 (l.getD i J0).1, I64 (l.getD i J0).2.1, I64 (l.getD i J0).2.2.1, I64 (l.getD i J0).2.2.2.1])))], [(1000000000, .box [.lit (.int .i64 P), .st true (.arr JT l0), .st true (.arr OT os), .own 5]), (5, .row 101 NT true (N ++ [N0]))]⟩) ?_ (W.drawPh (id := 18) tys_ok [] mixed [0, 0, 3, 4, 12, 16, 48, 80, 128, 128, 896, 128, 128, 128, 12416, 16512, 35968, 66688, 131216, 262160] [([0, 1], 1, 7), ([3, 4, 5, 6, 7, 8, 9, 11, 12, 13, 14, 15], 1, 65535), ([], 1, 131071), ([17, 18, 19], 0, 1048575)] (by decide +kernel) ?_); rotate_left; (conv => whnf))
 | (refine W.region tys_ok [] ?_; conv => whnf)
 | (refine W.drawAll tys_ok [] mixed rfl ?_; conv => whnf)
 | (refine W.ret ?_; conv => whnf)
 | (refine W.skip ?_; conv => whnf)
 | (refine W.exit ?_; conv => whnf)
 | (refine call_at (al := false) (c1) rfl rfl rfl rfl ?_; conv => whnf)
 | (refine call_at (al := false) (c2) rfl rfl rfl rfl ?_; conv => whnf)
 | (refine Both.mk ?_ ?_ <;> (conv => whnf))
 | (refine W.cond rfl (fun hb => ?_) (fun hb => ?_) <;> (try simp only [zr, zd, zm, minL, maxL, pickB, zA] at hb) <;> (try (first | (cases hb; done) | exact absurd hb (by decide) | (exfalso; omega) | (omega))))
 | ((with_reducible refine And.intro ?_ ?_); exact zc; conv => whnf)
 | ((with_reducible refine And.intro (Side.out ?_) ?_); rotate_left; (conv => whnf))
 | ((first | refine retM1 ?_ | refine retM2 ?_ | refine subF.leaf ?_ | refine subF.side ?_) <;> (conv => whnf) <;> repeat' (first
 | exact trivial
 | (with_reducible rfl)
 | ((with_reducible refine And.intro ?_ ?_) <;> conv => whnf)
 | omega
 | rfl
 | (refine congrArg (SV.arr _) ?_)
 | (refine congrArg (Value.int _) ?_)
 | (refine congrArg Value.bool ?_)))); all_goals (try unfold Side)
       all_goals try (repeat' (first | exact zb | with_reducible refine And.intro ?_ ?_))
       all_goals try (refine ⟨i + 1, ⟨by omega, by omega⟩, ?_⟩)
       all_goals refine subF.ok ?_ <;> (conv => whnf) <;> repeat' (first
 | exact trivial
 | (with_reducible rfl)
 | ((with_reducible refine And.intro ?_ ?_) <;> conv => whnf)
 | omega
 | rfl
 | (refine congrArg (SV.arr _) ?_)
 | (refine congrArg (Value.int _) ?_)
 | (refine congrArg Value.bool ?_))
       all_goals first | exact hn.symm | rfl
   · have hie : l.length = i := by omega
     subst hie
     rw [hpk]
     have hfr : 0 < (l.getD j J0).2.1 - (l.getD j J0).2.2.1 - (l.getD j J0).1 := hfree
     have hrj := hbd.rg j hj
     unfold jf jt jl jp at hrj
     have c3 := free_at (f := (l.getD j J0).1) (t := (l.getD j J0).2.1) (n := (l.getD j J0).2.2.1) (p := (l.getD j J0).2.2.2.1) hrj.1 hrj.2.1 hrj.2.2.1
     have hmid : ((l.getD j J0).1 + Int.tdiv ((l.getD j J0).2.1 - (l.getD j J0).2.2.1 - (l.getD j J0).1 - 1) 2) = midT l j := by
      rw [Int.tdiv_eq_ediv_of_nonneg (by omega)]; rfl
     have hmr := mid_rg hfree
     unfold jf jt jl at hmr
     have hpt : FnAt Try.prog false 52 [.arr JT l, I64 (j : Int), I64 ((l.getD j J0).1 + Int.tdiv ((l.getD j J0).2.1 - (l.getD j J0).2.2.1 - (l.getD j J0).1 - 1) 2)] (.tup [.own 0, .own 1]) [(0, .row 30 JT true L), (1, .row 30 JT true R)] := by
      have h := parted_at hbd (j := (j : Int)) (a := ((l.getD j J0).1 + Int.tdiv ((l.getD j J0).2.1 - (l.getD j J0).2.2.1 - (l.getD j J0).1 - 1) 2)) (by omega) (by rw [hmid]; omega)
      rw [hmid, Int.toNat_natCast] at h
      rw [hmid, hL, hR]
      exact h
     repeat' (first
 | refine W.seq ?_
 | refine W.block ?_
 | (refine W.drawPh (id := 23) tys_ok [] mixed [0, 0, 3, 4, 8, 0, 0, 0, 192, 256, 544, 1024, 2048, 4112, 16383] [([0, 1, 2, 3, 4, 5, 6, 7, 8, 9], 1, 2047), ([11, 12, 13, 14], 0, 32767)] (by decide +kernel) ?_; conv => whnf)
 | (refine W.resub (x := Code.region 25 _ _) (Γ' := ⟨[(0, .padr 1000000000 0), (6, .lit (.int .i64 ((N.length : Int)))), (12, .lit (.int .i64 ((j : Int)))), (15, .lit (.int .i64 ((midT l j)))), (16, .st true (.arr JT L)), (17, .st true (.arr JT R))], [(1000000000, .box [.lit (.int .i64 P), .st true (.arr JT l0), .st true (.arr OT os), .own 5]), (5, .row 101 NT true (N ++ [N0]))]⟩) ?_ (W.regionM tys_ok [] [2] ?_); rotate_left; (conv => whnf))
 | (refine W.resub (x := Code.region 28 _ _) (Γ' := ⟨[(0, .padr 1000000000 0), (6, .lit (.int .i64 ((N.length : Int)))), (12, .lit (.int .i64 ((j : Int)))), (15, .lit (.int .i64 ((midT l j)))), (17, .st true (.arr JT R)), (18, .lit (.int .i64 (((N.length : Int) + 1))))], [(1000000000, .box [.lit (.int .i64 P), .st true (.arr JT l0), .st true (.arr OT os), .own 5]), (5, .row 101 NT true N2)]⟩) ?_ (W.regionM tys_ok [] [2] ?_); rotate_left; (conv => whnf))
 | (refine W.region tys_ok [] ?_; conv => whnf)
 | (refine W.drawAll tys_ok [] mixed rfl ?_; conv => whnf)
 | (refine W.ret ?_; conv => whnf)
 | (refine W.skip ?_; conv => whnf)
 | (refine W.exit ?_; conv => whnf)
 | (refine call_at (al := false) (c3) rfl rfl rfl rfl ?_; conv => whnf)
 | (refine call_at (al := false) (hpt) rfl rfl rfl rfl ?_; conv => whnf)
 | (refine callM_at (cL) ?_; clear cL; conv => whnf)
 | (refine callM_at (cR) ?_; conv => whnf)
 | (refine Both.mk ?_ ?_ <;> (conv => whnf))
 | (refine W.cond rfl (fun hb => ?_) (fun hb => ?_) <;> (try simp only [zr, zd, zm, minL, maxL, pickB, zA] at hb) <;> (try (first | (cases hb; done) | exact absurd hb (by decide) | (exfalso; omega))))
 | (refine Or.inl (And.intro trivial ?_); (conv => whnf))
 | ((with_reducible refine And.intro ?_ ?_); exact zc; conv => whnf)
 | ((with_reducible refine And.intro (Side.out ?_) ?_); rotate_left; (conv => whnf))
 | ((first | refine retM1 ?_ | refine retM2 ?_ | refine subF.leaf ?_ | refine subF.side ?_) <;> (conv => whnf) <;> repeat' (first
 | exact trivial
 | (with_reducible rfl)
 | ((with_reducible refine And.intro ?_ ?_) <;> conv => whnf)
 | omega
 | rfl
 | (refine congrArg (SV.arr _) ?_)
 | (refine congrArg (Value.int _) ?_)
 | (refine congrArg Value.bool ?_)))); all_goals (try unfold Side)
     all_goals try (repeat' (first | exact zb | with_reducible refine And.intro ?_ ?_))
     all_goals try exact hmid
     all_goals refine subF.ok ?_ <;> (conv => whnf) <;> repeat' (first
 | exact trivial
 | (with_reducible rfl)
 | ((with_reducible refine And.intro ?_ ?_) <;> conv => whnf)
 | omega
 | rfl
 | (refine congrArg (SV.arr _) ?_)
 | (refine congrArg (Value.int _) ?_)
 | (refine congrArg Value.bool ?_))
     all_goals exact hmid
open Go Go.Vc Go.Sh
theorem refGrow_at {P : Int} {l0 : List Jb} {os : List Od} (hP : 0 ≤ P ∧ P ≤ 100) : ∀ {k : Nat} {l : List Jb} {N : List Nd}, Pre l os 0 → waysT l ≤ k → Bd l → Ords os l.length → 1 ≤ l.length → N.length ≤ 20000 →
  FnM Try.prog 26 [.padr 1000000000 0, .st false (.arr JT l)] [(1000000000, .box [.lit (.int .i64 P), .st true (.arr JT l0), .st true (.arr OT os), .own 5]), (5, .row 101 NT true N)] (.tup [.lit (.int .i64 (if (growR P os k l N).1 = true then (N.length : Int) else 0)), .lit (.bool (growR P os k l N).1)]) [(1000000000, .box [.lit (.int .i64 P), .st true (.arr JT l0), .st true (.arr OT os), .own 5]), (5, .row 101 NT true (growR P os k l N).2)]
 | 0, l, N, hp, hk, _, _, _, _ => by have := ways_pos hp; omega
 | k + 1, l, N, hp, hk, hbd, ho, h1, hN => by
  by_cases hlong : 20000 ≤ N.length
  · rw [gr_long hlong]
    exact growA_at hP hbd ho h1 hN hlong
  · cases hi : lateI os l with
    | some i =>
     rw [gr_late hlong hi]
     exact growB_at hP hbd ho h1 hN hlong (by unfold ixT; rw [hi])
    | none =>
     cases hf : overF P l with
     | some ab =>
      obtain ⟨a, b⟩ := ab
      rw [gr_over hlong hi hf]
      exact growC_at hP hbd ho h1 hN hlong hi hf
     | none =>
      cases hj : pickK l l.length with
      | none =>
       rw [gr_none hlong hi hf hj]
       exact growD_at hP hbd ho h1 hN hlong hi hf (by unfold pkI; rw [hj])
      | some j =>
       obtain ⟨hjl, hfr⟩ := pickK_some hj
       have hpk : pkI l l.length = (j : Int) := by unfold pkI; rw [hj]
       have hw := ways_part hjl hfr
       have pL := part_L hp hjl hfr
       have pR := part_R hp hjl hfr
       have wL := ways_pos pL
       have wR := ways_pos pR
       have hmid := mid_rg hfr
       obtain ⟨bL, bR, lL, lR⟩ := part_bd hbd hjl hmid
       have hN1 : (N ++ [N0]).length ≤ 20000 := by simp; omega
       have hlen1 := growR_len (P := P) (os := os) (k := k) (l := partL l j (midT l j)) hN1
       have cL := refGrow_at (l0 := l0) hP (k := k) (l := partL l j (midT l j)) (N := N ++ [N0]) pL (by omega) bL (by rw [lL]; exact ho) (by rw [lL]; exact h1) hN1
       have cR := refGrow_at (l0 := l0) hP (k := k) (l := partR l j (midT l j)) (N := (growR P os k (partL l j (midT l j)) (N ++ [N0])).2) pR (by omega) bR (by rw [lR]; exact ho) (by rw [lR]; exact h1) hlen1.2
       have hlen2 := growR_len (P := P) (os := os) (k := k) (l := partR l j (midT l j)) hlen1.2
       rw [gr_pick hlong hi hf hj]
       obtain ⟨r1, hr1⟩ : ∃ r1, r1 = growR P os k (partL l j (midT l j)) (N ++ [N0]) := ⟨_, rfl⟩
       rw [← hr1] at cL cR hlen1 hlen2 ⊢
       obtain ⟨b1, N2⟩ := r1
       obtain ⟨r2, hr2⟩ : ∃ r2, r2 = growR P os k (partR l j (midT l j)) (b1, N2).2 := ⟨_, rfl⟩
       rw [← hr2] at cR hlen2 ⊢
       obtain ⟨b2, N3⟩ := r2
       dsimp only at cL cR hlen1 hlen2 ⊢
       simp only [List.length_append, List.length_cons, List.length_nil] at hlen1
       cases b1 with
       | false => exact growE_at (N3 := N3) hP hbd ho h1 hN hlong hi hf hjl hfr hpk rfl rfl cL
       | true =>
        have e1 : (((N ++ [N0]).length : Nat) : Int) = (N.length : Int) + 1 := by simp
        rw [if_pos rfl, e1] at cL
        cases b2 with
        | false => exact growF_at hP hbd ho h1 hN hlong hi hf hjl hfr hpk rfl rfl hlen1.2 cL cR
        | true =>
         rw [if_pos rfl] at cR
         exact growG_at hP hbd ho h1 hN hlong hi hf hjl hfr hpk rfl rfl hlen1.2 hlen2.2 (by omega) cL cR
def refT (P : Int) (l : List Jb) (os : List Od) : Bool × List Nd := growR P os (waysT l) l []
set_option maxHeartbeats 4000000 in
theorem Refuse_full {P : Int} {l : List Jb} {os : List Od} (h : VS P l os) (hf : firstT P l os = []) (hg : (refT P l os).1 = false) : FnAt Try.prog true 10 [.agg [I64 P, .arr JT l, .arr OT os]] (.tup [.st true (.arr NT []), .lit (.int .i64 4)]) [] := by
 have hv := valid_at (P := P) (l := l) (os := os) (by have := h.ln; omega) (by have := h.lo; omega)
 rw [validB_yes h] at hv
 have hr := first_at h
 rw [hf] at hr
 have hc := refGrow_at (P := P) (l0 := l) (os := os) (k := waysT l) (l := l) (N := []) (by have := h.pw; omega) h.pre (Nat.le_refl _) (bd_of h) (ords_of h) h.ln.1 (by simp)
 have hg2 : (growR P os (waysT l) l []).1 = false := hg
 rw [hg2, if_neg (by decide)] at hc
 obtain ⟨M, hM⟩ : ∃ M, M = (growR P os (waysT l) l []).2 := ⟨_, rfl⟩
 rw [← hM] at hc
 refine FnAt.of_body tys_ok Try.func10 (by rfl) rfl Try.ntmps10 (by rw [Try.results10]) (by simp) ?_
 repeat' (first
 | refine W.seq ?_
 | refine W.block ?_
 | (refine W.regionM (id := 6) tys_ok [] [3] ?_; conv => whnf)
 | (refine W.region tys_ok [] ?_; conv => whnf)
 | (refine W.drawAll tys_ok [] mixed rfl ?_; conv => whnf)
 | (refine W.ret ?_; conv => whnf)
 | (refine W.skip ?_; conv => whnf)
 | (refine W.exit ?_; conv => whnf)
 | (refine call_at (al := false) (hv) rfl rfl rfl rfl ?_; conv => whnf)
 | (refine call_at (al := true) (hr) rfl rfl rfl rfl ?_; conv => whnf)
 | (refine callM_at (hc) ?_; conv => whnf)
 | (refine W.cond rfl (fun hb => ?_) (fun hb => ?_) <;> (try simp only [zr, zd, zm, minL, maxL, pickB, zA] at hb) <;> (try (first | (cases hb; done) | exact absurd hb (by decide) | (exfalso; omega))))
 | (refine Or.inl (And.intro trivial ?_); (conv => whnf))
 | ((with_reducible refine And.intro ?_ ?_); exact zc; conv => whnf)
 | ((with_reducible refine And.intro (Side.out ?_) ?_); rotate_left; (conv => whnf))
 | ((first | refine retF1 ?_ | refine retF2 ?_) <;> (conv => whnf) <;> repeat' (first
 | exact trivial
 | (with_reducible rfl)
 | ((with_reducible refine And.intro ?_ ?_) <;> conv => whnf)
 | omega
 | rfl
 | (refine congrArg (SV.arr _) ?_)
 | (refine congrArg (Value.int _) ?_)
 | (refine congrArg Value.bool ?_)))); all_goals (try unfold Side)
 all_goals try (repeat' (first | exact zb | with_reducible refine And.intro ?_ ?_))
set_option maxHeartbeats 4000000 in
theorem Refuse_ok {P : Int} {l : List Jb} {os : List Od} (h : VS P l os) (hf : firstT P l os = []) (hg : (refT P l os).1 = true) : FnAt Try.prog true 10 [.agg [I64 P, .arr JT l, .arr OT os]] (.tup [.own 0, .lit (.int .i64 0)]) [(0, .row 101 NT true (refT P l os).2)] := by
 have hv := valid_at (P := P) (l := l) (os := os) (by have := h.ln; omega) (by have := h.lo; omega)
 rw [validB_yes h] at hv
 have hr := first_at h
 rw [hf] at hr
 have hc := refGrow_at (P := P) (l0 := l) (os := os) (k := waysT l) (l := l) (N := []) (by have := h.pw; omega) h.pre (Nat.le_refl _) (bd_of h) (ords_of h) h.ln.1 (by simp)
 have hg2 : (growR P os (waysT l) l []).1 = true := hg
 rw [hg2, if_pos rfl] at hc
 have hM : (refT P l os).2 = (growR P os (waysT l) l []).2 := rfl
 rw [← hM] at hc
 refine FnAt.of_body tys_ok Try.func10 (by rfl) rfl Try.ntmps10 (by rw [Try.results10]) (by simp) ?_
 repeat' (first
 | refine W.seq ?_
 | refine W.block ?_
 | (refine W.regionM (id := 6) tys_ok [] [3] ?_; conv => whnf)
 | (refine W.region tys_ok [] ?_; conv => whnf)
 | (refine W.drawAll tys_ok [] mixed rfl ?_; conv => whnf)
 | (refine W.ret ?_; conv => whnf)
 | (refine W.skip ?_; conv => whnf)
 | (refine W.exit ?_; conv => whnf)
 | (refine call_at (al := false) (hv) rfl rfl rfl rfl ?_; conv => whnf)
 | (refine call_at (al := true) (hr) rfl rfl rfl rfl ?_; conv => whnf)
 | (refine callM_at (hc) ?_; conv => whnf)
 | (refine W.cond rfl (fun hb => ?_) (fun hb => ?_) <;> (try simp only [zr, zd, zm, minL, maxL, pickB, zA] at hb) <;> (try (first | (cases hb; done) | exact absurd hb (by decide) | (exfalso; omega))))
 | (refine Or.inl (And.intro trivial ?_); (conv => whnf))
 | ((with_reducible refine And.intro ?_ ?_); exact zc; conv => whnf)
 | ((with_reducible refine And.intro (Side.out ?_) ?_); rotate_left; (conv => whnf))
 | ((first | refine retF1 ?_ | refine retF2 ?_) <;> (conv => whnf) <;> repeat' (first
 | exact trivial
 | (with_reducible rfl)
 | ((with_reducible refine And.intro ?_ ?_) <;> conv => whnf)
 | omega
 | rfl
 | (refine congrArg (SV.arr _) ?_)
 | (refine congrArg (Value.int _) ?_)
 | (refine congrArg Value.bool ?_)))); all_goals (try unfold Side)
 all_goals try (repeat' (first | exact zb | with_reducible refine And.intro ?_ ?_))
open Int renaming reduceToNat → zr, reduceTDiv → zd, reduceTMod → zm
open Go Go.Vc Go.Sh Go.Tp
theorem firstS {P : Int} {l : List Jb} {os : List Od} (h : VS P l os) : (firstT P l os = [] ∧ ∀ s, ¬ Fit P l os s) ∨ (firstT P l os ≠ [] ∧ Fit P l os (firstT P l os) ∧ ∀ s, Fit P l os s → lexle (firstT P l os) s) := by
 have h1 := growT_ok (P := P) (os := os) (k := l.length) (l := l) (i := 0) rfl h.pre
 unfold firstT
 cases e : growT P os l.length l 0 with
 | none => rw [e] at h1; exact .inl ⟨rfl, h1⟩
 | some r =>
  rw [e] at h1
  refine .inr ⟨fun hn => ?_, h1⟩
  have h2 := h1.1.len
  have h3 := h.ln
  have hn : r = [] := hn
  rw [hn] at h2
  simp at h2
  omega
theorem shS {P : Int} {l : List Jb} {os : List Od} (h : VS P l os) : (shT P l os = [] ∧ shE P l os = 0 ∧ ∀ s, ¬ Fit P l os s) ∨ (shT P l os ≠ [] ∧ Fit P l os (shT P l os) ∧ endT l (shT P l os) = shE P l os) := by
 have h1 := short_ok (P := P) (os := os) h.pre h.ln.1
 unfold shT shE
 cases e : shortK P l os 24 with
 | none => rw [e] at h1; exact .inl ⟨rfl, rfl, h1⟩
 | some er =>
  rw [e] at h1
  obtain ⟨e, r⟩ := er
  refine .inr ⟨fun hn => ?_, h1.1, h1.2.1⟩
  have h2 := h1.1.len
  have h3 := h.ln
  have hn : r = [] := hn
  rw [hn] at h2
  simp at h2
  omega
variable {l : List Jb} {al : Nat → Nat → Bool}
theorem turn_yes (h : TJ l) (ha : ∀ i j, i < l.length → j < l.length → al i j = alJ l i j) (hw : 0 < Wy al l.length l.length 0) :
  firstT 1 l [] = zN (gl al l.length l.length 0) ∧ firstT 1 l [] ≠ [] ∧ shT 1 l [] ≠ [] ∧ shE 1 l [] = (l.length : Int) ∧ lackT al l.length = none := by
 obtain ⟨h1, h2⟩ := gl_ok hw
 obtain ⟨G, hG⟩ : ∃ G, G = gl al l.length l.length 0 := ⟨_, rfl⟩
 rw [← hG] at h1 h2 ⊢
 have hfit : Fit 1 l [] (zN G) := h.fit.2 ⟨G, rfl, (gl_congr ha G).1 h1⟩
 refine ⟨?_, ?_⟩
 · rcases firstS h.vs with ⟨_, hn⟩ | ⟨_, hf, hmin⟩
   · exact absurd hfit (hn _)
   · obtain ⟨c, hc, hcc⟩ := h.fit.1 hf
     have h3 := hmin _ hfit
     have hc2 := (gl_congr ha c).2 hcc
     have hlen : G.length = c.length := by rw [comp_len h1, comp_len hc2]
     have h4 := lexle_zN hlen (h2 c hc2)
     rw [← hc] at h4
     exact lexle_anti h3 h4 (by rw [hc, zN_len, zN_len, hlen])
 · refine ⟨?_, ?_, ?_, lack_iff.2 hw⟩
   · rcases firstS h.vs with ⟨_, hn⟩ | ⟨hn, _⟩
     · exact absurd hfit (hn _)
     · exact hn
   · rcases shS h.vs with ⟨_, _, hn⟩ | ⟨hn, _⟩
     · exact absurd hfit (hn _)
     · exact hn
   · rcases shS h.vs with ⟨_, _, hn⟩ | ⟨_, hf, he⟩
     · exact absurd hfit (hn _)
     · rw [← he]; exact h.end' hf
theorem turn_no (h : TJ l) (ha : ∀ i j, i < l.length → j < l.length → al i j = alJ l i j) (hw : ¬ 0 < Wy al l.length l.length 0) :
  firstT 1 l [] = [] ∧ ∃ S, lackT al l.length = some S ∧ S ≠ [] := by
 constructor
 · rcases firstS h.vs with ⟨hn, _⟩ | ⟨_, hf, _⟩
   · exact hn
   · obtain ⟨c, hc, hcc⟩ := h.fit.1 hf
     exact absurd (Wy_pos.2 ⟨c, (gl_congr ha c).2 hcc⟩) hw
 · cases e : lackT al l.length with
   | none => exact absurd (lack_iff.1 e) hw
   | some S => exact ⟨S, rfl, (lack_some e).1⟩
theorem ref_proves' {P : Int} {l : List Jb} {os : List Od} (h : (refT P l os).1 = true) : provesB P l os (refT P l os).2 = true := by
 obtain ⟨h1, _, h3⟩ := growR_tr (P := P) (os := os) (k := waysT l) (l := l) (N := []) h
 have h4 : Tr P os (refT P l os).2 0 (refT P l os).2.length l := h3 (refT P l os).2 fun i _ _ => rfl
 have h5 : 0 < (refT P l os).2.length := h1
 have h6 := (h4.pv (Nat.le_refl _) (refT P l os).2.length (List.replicate (refT P l os).2.length false) (by omega) (by simp) (fun i _ _ => by
  rw [List.getD_eq_getElem?_getD, List.getElem?_replicate]; split <;> rfl)).1
 unfold provesB
 rw [decide_eq_true h5, Bool.true_and]
 exact h6
theorem refT_len' {P : Int} {l : List Jb} {os : List Od} : (refT P l os).2.length ≤ 20000 := (growR_len (P := P) (os := os) (k := waysT l) (l := l) (N := []) (by simp)).2
theorem co_of {l : List Jb} (h : TJ l) : CO (matT l.length l) l.length := by
 refine ⟨matT_len, h.n1, h.n6, fun i hi => ?_, fun i j hi hj => ?_⟩
 · rw [matT_get hi, rowT_len]
 · rw [matT_cell hi hj]; unfold rcT; split <;> omega
theorem al_of {l : List Jb} {i j : Nat} (hi : i < l.length) (hj : j < l.length) : alC (matT l.length l) i j = alJ l i j := by
 unfold alC alJ
 rw [matT_cell hi hj]
 unfold rcT
 by_cases e : jf l i ≤ (j : Int) ∧ (j : Int) < jt l i
 · rw [if_pos e, decide_eq_true e]; rfl
 · rw [if_neg e, decide_eq_false e]; rfl
end Go.Proofs.Ytckmhlpngolbpaa
namespace Go.Vc
theorem W.joinTo {P : Program} {n : Nat} {Q : Exit → Sy → Prop} {Γ : Sy} {t : Nat} {u x y z : Code} (Γ' : Sy) (h1 : W P n (.seq u (.cond (.tmp t) x y)) Γ (thenQ (fun Γ1 => Leaf (Sub Γ1 Γ' (mkRen Γ1 Γ'))) Q)) (h2 : W P n z Γ' Q) : W P n (.seq (.seq u (.cond (.tmp t) x y)) z) Γ Q := by
 refine W.seq ⟨fun c g a w hn hst => wp_mono (h1.out c g a w hn hst) fun e a' w' hq => ?_⟩
 obtain ⟨Γ1, g', h3, h4⟩ := hq
 cases e with
 | normal => exact ⟨Γ1, g', (let ⟨h5⟩ := h3; W.sub h5 h2), h4⟩
 | _ => exact ⟨Γ1, g', h3, h4⟩
end Go.Vc
