/- Joined of: H17. No condition. -/
import Derived.Test.YtmfholchenihaaaJ10
import Derived.Test.YtmfholchenihaaaJ8

namespace Go.Proofs.Ytmfholchenihaaa
open Go Go.Vc Go.Sh
set_option linter.unusedVariables false
set_option linter.unusedSimpArgs false
set_option maxHeartbeats 8000000 in
theorem growA_at {P : Int} {l0 : List Jb} {os : List Od} (hP : 0 ≤ P ∧ P ≤ 100) {l : List Jb} {N : List Nd} (hbd : Bd l) (ho : Ords os l.length) (h1l : 1 ≤ l.length) (hN : N.length ≤ 20000) (hlong : 20000 ≤ N.length) :
    FnM Try.prog 41 [.padr 1000000000 0, .st false (.arr JT l)] [(1000000000, .box [.lit (.int .i64 P), .st true (.arr JT l0), .st true (.arr OT os), .own 5]), (5, .row 57 NT true N)] (.tup [.lit (.int .i64 0), .lit (.bool false)]) [(1000000000, .box [.lit (.int .i64 P), .st true (.arr JT l0), .st true (.arr OT os), .own 5]), (5, .row 57 NT true N)] := by
  have hll : @List.length JT.T l = l.length := rfl
  have hlN : @List.length NT.T N = N.length := rfl
  have hll2 := hbd.len
  refine FnM.of_body tys_ok Try.func41 (by rfl) rfl Try.ntmps41 (by rw [Try.results41]) (by simp) ?_
  
  repeat' (first
 | refine W.seq ?_
 | refine W.block ?_
 | (refine W.region tys_ok [] ?_; conv => whnf)
 | (refine W.drawAll tys_ok [] mixed rfl ?_; conv => whnf)
 | (refine W.ret ?_; conv => whnf)
 | (refine W.skip ?_; conv => whnf)
 | (refine W.exit ?_; conv => whnf)
 | (refine W.cond rfl (fun hb => ?_) (fun hb => ?_) <;> (try simp only [Int.reduceToNat, Int.reduceTDiv, Int.reduceTMod, minL, maxL, pickB, zHB, zSH] at hb) <;> (try (first | (cases hb; done) | exact absurd hb (by decide) | (exfalso; omega) | (omega))))
 | ((with_reducible refine And.intro ?_ ?_); (focus (first | (with_reducible rfl) | omega | rfl | ((try simp only [Int.reduceToNat, Int.reduceTDiv, Int.reduceTMod, minL, maxL, pickB, zHB, zSH, InK, Path.imp, zL] at *); omega))); (conv => whnf))
 | ((with_reducible refine And.intro (Side.out ?_) ?_); rotate_left; (conv => whnf))
 | ((first | refine retM1 ?_ | refine retM2 ?_) <;> (conv => whnf) <;> repeat' (first
 | exact trivial
 | (with_reducible rfl)
 | ((with_reducible refine And.intro ?_ ?_) <;> conv => whnf)
 | omega
 | rfl
 | (refine congrArg (SV.arr _) ?_)
 | (refine congrArg (Value.int _) ?_)
 | (refine congrArg Value.bool ?_)))); all_goals (try unfold Side)
  all_goals try (repeat' (first | (with_reducible rfl) | (with_reducible refine And.intro ?_ ?_) | omega | rfl | exact Or.inl rfl | exact Or.inr rfl | exact of_decide_eq_true rfl | exact Path.imp_of (of_decide_eq_true rfl) | (focus ((try simp only [Int.reduceToNat, Int.reduceTDiv, Int.reduceTMod, minL, maxL, pickB, zHB, zSH, InK, Path.imp, zL] at *); omega)) | (refine app_le rfl ?_; omega)))
set_option maxHeartbeats 8000000 in
theorem growB_at {P : Int} {l0 : List Jb} {os : List Od} (hP : 0 ≤ P ∧ P ≤ 100) {l : List Jb} {N : List Nd} (hbd : Bd l) (ho : Ords os l.length) (h1l : 1 ≤ l.length) (hN : N.length ≤ 20000) (hlong : ¬ 20000 ≤ N.length) {i : Nat} (hi : ixT os l = (i : Int)) :
    FnM Try.prog 41 [.padr 1000000000 0, .st false (.arr JT l)] [(1000000000, .box [.lit (.int .i64 P), .st true (.arr JT l0), .st true (.arr OT os), .own 5]), (5, .row 57 NT true N)] (.tup [.lit (.int .i64 (N.length : Int)), .lit (.bool true)]) [(1000000000, .box [.lit (.int .i64 P), .st true (.arr JT l0), .st true (.arr OT os), .own 5]), (5, .row 57 NT true ((N ++ [N0]).set N.length (3, (i : Int), 0, 0, 0, 0, ())))] := by
  have hll : @List.length JT.T l = l.length := rfl
  have hlN : @List.length NT.T N = N.length := rfl
  have hll2 := hbd.len
  have hix := indexB_at hbd ho
  rw [hi] at hix
  have hset0 : ((N.length : Nat) : Int).toNat < (N ++ [N0]).length := by rw [Int.toNat_natCast]; simp
  refine FnM.of_body tys_ok Try.func41 (by rfl) rfl Try.ntmps41 (by rw [Try.results41]) (by simp) ?_
  
  repeat' (first
 | refine W.seq ?_
 | refine W.block ?_
 | (refine W.region tys_ok [] ?_; conv => whnf)
 | (refine W.drawAll tys_ok [] mixed rfl ?_; conv => whnf)
 | (refine W.ret ?_; conv => whnf)
 | (refine W.skip ?_; conv => whnf)
 | (refine W.exit ?_; conv => whnf)
 | (refine call_at (al := false) (hix) rfl rfl rfl rfl ?_; conv => whnf)
 | (refine W.cond rfl (fun hb => ?_) (fun hb => ?_) <;> (try simp only [Int.reduceToNat, Int.reduceTDiv, Int.reduceTMod, minL, maxL, pickB, zHB, zSH] at hb) <;> (try (first | (cases hb; done) | exact absurd hb (by decide) | (exfalso; omega) | (omega))))
 | ((with_reducible refine And.intro ?_ ?_); (focus (first | (with_reducible rfl) | omega | rfl | ((try simp only [Int.reduceToNat, Int.reduceTDiv, Int.reduceTMod, minL, maxL, pickB, zHB, zSH, InK, Path.imp, zL] at *); omega))); (conv => whnf))
 | ((with_reducible refine And.intro (Side.out ?_) ?_); rotate_left; (conv => whnf))
 | ((first | refine retM1 ?_ | refine retM2 ?_) <;> (conv => whnf) <;> repeat' (first
 | exact trivial
 | (with_reducible rfl)
 | ((with_reducible refine And.intro ?_ ?_) <;> conv => whnf)
 | omega
 | rfl
 | (refine congrArg (SV.arr _) ?_)
 | (refine congrArg (Value.int _) ?_)
 | (refine congrArg Value.bool ?_)))); all_goals (try unfold Side)
  all_goals try (repeat' (first | (with_reducible rfl) | (with_reducible refine And.intro ?_ ?_) | omega | rfl | exact Or.inl rfl | exact Or.inr rfl | exact of_decide_eq_true rfl | exact Path.imp_of (of_decide_eq_true rfl) | (focus ((try simp only [Int.reduceToNat, Int.reduceTDiv, Int.reduceTMod, minL, maxL, pickB, zHB, zSH, InK, Path.imp, zL] at *); omega)) | (refine app_le rfl ?_; omega)))
  all_goals first | exact hset0 | exact Path.imp_of ⟨by omega, hset0⟩
set_option maxHeartbeats 8000000 in
theorem growC_at {P : Int} {l0 : List Jb} {os : List Od} (hP : 0 ≤ P ∧ P ≤ 100) {l : List Jb} {N : List Nd} (hbd : Bd l) (ho : Ords os l.length) (h1l : 1 ≤ l.length) (hN : N.length ≤ 20000) (hlong : ¬ 20000 ≤ N.length) (hi : lateI os l = none) {a b : Nat} (hf : overF P l = some (a, b)) :
    FnM Try.prog 41 [.padr 1000000000 0, .st false (.arr JT l)] [(1000000000, .box [.lit (.int .i64 P), .st true (.arr JT l0), .st true (.arr OT os), .own 5]), (5, .row 57 NT true N)] (.tup [.lit (.int .i64 (N.length : Int)), .lit (.bool true)]) [(1000000000, .box [.lit (.int .i64 P), .st true (.arr JT l0), .st true (.arr OT os), .own 5]), (5, .row 57 NT true ((N ++ [N0]).set N.length (2, 0, (a : Int), (b : Int), 0, 0, ())))] := by
  have hll : @List.length JT.T l = l.length := rfl
  have hlN : @List.length NT.T N = N.length := rfl
  have hll2 := hbd.len
  have hix := indexB_at hbd ho
  have hixn : ixT os l = -1 := by unfold ixT; rw [hi]
  rw [hixn] at hix
  have hov := overfull_at hP hbd
  have e1 : ovA P l = a := by unfold ovA; rw [hf]
  have e2 : ovE P l = b := by unfold ovE; rw [hf]
  have e3 : ovB P l = true := by unfold ovB; rw [hf]
  rw [e1, e2, e3] at hov
  have hset0 : ((N.length : Nat) : Int).toNat < (N ++ [N0]).length := by rw [Int.toNat_natCast]; simp
  refine FnM.of_body tys_ok Try.func41 (by rfl) rfl Try.ntmps41 (by rw [Try.results41]) (by simp) ?_
  
  repeat' (first
 | refine W.seq ?_
 | refine W.block ?_
 | (refine W.resub (x := Code.region 9 _ _) (Γ' := ⟨[(0, .padr 1000000000 0), (3, .st false (.sadr (.arr JT l))), (6, .lit (.int .i64 ((N.length : Int))))], [(1000000000, .box [.lit (.int .i64 P), .st true (.arr JT l0), .st true (.arr OT os), .own 5]), (5, .row 57 NT true (N ++ [N0]))]⟩) ?_ (W.drawPh (id := 9) tys_ok [] mixed [0, 1, 2, 4, 8, 0, 48, 64, 128, 128, 128, 511, 3071, 8191] [([0, 1, 2, 3, 5], 1, 63), ([], 1, 127), ([7, 8, 9, 10, 11, 12, 13], 0, 16383)] (by decide +kernel) ?_); rotate_left; (conv => whnf))
 | (refine W.region tys_ok [] ?_; conv => whnf)
 | (refine W.drawAll tys_ok [] mixed rfl ?_; conv => whnf)
 | (refine W.ret ?_; conv => whnf)
 | (refine W.skip ?_; conv => whnf)
 | (refine W.exit ?_; conv => whnf)
 | (refine call_at (al := false) (hix) rfl rfl rfl rfl ?_; conv => whnf)
 | (refine call_at (al := false) (hov) rfl rfl rfl rfl ?_; conv => whnf)
 | (refine Both.mk ?_ ?_ <;> (conv => whnf))
 | (refine W.cond rfl (fun hb => ?_) (fun hb => ?_) <;> (try simp only [Int.reduceToNat, Int.reduceTDiv, Int.reduceTMod, minL, maxL, pickB, zHB, zSH] at hb) <;> (try (first | (cases hb; done) | exact absurd hb (by decide) | (exfalso; omega) | (omega))))
 | ((with_reducible refine And.intro ?_ ?_); (focus (first | (with_reducible rfl) | omega | rfl | ((try simp only [Int.reduceToNat, Int.reduceTDiv, Int.reduceTMod, minL, maxL, pickB, zHB, zSH, InK, Path.imp, zL] at *); omega))); (conv => whnf))
 | ((with_reducible refine And.intro (Side.out ?_) ?_); rotate_left; (conv => whnf))
 | ((first | refine retM1 ?_ | refine retM2 ?_ | refine subF.leaf ?_ | refine subF.side ?_) <;> (conv => whnf) <;> repeat' (first
 | exact trivial
 | (with_reducible rfl)
 | ((with_reducible refine And.intro ?_ ?_) <;> conv => whnf)
 | omega
 | rfl
 | (refine congrArg (SV.arr _) ?_)
 | (refine congrArg (Value.int _) ?_)
 | (refine congrArg Value.bool ?_)))); all_goals (try unfold Side)
  all_goals try (repeat' (first | (with_reducible rfl) | (with_reducible refine And.intro ?_ ?_) | omega | rfl | exact Or.inl rfl | exact Or.inr rfl | exact of_decide_eq_true rfl | exact Path.imp_of (of_decide_eq_true rfl) | (focus ((try simp only [Int.reduceToNat, Int.reduceTDiv, Int.reduceTMod, minL, maxL, pickB, zHB, zSH, InK, Path.imp, zL] at *); omega)) | (refine app_le rfl ?_; omega)))
  all_goals try (first | exact hset0 | exact Path.imp_of ⟨by omega, hset0⟩)
  all_goals refine subF.ok ?_ <;> (conv => whnf) <;> repeat' (first
 | exact trivial
 | (with_reducible rfl)
 | ((with_reducible refine And.intro ?_ ?_) <;> conv => whnf)
 | omega
 | rfl
 | (refine congrArg (SV.arr _) ?_)
 | (refine congrArg (Value.int _) ?_)
 | (refine congrArg Value.bool ?_))
set_option maxHeartbeats 8000000 in
theorem growD_at {P : Int} {l0 : List Jb} {os : List Od} (hP : 0 ≤ P ∧ P ≤ 100) {l : List Jb} {N : List Nd} (hbd : Bd l) (ho : Ords os l.length) (h1l : 1 ≤ l.length) (hN : N.length ≤ 20000) (hlong : ¬ 20000 ≤ N.length) (hi : lateI os l = none) (hf : overF P l = none) (hpk : pkI l l.length = -1) :
    FnM Try.prog 41 [.padr 1000000000 0, .st false (.arr JT l)] [(1000000000, .box [.lit (.int .i64 P), .st true (.arr JT l0), .st true (.arr OT os), .own 5]), (5, .row 57 NT true N)] (.tup [.lit (.int .i64 0), .lit (.bool false)]) [(1000000000, .box [.lit (.int .i64 P), .st true (.arr JT l0), .st true (.arr OT os), .own 5]), (5, .row 57 NT true (N ++ [N0]))] := by
  have hll : @List.length JT.T l = l.length := rfl
  have hlN : @List.length NT.T N = N.length := rfl
  have hll2 := hbd.len
  have hix := indexB_at hbd ho
  have hixn : ixT os l = -1 := by unfold ixT; rw [hi]
  rw [hixn] at hix
  have hov := overfull_at hP hbd
  have e1 : ovA P l = 0 := by unfold ovA; rw [hf]
  have e2 : ovE P l = 0 := by unfold ovE; rw [hf]
  have e3 : ovB P l = false := by unfold ovB; rw [hf]
  rw [e1, e2, e3] at hov
  refine FnM.of_body tys_ok Try.func41 (by rfl) rfl Try.ntmps41 (by rw [Try.results41]) (by simp) ?_
  
  repeat' (first
 | refine W.seq ?_
 | refine W.block ?_
 | (refine W.resub (x := Code.region 9 _ _) (Γ' := ⟨[(0, .padr 1000000000 0), (3, .st false (.sadr (.arr JT l))), (6, .lit (.int .i64 ((N.length : Int))))], [(1000000000, .box [.lit (.int .i64 P), .st true (.arr JT l0), .st true (.arr OT os), .own 5]), (5, .row 57 NT true (N ++ [N0]))]⟩) ?_ (W.drawPh (id := 9) tys_ok [] mixed [0, 1, 2, 4, 8, 0, 48, 64, 128, 128, 128, 511, 3071, 8191] [([0, 1, 2, 3, 5], 1, 63), ([], 1, 127), ([7, 8, 9, 10, 11, 12, 13], 0, 16383)] (by decide +kernel) ?_); rotate_left; (conv => whnf))
 | (refine W.region tys_ok [] ?_; conv => whnf)
 | (refine W.drawAll tys_ok [] mixed rfl ?_; conv => whnf)
 | (refine W.ret ?_; conv => whnf)
 | (refine W.skip ?_; conv => whnf)
 | (refine W.exit ?_; conv => whnf)
 | (refine call_at (al := false) (hix) rfl rfl rfl rfl ?_; conv => whnf)
 | (refine call_at (al := false) (hov) rfl rfl rfl rfl ?_; conv => whnf)
 | (refine Both.mk ?_ ?_ <;> (conv => whnf))
 | (refine W.cond rfl (fun hb => ?_) (fun hb => ?_) <;> (try simp only [Int.reduceToNat, Int.reduceTDiv, Int.reduceTMod, minL, maxL, pickB, zHB, zSH] at hb) <;> (try (first | (cases hb; done) | exact absurd hb (by decide) | (exfalso; omega) | (omega))))
 | ((with_reducible refine And.intro ?_ ?_); (focus (first | (with_reducible rfl) | omega | rfl | ((try simp only [Int.reduceToNat, Int.reduceTDiv, Int.reduceTMod, minL, maxL, pickB, zHB, zSH, InK, Path.imp, zL] at *); omega))); (conv => whnf))
 | ((with_reducible refine And.intro (Side.out ?_) ?_); rotate_left; (conv => whnf))
 | ((first | refine retM1 ?_ | refine retM2 ?_ | refine subF.leaf ?_ | refine subF.side ?_) <;> (conv => whnf) <;> repeat' (first
 | exact trivial
 | (with_reducible rfl)
 | ((with_reducible refine And.intro ?_ ?_) <;> conv => whnf)
 | omega
 | rfl
 | (refine congrArg (SV.arr _) ?_)
 | (refine congrArg (Value.int _) ?_)
 | (refine congrArg Value.bool ?_)))); all_goals (try unfold Side)
  all_goals try (repeat' (first | (with_reducible rfl) | (with_reducible refine And.intro ?_ ?_) | omega | rfl | exact Or.inl rfl | exact Or.inr rfl | exact of_decide_eq_true rfl | exact Path.imp_of (of_decide_eq_true rfl) | (focus ((try simp only [Int.reduceToNat, Int.reduceTDiv, Int.reduceTMod, minL, maxL, pickB, zHB, zSH, InK, Path.imp, zL] at *); omega)) | (refine app_le rfl ?_; omega)))
  all_goals try refine subF.ok ?_ <;> (conv => whnf) <;> repeat' (first
 | exact trivial
 | (with_reducible rfl)
 | ((with_reducible refine And.intro ?_ ?_) <;> conv => whnf)
 | omega
 | rfl
 | (refine congrArg (SV.arr _) ?_)
 | (refine congrArg (Value.int _) ?_)
 | (refine congrArg Value.bool ?_))
  refine W.loop (fun i : Nat => ⟨[(0, .padr 1000000000 0), (3, .st false (.sadr (.arr JT l))), (6, .lit (.int .i64 ((N.length : Int)))), (11, .fn 56 []), (12, .lit (.int .i64 ((pkI l i)))), (78, .st false (.arr JT l)), (79, .lit (.int .i64 ((l.length : Int)))), (80, .lit (.int .i64 (i)))], [(1000000000, .box [.lit (.int .i64 P), .st true (.arr JT l0), .st true (.arr OT os), .own 5]), (5, .row 57 NT true (N ++ [N0]))]⟩) (fun i => i ≤ l.length) (fun i => l.length - i) (0) ?_ ?_
  · refine ⟨Nat.zero_le _, ?_⟩
    refine subF.ok ?_ <;> (conv => whnf) <;> repeat' (first
 | exact trivial
 | (with_reducible rfl)
 | ((with_reducible refine And.intro ?_ ?_) <;> conv => whnf)
 | omega
 | rfl
 | (refine congrArg (SV.arr _) ?_)
 | (refine congrArg (Value.int _) ?_)
 | (refine congrArg Value.bool ?_))
    all_goals exact pk_zero.symm
  · intro i hi2
    have hpr := pk_rg (l := l) (k := i)
    by_cases hil : i < l.length
    · have hri := hbd.rg i hil
      have hrj := hbd.rg (pkI l i).toNat (by omega)
      have c1 := free_at (f := (l.getD i J0).1) (t := (l.getD i J0).2.1) (n := (l.getD i J0).2.2.1) (p := (l.getD i J0).2.2.2.1) hri.1 hri.2.1 hri.2.2.1
      have c2 := free_at (f := (l.getD (pkI l i).toNat J0).1) (t := (l.getD (pkI l i).toNat J0).2.1) (n := (l.getD (pkI l i).toNat J0).2.2.1) (p := (l.getD (pkI l i).toNat J0).2.2.2.1) hrj.1 hrj.2.1 hrj.2.2.1
      have hy := pk_yes (l := l) (k := i)
      have hn := pk_no (l := l) (k := i)
      have hC : pkC l i ↔ 0 < (l.getD i J0).2.1 - (l.getD i J0).2.2.1 - (l.getD i J0).1 ∧ (pkI l i < 0 ∨ (l.getD i J0).2.1 - (l.getD i J0).2.2.1 - (l.getD i J0).1 < (l.getD (pkI l i).toNat J0).2.1 - (l.getD (pkI l i).toNat J0).2.2.1 - (l.getD (pkI l i).toNat J0).1) := Iff.rfl
      unfold jf jt jl jp at hri hrj
      rw [hC] at hy hn
      by_cases hc : 0 < (l.getD i J0).2.1 - (l.getD i J0).2.2.1 - (l.getD i J0).1 ∧ (pkI l i < 0 ∨ (l.getD i J0).2.1 - (l.getD i J0).2.2.1 - (l.getD i J0).1 < (l.getD (pkI l i).toNat J0).2.1 - (l.getD (pkI l i).toNat J0).2.2.1 - (l.getD (pkI l i).toNat J0).1)
      · have hy := hy hc
        repeat' (first
 | refine W.seq ?_
 | refine W.block ?_
 | (refine W.resub (x := Code.region 18 _ _) (Γ' := ⟨[(0, .padr 1000000000 0), (3, .st false (.sadr (.arr JT l))), (6, .lit (.int .i64 ((N.length : Int)))), (11, .fn 56 []), (12, .lit (.int .i64 ((pkI l i)))), (78, .st false (.arr JT l)), (79, .lit (.int .i64 ((l.length : Int)))), (80, .lit (.int .i64 (i))), (13, .lit (.int .i64 (i))), (14, .st true (.sadr (.agg [I64 (l.getD i J0).1, I64 (l.getD i J0).2.1, I64 (l.getD i J0).2.2.1, I64 (l.getD i J0).2.2.2.1])))], [(1000000000, .box [.lit (.int .i64 P), .st true (.arr JT l0), .st true (.arr OT os), .own 5]), (5, .row 57 NT true (N ++ [N0]))]⟩) ?_ (W.drawPh (id := 18) tys_ok [] mixed [0, 0, 3, 4, 12, 16, 48, 80, 128, 128, 896, 128, 128, 128, 12416, 16512, 35968, 66688, 131216, 262160] [([0, 1], 1, 7), ([3, 4, 5, 6, 7, 8, 9, 11, 12, 13, 14, 15], 1, 65535), ([], 1, 131071), ([17, 18, 19], 0, 1048575)] (by decide +kernel) ?_); rotate_left; (conv => whnf))
 | (refine W.region tys_ok [] ?_; conv => whnf)
 | (refine W.drawAll tys_ok [] mixed rfl ?_; conv => whnf)
 | (refine W.ret ?_; conv => whnf)
 | (refine W.skip ?_; conv => whnf)
 | (refine W.exit ?_; conv => whnf)
 | (refine call_at (al := false) (c1) rfl rfl rfl rfl ?_; conv => whnf)
 | (refine call_at (al := false) (c2) rfl rfl rfl rfl ?_; conv => whnf)
 | (refine Both.mk ?_ ?_ <;> (conv => whnf))
 | (refine W.cond rfl (fun hb => ?_) (fun hb => ?_) <;> (try simp only [Int.reduceToNat, Int.reduceTDiv, Int.reduceTMod, minL, maxL, pickB, zHB, zSH] at hb) <;> (try (first | (cases hb; done) | exact absurd hb (by decide) | (exfalso; omega) | (omega))))
 | ((with_reducible refine And.intro ?_ ?_); (focus (first | (with_reducible rfl) | omega | rfl | ((try simp only [Int.reduceToNat, Int.reduceTDiv, Int.reduceTMod, minL, maxL, pickB, zHB, zSH, InK, Path.imp, zL] at *); omega))); (conv => whnf))
 | ((with_reducible refine And.intro (Side.out ?_) ?_); rotate_left; (conv => whnf))
 | ((first | refine retM1 ?_ | refine retM2 ?_ | refine subF.leaf ?_ | refine subF.side ?_) <;> (conv => whnf) <;> repeat' (first
 | exact trivial
 | (with_reducible rfl)
 | ((with_reducible refine And.intro ?_ ?_) <;> conv => whnf)
 | omega
 | rfl
 | (refine congrArg (SV.arr _) ?_)
 | (refine congrArg (Value.int _) ?_)
 | (refine congrArg Value.bool ?_)))); all_goals (try unfold Side)
        all_goals try (repeat' (first | (with_reducible rfl) | (with_reducible refine And.intro ?_ ?_) | omega | rfl | exact Or.inl rfl | exact Or.inr rfl | exact of_decide_eq_true rfl | exact Path.imp_of (of_decide_eq_true rfl) | (focus ((try simp only [Int.reduceToNat, Int.reduceTDiv, Int.reduceTMod, minL, maxL, pickB, zHB, zSH, InK, Path.imp, zL] at *); omega)) | (refine app_le rfl ?_; omega)))
        all_goals try (refine ⟨i + 1, ⟨by omega, by omega⟩, ?_⟩)
        all_goals refine subF.ok ?_ <;> (conv => whnf) <;> repeat' (first
 | exact trivial
 | (with_reducible rfl)
 | ((with_reducible refine And.intro ?_ ?_) <;> conv => whnf)
 | omega
 | rfl
 | (refine congrArg (SV.arr _) ?_)
 | (refine congrArg (Value.int _) ?_)
 | (refine congrArg Value.bool ?_))
        all_goals first | exact hy.symm | rfl
      · have hn := hn hc
        repeat' (first
 | refine W.seq ?_
 | refine W.block ?_
 | (refine W.resub (x := Code.region 18 _ _) (Γ' := ⟨[(0, .padr 1000000000 0), (3, .st false (.sadr (.arr JT l))), (6, .lit (.int .i64 ((N.length : Int)))), (11, .fn 56 []), (12, .lit (.int .i64 ((pkI l i)))), (78, .st false (.arr JT l)), (79, .lit (.int .i64 ((l.length : Int)))), (80, .lit (.int .i64 (i))), (13, .lit (.int .i64 (i))), (14, .st true (.sadr (.agg [I64 (l.getD i J0).1, I64 (l.getD i J0).2.1, I64 (l.getD i J0).2.2.1, I64 (l.getD i J0).2.2.2.1])))], [(1000000000, .box [.lit (.int .i64 P), .st true (.arr JT l0), .st true (.arr OT os), .own 5]), (5, .row 57 NT true (N ++ [N0]))]⟩) ?_ (W.drawPh (id := 18) tys_ok [] mixed [0, 0, 3, 4, 12, 16, 48, 80, 128, 128, 896, 128, 128, 128, 12416, 16512, 35968, 66688, 131216, 262160] [([0, 1], 1, 7), ([3, 4, 5, 6, 7, 8, 9, 11, 12, 13, 14, 15], 1, 65535), ([], 1, 131071), ([17, 18, 19], 0, 1048575)] (by decide +kernel) ?_); rotate_left; (conv => whnf))
 | (refine W.region tys_ok [] ?_; conv => whnf)
 | (refine W.drawAll tys_ok [] mixed rfl ?_; conv => whnf)
 | (refine W.ret ?_; conv => whnf)
 | (refine W.skip ?_; conv => whnf)
 | (refine W.exit ?_; conv => whnf)
 | (refine call_at (al := false) (c1) rfl rfl rfl rfl ?_; conv => whnf)
 | (refine call_at (al := false) (c2) rfl rfl rfl rfl ?_; conv => whnf)
 | (refine Both.mk ?_ ?_ <;> (conv => whnf))
 | (refine W.cond rfl (fun hb => ?_) (fun hb => ?_) <;> (try simp only [Int.reduceToNat, Int.reduceTDiv, Int.reduceTMod, minL, maxL, pickB, zHB, zSH] at hb) <;> (try (first | (cases hb; done) | exact absurd hb (by decide) | (exfalso; omega) | (omega))))
 | ((with_reducible refine And.intro ?_ ?_); (focus (first | (with_reducible rfl) | omega | rfl | ((try simp only [Int.reduceToNat, Int.reduceTDiv, Int.reduceTMod, minL, maxL, pickB, zHB, zSH, InK, Path.imp, zL] at *); omega))); (conv => whnf))
 | ((with_reducible refine And.intro (Side.out ?_) ?_); rotate_left; (conv => whnf))
 | ((first | refine retM1 ?_ | refine retM2 ?_ | refine subF.leaf ?_ | refine subF.side ?_) <;> (conv => whnf) <;> repeat' (first
 | exact trivial
 | (with_reducible rfl)
 | ((with_reducible refine And.intro ?_ ?_) <;> conv => whnf)
 | omega
 | rfl
 | (refine congrArg (SV.arr _) ?_)
 | (refine congrArg (Value.int _) ?_)
 | (refine congrArg Value.bool ?_)))); all_goals (try unfold Side)
        all_goals try (repeat' (first | (with_reducible rfl) | (with_reducible refine And.intro ?_ ?_) | omega | rfl | exact Or.inl rfl | exact Or.inr rfl | exact of_decide_eq_true rfl | exact Path.imp_of (of_decide_eq_true rfl) | (focus ((try simp only [Int.reduceToNat, Int.reduceTDiv, Int.reduceTMod, minL, maxL, pickB, zHB, zSH, InK, Path.imp, zL] at *); omega)) | (refine app_le rfl ?_; omega)))
        all_goals try (refine ⟨i + 1, ⟨by omega, by omega⟩, ?_⟩)
        all_goals refine subF.ok ?_ <;> (conv => whnf) <;> repeat' (first
 | exact trivial
 | (with_reducible rfl)
 | ((with_reducible refine And.intro ?_ ?_) <;> conv => whnf)
 | omega
 | rfl
 | (refine congrArg (SV.arr _) ?_)
 | (refine congrArg (Value.int _) ?_)
 | (refine congrArg Value.bool ?_))
        all_goals first | exact hn.symm | rfl
    · have hie : l.length = i := by omega
      subst hie
      rw [hpk]
      repeat' (first
 | refine W.seq ?_
 | refine W.block ?_
 | (refine W.region tys_ok [] ?_; conv => whnf)
 | (refine W.drawAll tys_ok [] mixed rfl ?_; conv => whnf)
 | (refine W.ret ?_; conv => whnf)
 | (refine W.skip ?_; conv => whnf)
 | (refine W.exit ?_; conv => whnf)
 | (refine W.cond rfl (fun hb => ?_) (fun hb => ?_) <;> (try simp only [Int.reduceToNat, Int.reduceTDiv, Int.reduceTMod, minL, maxL, pickB, zHB, zSH] at hb) <;> (try (first | (cases hb; done) | exact absurd hb (by decide) | (exfalso; omega))))
 | ((with_reducible refine And.intro ?_ ?_); (focus (first | (with_reducible rfl) | omega | rfl | ((try simp only [Int.reduceToNat, Int.reduceTDiv, Int.reduceTMod, minL, maxL, pickB, zHB, zSH, InK, Path.imp, zL] at *); omega))); (conv => whnf))
 | ((with_reducible refine And.intro (Side.out ?_) ?_); rotate_left; (conv => whnf))
 | ((first | refine retM1 ?_ | refine retM2 ?_) <;> (conv => whnf) <;> repeat' (first
 | exact trivial
 | (with_reducible rfl)
 | ((with_reducible refine And.intro ?_ ?_) <;> conv => whnf)
 | omega
 | rfl
 | (refine congrArg (SV.arr _) ?_)
 | (refine congrArg (Value.int _) ?_)
 | (refine congrArg Value.bool ?_)))); all_goals (try unfold Side)
      all_goals try (repeat' (first | (with_reducible rfl) | (with_reducible refine And.intro ?_ ?_) | omega | rfl | exact Or.inl rfl | exact Or.inr rfl | exact of_decide_eq_true rfl | exact Path.imp_of (of_decide_eq_true rfl) | (focus ((try simp only [Int.reduceToNat, Int.reduceTDiv, Int.reduceTMod, minL, maxL, pickB, zHB, zSH, InK, Path.imp, zL] at *); omega)) | (refine app_le rfl ?_; omega)))
set_option maxHeartbeats 8000000 in
theorem growE_at {P : Int} {l0 : List Jb} {os : List Od} (hP : 0 ≤ P ∧ P ≤ 100) {l : List Jb} {N : List Nd} (hbd : Bd l) (ho : Ords os l.length) (h1l : 1 ≤ l.length) (hN : N.length ≤ 20000) (hlong : ¬ 20000 ≤ N.length) (hi : lateI os l = none) (hf : overF P l = none) {j : Nat} (hj : j < l.length) (hfree : 0 < frT l j) (hpk : pkI l l.length = (j : Int)) {L R : List Jb} (hL : L = partL l j (midT l j)) (hR : R = partR l j (midT l j)) {N2 N3 : List Nd}
    (cL : FnM Try.prog 41 [.padr 1000000000 0, .st false (.arr JT L)] [(1000000000, .box [.lit (.int .i64 P), .st true (.arr JT l0), .st true (.arr OT os), .own 5]), (5, .row 57 NT true (N ++ [N0]))] (.tup [.lit (.int .i64 0), .lit (.bool false)]) [(1000000000, .box [.lit (.int .i64 P), .st true (.arr JT l0), .st true (.arr OT os), .own 5]), (5, .row 57 NT true N2)]) :
    FnM Try.prog 41 [.padr 1000000000 0, .st false (.arr JT l)] [(1000000000, .box [.lit (.int .i64 P), .st true (.arr JT l0), .st true (.arr OT os), .own 5]), (5, .row 57 NT true N)] (.tup [.lit (.int .i64 0), .lit (.bool false)]) [(1000000000, .box [.lit (.int .i64 P), .st true (.arr JT l0), .st true (.arr OT os), .own 5]), (5, .row 57 NT true N2)] := by
  have hll : @List.length JT.T l = l.length := rfl
  have hlN : @List.length NT.T N = N.length := rfl
  have hll2 := hbd.len
  have hix := indexB_at hbd ho
  have hixn : ixT os l = -1 := by unfold ixT; rw [hi]
  rw [hixn] at hix
  have hov := overfull_at hP hbd
  have e1 : ovA P l = 0 := by unfold ovA; rw [hf]
  have e2 : ovE P l = 0 := by unfold ovE; rw [hf]
  have e3 : ovB P l = false := by unfold ovB; rw [hf]
  rw [e1, e2, e3] at hov
  refine FnM.of_body tys_ok Try.func41 (by rfl) rfl Try.ntmps41 (by rw [Try.results41]) (by simp) ?_
  
  repeat' (first
 | refine W.seq ?_
 | refine W.block ?_
 | (refine W.resub (x := Code.region 9 _ _) (Γ' := ⟨[(0, .padr 1000000000 0), (3, .st false (.sadr (.arr JT l))), (6, .lit (.int .i64 ((N.length : Int))))], [(1000000000, .box [.lit (.int .i64 P), .st true (.arr JT l0), .st true (.arr OT os), .own 5]), (5, .row 57 NT true (N ++ [N0]))]⟩) ?_ (W.drawPh (id := 9) tys_ok [] mixed [0, 1, 2, 4, 8, 0, 48, 64, 128, 128, 128, 511, 3071, 8191] [([0, 1, 2, 3, 5], 1, 63), ([], 1, 127), ([7, 8, 9, 10, 11, 12, 13], 0, 16383)] (by decide +kernel) ?_); rotate_left; (conv => whnf))
 | (refine W.region tys_ok [] ?_; conv => whnf)
 | (refine W.drawAll tys_ok [] mixed rfl ?_; conv => whnf)
 | (refine W.ret ?_; conv => whnf)
 | (refine W.skip ?_; conv => whnf)
 | (refine W.exit ?_; conv => whnf)
 | (refine call_at (al := false) (hix) rfl rfl rfl rfl ?_; conv => whnf)
 | (refine call_at (al := false) (hov) rfl rfl rfl rfl ?_; conv => whnf)
 | (refine Both.mk ?_ ?_ <;> (conv => whnf))
 | (refine W.cond rfl (fun hb => ?_) (fun hb => ?_) <;> (try simp only [Int.reduceToNat, Int.reduceTDiv, Int.reduceTMod, minL, maxL, pickB, zHB, zSH] at hb) <;> (try (first | (cases hb; done) | exact absurd hb (by decide) | (exfalso; omega) | (omega))))
 | ((with_reducible refine And.intro ?_ ?_); (focus (first | (with_reducible rfl) | omega | rfl | ((try simp only [Int.reduceToNat, Int.reduceTDiv, Int.reduceTMod, minL, maxL, pickB, zHB, zSH, InK, Path.imp, zL] at *); omega))); (conv => whnf))
 | ((with_reducible refine And.intro (Side.out ?_) ?_); rotate_left; (conv => whnf))
 | ((first | refine retM1 ?_ | refine retM2 ?_ | refine subF.leaf ?_ | refine subF.side ?_) <;> (conv => whnf) <;> repeat' (first
 | exact trivial
 | (with_reducible rfl)
 | ((with_reducible refine And.intro ?_ ?_) <;> conv => whnf)
 | omega
 | rfl
 | (refine congrArg (SV.arr _) ?_)
 | (refine congrArg (Value.int _) ?_)
 | (refine congrArg Value.bool ?_)))); all_goals (try unfold Side)
  all_goals try (repeat' (first | (with_reducible rfl) | (with_reducible refine And.intro ?_ ?_) | omega | rfl | exact Or.inl rfl | exact Or.inr rfl | exact of_decide_eq_true rfl | exact Path.imp_of (of_decide_eq_true rfl) | (focus ((try simp only [Int.reduceToNat, Int.reduceTDiv, Int.reduceTMod, minL, maxL, pickB, zHB, zSH, InK, Path.imp, zL] at *); omega)) | (refine app_le rfl ?_; omega)))
  all_goals try refine subF.ok ?_ <;> (conv => whnf) <;> repeat' (first
 | exact trivial
 | (with_reducible rfl)
 | ((with_reducible refine And.intro ?_ ?_) <;> conv => whnf)
 | omega
 | rfl
 | (refine congrArg (SV.arr _) ?_)
 | (refine congrArg (Value.int _) ?_)
 | (refine congrArg Value.bool ?_))
  refine W.loop (fun i : Nat => ⟨[(0, .padr 1000000000 0), (3, .st false (.sadr (.arr JT l))), (6, .lit (.int .i64 ((N.length : Int)))), (11, .fn 56 []), (12, .lit (.int .i64 ((pkI l i)))), (78, .st false (.arr JT l)), (79, .lit (.int .i64 ((l.length : Int)))), (80, .lit (.int .i64 (i)))], [(1000000000, .box [.lit (.int .i64 P), .st true (.arr JT l0), .st true (.arr OT os), .own 5]), (5, .row 57 NT true (N ++ [N0]))]⟩) (fun i => i ≤ l.length) (fun i => l.length - i) (0) ?_ ?_
  · refine ⟨Nat.zero_le _, ?_⟩
    refine subF.ok ?_ <;> (conv => whnf) <;> repeat' (first
 | exact trivial
 | (with_reducible rfl)
 | ((with_reducible refine And.intro ?_ ?_) <;> conv => whnf)
 | omega
 | rfl
 | (refine congrArg (SV.arr _) ?_)
 | (refine congrArg (Value.int _) ?_)
 | (refine congrArg Value.bool ?_))
    all_goals exact pk_zero.symm
  · intro i hi2
    have hpr := pk_rg (l := l) (k := i)
    by_cases hil : i < l.length
    · have hri := hbd.rg i hil
      have hrj := hbd.rg (pkI l i).toNat (by omega)
      have c1 := free_at (f := (l.getD i J0).1) (t := (l.getD i J0).2.1) (n := (l.getD i J0).2.2.1) (p := (l.getD i J0).2.2.2.1) hri.1 hri.2.1 hri.2.2.1
      have c2 := free_at (f := (l.getD (pkI l i).toNat J0).1) (t := (l.getD (pkI l i).toNat J0).2.1) (n := (l.getD (pkI l i).toNat J0).2.2.1) (p := (l.getD (pkI l i).toNat J0).2.2.2.1) hrj.1 hrj.2.1 hrj.2.2.1
      have hy := pk_yes (l := l) (k := i)
      have hn := pk_no (l := l) (k := i)
      have hC : pkC l i ↔ 0 < (l.getD i J0).2.1 - (l.getD i J0).2.2.1 - (l.getD i J0).1 ∧ (pkI l i < 0 ∨ (l.getD i J0).2.1 - (l.getD i J0).2.2.1 - (l.getD i J0).1 < (l.getD (pkI l i).toNat J0).2.1 - (l.getD (pkI l i).toNat J0).2.2.1 - (l.getD (pkI l i).toNat J0).1) := Iff.rfl
      unfold jf jt jl jp at hri hrj
      rw [hC] at hy hn
      by_cases hc : 0 < (l.getD i J0).2.1 - (l.getD i J0).2.2.1 - (l.getD i J0).1 ∧ (pkI l i < 0 ∨ (l.getD i J0).2.1 - (l.getD i J0).2.2.1 - (l.getD i J0).1 < (l.getD (pkI l i).toNat J0).2.1 - (l.getD (pkI l i).toNat J0).2.2.1 - (l.getD (pkI l i).toNat J0).1)
      · have hy := hy hc
        repeat' (first
 | refine W.seq ?_
 | refine W.block ?_
 | (refine W.resub (x := Code.region 18 _ _) (Γ' := ⟨[(0, .padr 1000000000 0), (3, .st false (.sadr (.arr JT l))), (6, .lit (.int .i64 ((N.length : Int)))), (11, .fn 56 []), (12, .lit (.int .i64 ((pkI l i)))), (78, .st false (.arr JT l)), (79, .lit (.int .i64 ((l.length : Int)))), (80, .lit (.int .i64 (i))), (13, .lit (.int .i64 (i))), (14, .st true (.sadr (.agg [I64 (l.getD i J0).1, I64 (l.getD i J0).2.1, I64 (l.getD i J0).2.2.1, I64 (l.getD i J0).2.2.2.1])))], [(1000000000, .box [.lit (.int .i64 P), .st true (.arr JT l0), .st true (.arr OT os), .own 5]), (5, .row 57 NT true (N ++ [N0]))]⟩) ?_ (W.drawPh (id := 18) tys_ok [] mixed [0, 0, 3, 4, 12, 16, 48, 80, 128, 128, 896, 128, 128, 128, 12416, 16512, 35968, 66688, 131216, 262160] [([0, 1], 1, 7), ([3, 4, 5, 6, 7, 8, 9, 11, 12, 13, 14, 15], 1, 65535), ([], 1, 131071), ([17, 18, 19], 0, 1048575)] (by decide +kernel) ?_); rotate_left; (conv => whnf))
 | (refine W.region tys_ok [] ?_; conv => whnf)
 | (refine W.drawAll tys_ok [] mixed rfl ?_; conv => whnf)
 | (refine W.ret ?_; conv => whnf)
 | (refine W.skip ?_; conv => whnf)
 | (refine W.exit ?_; conv => whnf)
 | (refine call_at (al := false) (c1) rfl rfl rfl rfl ?_; conv => whnf)
 | (refine call_at (al := false) (c2) rfl rfl rfl rfl ?_; conv => whnf)
 | (refine Both.mk ?_ ?_ <;> (conv => whnf))
 | (refine W.cond rfl (fun hb => ?_) (fun hb => ?_) <;> (try simp only [Int.reduceToNat, Int.reduceTDiv, Int.reduceTMod, minL, maxL, pickB, zHB, zSH] at hb) <;> (try (first | (cases hb; done) | exact absurd hb (by decide) | (exfalso; omega) | (omega))))
 | ((with_reducible refine And.intro ?_ ?_); (focus (first | (with_reducible rfl) | omega | rfl | ((try simp only [Int.reduceToNat, Int.reduceTDiv, Int.reduceTMod, minL, maxL, pickB, zHB, zSH, InK, Path.imp, zL] at *); omega))); (conv => whnf))
 | ((with_reducible refine And.intro (Side.out ?_) ?_); rotate_left; (conv => whnf))
 | ((first | refine retM1 ?_ | refine retM2 ?_ | refine subF.leaf ?_ | refine subF.side ?_) <;> (conv => whnf) <;> repeat' (first
 | exact trivial
 | (with_reducible rfl)
 | ((with_reducible refine And.intro ?_ ?_) <;> conv => whnf)
 | omega
 | rfl
 | (refine congrArg (SV.arr _) ?_)
 | (refine congrArg (Value.int _) ?_)
 | (refine congrArg Value.bool ?_)))); all_goals (try unfold Side)
        all_goals try (repeat' (first | (with_reducible rfl) | (with_reducible refine And.intro ?_ ?_) | omega | rfl | exact Or.inl rfl | exact Or.inr rfl | exact of_decide_eq_true rfl | exact Path.imp_of (of_decide_eq_true rfl) | (focus ((try simp only [Int.reduceToNat, Int.reduceTDiv, Int.reduceTMod, minL, maxL, pickB, zHB, zSH, InK, Path.imp, zL] at *); omega)) | (refine app_le rfl ?_; omega)))
        all_goals try (refine ⟨i + 1, ⟨by omega, by omega⟩, ?_⟩)
        all_goals refine subF.ok ?_ <;> (conv => whnf) <;> repeat' (first
 | exact trivial
 | (with_reducible rfl)
 | ((with_reducible refine And.intro ?_ ?_) <;> conv => whnf)
 | omega
 | rfl
 | (refine congrArg (SV.arr _) ?_)
 | (refine congrArg (Value.int _) ?_)
 | (refine congrArg Value.bool ?_))
        all_goals first | exact hy.symm | rfl
      · have hn := hn hc
        repeat' (first
 | refine W.seq ?_
 | refine W.block ?_
 | (refine W.resub (x := Code.region 18 _ _) (Γ' := ⟨[(0, .padr 1000000000 0), (3, .st false (.sadr (.arr JT l))), (6, .lit (.int .i64 ((N.length : Int)))), (11, .fn 56 []), (12, .lit (.int .i64 ((pkI l i)))), (78, .st false (.arr JT l)), (79, .lit (.int .i64 ((l.length : Int)))), (80, .lit (.int .i64 (i))), (13, .lit (.int .i64 (i))), (14, .st true (.sadr (.agg [I64 (l.getD i J0).1, I64 (l.getD i J0).2.1, I64 (l.getD i J0).2.2.1, I64 (l.getD i J0).2.2.2.1])))], [(1000000000, .box [.lit (.int .i64 P), .st true (.arr JT l0), .st true (.arr OT os), .own 5]), (5, .row 57 NT true (N ++ [N0]))]⟩) ?_ (W.drawPh (id := 18) tys_ok [] mixed [0, 0, 3, 4, 12, 16, 48, 80, 128, 128, 896, 128, 128, 128, 12416, 16512, 35968, 66688, 131216, 262160] [([0, 1], 1, 7), ([3, 4, 5, 6, 7, 8, 9, 11, 12, 13, 14, 15], 1, 65535), ([], 1, 131071), ([17, 18, 19], 0, 1048575)] (by decide +kernel) ?_); rotate_left; (conv => whnf))
 | (refine W.region tys_ok [] ?_; conv => whnf)
 | (refine W.drawAll tys_ok [] mixed rfl ?_; conv => whnf)
 | (refine W.ret ?_; conv => whnf)
 | (refine W.skip ?_; conv => whnf)
 | (refine W.exit ?_; conv => whnf)
 | (refine call_at (al := false) (c1) rfl rfl rfl rfl ?_; conv => whnf)
 | (refine call_at (al := false) (c2) rfl rfl rfl rfl ?_; conv => whnf)
 | (refine Both.mk ?_ ?_ <;> (conv => whnf))
 | (refine W.cond rfl (fun hb => ?_) (fun hb => ?_) <;> (try simp only [Int.reduceToNat, Int.reduceTDiv, Int.reduceTMod, minL, maxL, pickB, zHB, zSH] at hb) <;> (try (first | (cases hb; done) | exact absurd hb (by decide) | (exfalso; omega) | (omega))))
 | ((with_reducible refine And.intro ?_ ?_); (focus (first | (with_reducible rfl) | omega | rfl | ((try simp only [Int.reduceToNat, Int.reduceTDiv, Int.reduceTMod, minL, maxL, pickB, zHB, zSH, InK, Path.imp, zL] at *); omega))); (conv => whnf))
 | ((with_reducible refine And.intro (Side.out ?_) ?_); rotate_left; (conv => whnf))
 | ((first | refine retM1 ?_ | refine retM2 ?_ | refine subF.leaf ?_ | refine subF.side ?_) <;> (conv => whnf) <;> repeat' (first
 | exact trivial
 | (with_reducible rfl)
 | ((with_reducible refine And.intro ?_ ?_) <;> conv => whnf)
 | omega
 | rfl
 | (refine congrArg (SV.arr _) ?_)
 | (refine congrArg (Value.int _) ?_)
 | (refine congrArg Value.bool ?_)))); all_goals (try unfold Side)
        all_goals try (repeat' (first | (with_reducible rfl) | (with_reducible refine And.intro ?_ ?_) | omega | rfl | exact Or.inl rfl | exact Or.inr rfl | exact of_decide_eq_true rfl | exact Path.imp_of (of_decide_eq_true rfl) | (focus ((try simp only [Int.reduceToNat, Int.reduceTDiv, Int.reduceTMod, minL, maxL, pickB, zHB, zSH, InK, Path.imp, zL] at *); omega)) | (refine app_le rfl ?_; omega)))
        all_goals try (refine ⟨i + 1, ⟨by omega, by omega⟩, ?_⟩)
        all_goals refine subF.ok ?_ <;> (conv => whnf) <;> repeat' (first
 | exact trivial
 | (with_reducible rfl)
 | ((with_reducible refine And.intro ?_ ?_) <;> conv => whnf)
 | omega
 | rfl
 | (refine congrArg (SV.arr _) ?_)
 | (refine congrArg (Value.int _) ?_)
 | (refine congrArg Value.bool ?_))
        all_goals first | exact hn.symm | rfl
    · have hie : l.length = i := by omega
      subst hie
      rw [hpk]
      have hfr : 0 < (l.getD j J0).2.1 - (l.getD j J0).2.2.1 - (l.getD j J0).1 := hfree
      have hrj := hbd.rg j hj
      unfold jf jt jl jp at hrj
      have c3 := free_at (f := (l.getD j J0).1) (t := (l.getD j J0).2.1) (n := (l.getD j J0).2.2.1) (p := (l.getD j J0).2.2.2.1) hrj.1 hrj.2.1 hrj.2.2.1
      have hmid : ((l.getD j J0).1 + Int.tdiv ((l.getD j J0).2.1 - (l.getD j J0).2.2.1 - (l.getD j J0).1 - 1) 2) = midT l j := by
        rw [Int.tdiv_eq_ediv_of_nonneg (by omega)]; rfl
      have hmr := mid_rg hfree
      unfold jf jt jl at hmr
      have hpt : FnAt Try.prog false 57 [.arr JT l, I64 (j : Int), I64 ((l.getD j J0).1 + Int.tdiv ((l.getD j J0).2.1 - (l.getD j J0).2.2.1 - (l.getD j J0).1 - 1) 2)] (.tup [.own 0, .own 1]) [(0, .row 45 JT true L), (1, .row 45 JT true R)] := by
        have h := parted_at hbd (j := (j : Int)) (a := ((l.getD j J0).1 + Int.tdiv ((l.getD j J0).2.1 - (l.getD j J0).2.2.1 - (l.getD j J0).1 - 1) 2)) (by omega) (by rw [hmid]; omega)
        rw [hmid, Int.toNat_natCast] at h
        rw [hmid, hL, hR]
        exact h
      repeat' (first
 | refine W.seq ?_
 | refine W.block ?_
 | (refine W.drawPh (id := 23) tys_ok [] mixed [0, 0, 3, 4, 8, 0, 0, 0, 192, 256, 544, 1024, 2048, 4112, 16383] [([0, 1, 2, 3, 4, 5, 6, 7, 8, 9], 1, 2047), ([11, 12, 13, 14], 0, 32767)] (by decide +kernel) ?_; conv => whnf)
 | (refine W.resub (x := Code.region 25 _ _) (Γ' := ⟨[(0, .padr 1000000000 0), (6, .lit (.int .i64 ((N.length : Int)))), (12, .lit (.int .i64 ((j : Int)))), (15, .lit (.int .i64 ((midT l j)))), (16, .st true (.arr JT L)), (17, .st true (.arr JT R))], [(1000000000, .box [.lit (.int .i64 P), .st true (.arr JT l0), .st true (.arr OT os), .own 5]), (5, .row 57 NT true (N ++ [N0]))]⟩) ?_ (W.regionM tys_ok [] [2] ?_); rotate_left; (conv => whnf))
 | (refine W.region tys_ok [] ?_; conv => whnf)
 | (refine W.drawAll tys_ok [] mixed rfl ?_; conv => whnf)
 | (refine W.ret ?_; conv => whnf)
 | (refine W.skip ?_; conv => whnf)
 | (refine W.exit ?_; conv => whnf)
 | (refine call_at (al := false) (c3) rfl rfl rfl rfl ?_; conv => whnf)
 | (refine call_at (al := false) (hpt) rfl rfl rfl rfl ?_; conv => whnf)
 | (refine callM_at (cL) ?_; conv => whnf)
 | (refine Both.mk ?_ ?_ <;> (conv => whnf))
 | (refine W.cond rfl (fun hb => ?_) (fun hb => ?_) <;> (try simp only [Int.reduceToNat, Int.reduceTDiv, Int.reduceTMod, minL, maxL, pickB, zHB, zSH] at hb) <;> (try (first | (cases hb; done) | exact absurd hb (by decide) | (exfalso; omega))))
 | (refine Or.inl (And.intro ?_ ?_); (focus (first | exact trivial | exact ⟨rfl, trivial⟩ | (refine ⟨?_, trivial⟩; dsimp only; simp only [Int.reduceToNat, Int.reduceTDiv, Int.reduceTMod, minL, maxL, pickB, zHB, zSH]; omega))); (conv => whnf))
 | (refine Or.inr (And.intro ?_ ?_); (focus (intro h; have h := h.1; dsimp only at h; first | (exact Bool.noConfusion h) | (simp only [Int.reduceToNat, Int.reduceTDiv, Int.reduceTMod, minL, maxL, pickB, zHB, zSH] at h; omega))); (conv => whnf))
 | ((with_reducible refine And.intro ?_ ?_); (focus (first | (with_reducible rfl) | omega | rfl | ((try simp only [Int.reduceToNat, Int.reduceTDiv, Int.reduceTMod, minL, maxL, pickB, zHB, zSH, InK, Path.imp, zL] at *); omega))); (conv => whnf))
 | ((with_reducible refine And.intro (Side.out ?_) ?_); rotate_left; (conv => whnf))
 | ((first | refine retM1 ?_ | refine retM2 ?_ | refine subF.leaf ?_ | refine subF.side ?_) <;> (conv => whnf) <;> repeat' (first
 | exact trivial
 | (with_reducible rfl)
 | ((with_reducible refine And.intro ?_ ?_) <;> conv => whnf)
 | omega
 | rfl
 | (refine congrArg (SV.arr _) ?_)
 | (refine congrArg (Value.int _) ?_)
 | (refine congrArg Value.bool ?_)))); all_goals (try unfold Side)
      all_goals try (repeat' (first | (with_reducible rfl) | (with_reducible refine And.intro ?_ ?_) | omega | rfl | exact Or.inl rfl | exact Or.inr rfl | exact of_decide_eq_true rfl | exact Path.imp_of (of_decide_eq_true rfl) | (focus ((try simp only [Int.reduceToNat, Int.reduceTDiv, Int.reduceTMod, minL, maxL, pickB, zHB, zSH, InK, Path.imp, zL] at *); omega)) | (refine app_le rfl ?_; omega)))
      all_goals try exact hmid
      all_goals refine subF.ok ?_ <;> (conv => whnf) <;> repeat' (first
 | exact trivial
 | (with_reducible rfl)
 | ((with_reducible refine And.intro ?_ ?_) <;> conv => whnf)
 | omega
 | rfl
 | (refine congrArg (SV.arr _) ?_)
 | (refine congrArg (Value.int _) ?_)
 | (refine congrArg Value.bool ?_))
      all_goals exact hmid
set_option maxHeartbeats 8000000 in
theorem growF_at {P : Int} {l0 : List Jb} {os : List Od} (hP : 0 ≤ P ∧ P ≤ 100) {l : List Jb} {N : List Nd} (hbd : Bd l) (ho : Ords os l.length) (h1l : 1 ≤ l.length) (hN : N.length ≤ 20000) (hlong : ¬ 20000 ≤ N.length) (hi : lateI os l = none) (hf : overF P l = none) {j : Nat} (hj : j < l.length) (hfree : 0 < frT l j) (hpk : pkI l l.length = (j : Int)) {L R : List Jb} (hL : L = partL l j (midT l j)) (hR : R = partR l j (midT l j)) {N2 N3 : List Nd} (hN2 : N2.length ≤ 20000)
    (cL : FnM Try.prog 41 [.padr 1000000000 0, .st false (.arr JT L)] [(1000000000, .box [.lit (.int .i64 P), .st true (.arr JT l0), .st true (.arr OT os), .own 5]), (5, .row 57 NT true (N ++ [N0]))] (.tup [.lit (.int .i64 ((N.length : Int) + 1)), .lit (.bool true)]) [(1000000000, .box [.lit (.int .i64 P), .st true (.arr JT l0), .st true (.arr OT os), .own 5]), (5, .row 57 NT true N2)])
    (cR : FnM Try.prog 41 [.padr 1000000000 0, .st false (.arr JT R)] [(1000000000, .box [.lit (.int .i64 P), .st true (.arr JT l0), .st true (.arr OT os), .own 5]), (5, .row 57 NT true N2)] (.tup [.lit (.int .i64 0), .lit (.bool false)]) [(1000000000, .box [.lit (.int .i64 P), .st true (.arr JT l0), .st true (.arr OT os), .own 5]), (5, .row 57 NT true N3)]) :
    FnM Try.prog 41 [.padr 1000000000 0, .st false (.arr JT l)] [(1000000000, .box [.lit (.int .i64 P), .st true (.arr JT l0), .st true (.arr OT os), .own 5]), (5, .row 57 NT true N)] (.tup [.lit (.int .i64 0), .lit (.bool false)]) [(1000000000, .box [.lit (.int .i64 P), .st true (.arr JT l0), .st true (.arr OT os), .own 5]), (5, .row 57 NT true N3)] := by
  have hll : @List.length JT.T l = l.length := rfl
  have hlN : @List.length NT.T N = N.length := rfl
  have hll2 := hbd.len
  have hix := indexB_at hbd ho
  have hixn : ixT os l = -1 := by unfold ixT; rw [hi]
  rw [hixn] at hix
  have hov := overfull_at hP hbd
  have e1 : ovA P l = 0 := by unfold ovA; rw [hf]
  have e2 : ovE P l = 0 := by unfold ovE; rw [hf]
  have e3 : ovB P l = false := by unfold ovB; rw [hf]
  rw [e1, e2, e3] at hov
  refine FnM.of_body tys_ok Try.func41 (by rfl) rfl Try.ntmps41 (by rw [Try.results41]) (by simp) ?_
  
  repeat' (first
 | refine W.seq ?_
 | refine W.block ?_
 | (refine W.resub (x := Code.region 9 _ _) (Γ' := ⟨[(0, .padr 1000000000 0), (3, .st false (.sadr (.arr JT l))), (6, .lit (.int .i64 ((N.length : Int))))], [(1000000000, .box [.lit (.int .i64 P), .st true (.arr JT l0), .st true (.arr OT os), .own 5]), (5, .row 57 NT true (N ++ [N0]))]⟩) ?_ (W.drawPh (id := 9) tys_ok [] mixed [0, 1, 2, 4, 8, 0, 48, 64, 128, 128, 128, 511, 3071, 8191] [([0, 1, 2, 3, 5], 1, 63), ([], 1, 127), ([7, 8, 9, 10, 11, 12, 13], 0, 16383)] (by decide +kernel) ?_); rotate_left; (conv => whnf))
 | (refine W.region tys_ok [] ?_; conv => whnf)
 | (refine W.drawAll tys_ok [] mixed rfl ?_; conv => whnf)
 | (refine W.ret ?_; conv => whnf)
 | (refine W.skip ?_; conv => whnf)
 | (refine W.exit ?_; conv => whnf)
 | (refine call_at (al := false) (hix) rfl rfl rfl rfl ?_; conv => whnf)
 | (refine call_at (al := false) (hov) rfl rfl rfl rfl ?_; conv => whnf)
 | (refine Both.mk ?_ ?_ <;> (conv => whnf))
 | (refine W.cond rfl (fun hb => ?_) (fun hb => ?_) <;> (try simp only [Int.reduceToNat, Int.reduceTDiv, Int.reduceTMod, minL, maxL, pickB, zHB, zSH] at hb) <;> (try (first | (cases hb; done) | exact absurd hb (by decide) | (exfalso; omega) | (omega))))
 | ((with_reducible refine And.intro ?_ ?_); (focus (first | (with_reducible rfl) | omega | rfl | ((try simp only [Int.reduceToNat, Int.reduceTDiv, Int.reduceTMod, minL, maxL, pickB, zHB, zSH, InK, Path.imp, zL] at *); omega))); (conv => whnf))
 | ((with_reducible refine And.intro (Side.out ?_) ?_); rotate_left; (conv => whnf))
 | ((first | refine retM1 ?_ | refine retM2 ?_ | refine subF.leaf ?_ | refine subF.side ?_) <;> (conv => whnf) <;> repeat' (first
 | exact trivial
 | (with_reducible rfl)
 | ((with_reducible refine And.intro ?_ ?_) <;> conv => whnf)
 | omega
 | rfl
 | (refine congrArg (SV.arr _) ?_)
 | (refine congrArg (Value.int _) ?_)
 | (refine congrArg Value.bool ?_)))); all_goals (try unfold Side)
  all_goals try (repeat' (first | (with_reducible rfl) | (with_reducible refine And.intro ?_ ?_) | omega | rfl | exact Or.inl rfl | exact Or.inr rfl | exact of_decide_eq_true rfl | exact Path.imp_of (of_decide_eq_true rfl) | (focus ((try simp only [Int.reduceToNat, Int.reduceTDiv, Int.reduceTMod, minL, maxL, pickB, zHB, zSH, InK, Path.imp, zL] at *); omega)) | (refine app_le rfl ?_; omega)))
  all_goals try refine subF.ok ?_ <;> (conv => whnf) <;> repeat' (first
 | exact trivial
 | (with_reducible rfl)
 | ((with_reducible refine And.intro ?_ ?_) <;> conv => whnf)
 | omega
 | rfl
 | (refine congrArg (SV.arr _) ?_)
 | (refine congrArg (Value.int _) ?_)
 | (refine congrArg Value.bool ?_))
  refine W.loop (fun i : Nat => ⟨[(0, .padr 1000000000 0), (3, .st false (.sadr (.arr JT l))), (6, .lit (.int .i64 ((N.length : Int)))), (11, .fn 56 []), (12, .lit (.int .i64 ((pkI l i)))), (78, .st false (.arr JT l)), (79, .lit (.int .i64 ((l.length : Int)))), (80, .lit (.int .i64 (i)))], [(1000000000, .box [.lit (.int .i64 P), .st true (.arr JT l0), .st true (.arr OT os), .own 5]), (5, .row 57 NT true (N ++ [N0]))]⟩) (fun i => i ≤ l.length) (fun i => l.length - i) (0) ?_ ?_
  · refine ⟨Nat.zero_le _, ?_⟩
    refine subF.ok ?_ <;> (conv => whnf) <;> repeat' (first
 | exact trivial
 | (with_reducible rfl)
 | ((with_reducible refine And.intro ?_ ?_) <;> conv => whnf)
 | omega
 | rfl
 | (refine congrArg (SV.arr _) ?_)
 | (refine congrArg (Value.int _) ?_)
 | (refine congrArg Value.bool ?_))
    all_goals exact pk_zero.symm
  · intro i hi2
    have hpr := pk_rg (l := l) (k := i)
    by_cases hil : i < l.length
    · have hri := hbd.rg i hil
      have hrj := hbd.rg (pkI l i).toNat (by omega)
      have c1 := free_at (f := (l.getD i J0).1) (t := (l.getD i J0).2.1) (n := (l.getD i J0).2.2.1) (p := (l.getD i J0).2.2.2.1) hri.1 hri.2.1 hri.2.2.1
      have c2 := free_at (f := (l.getD (pkI l i).toNat J0).1) (t := (l.getD (pkI l i).toNat J0).2.1) (n := (l.getD (pkI l i).toNat J0).2.2.1) (p := (l.getD (pkI l i).toNat J0).2.2.2.1) hrj.1 hrj.2.1 hrj.2.2.1
      have hy := pk_yes (l := l) (k := i)
      have hn := pk_no (l := l) (k := i)
      have hC : pkC l i ↔ 0 < (l.getD i J0).2.1 - (l.getD i J0).2.2.1 - (l.getD i J0).1 ∧ (pkI l i < 0 ∨ (l.getD i J0).2.1 - (l.getD i J0).2.2.1 - (l.getD i J0).1 < (l.getD (pkI l i).toNat J0).2.1 - (l.getD (pkI l i).toNat J0).2.2.1 - (l.getD (pkI l i).toNat J0).1) := Iff.rfl
      unfold jf jt jl jp at hri hrj
      rw [hC] at hy hn
      by_cases hc : 0 < (l.getD i J0).2.1 - (l.getD i J0).2.2.1 - (l.getD i J0).1 ∧ (pkI l i < 0 ∨ (l.getD i J0).2.1 - (l.getD i J0).2.2.1 - (l.getD i J0).1 < (l.getD (pkI l i).toNat J0).2.1 - (l.getD (pkI l i).toNat J0).2.2.1 - (l.getD (pkI l i).toNat J0).1)
      · have hy := hy hc
        repeat' (first
 | refine W.seq ?_
 | refine W.block ?_
 | (refine W.resub (x := Code.region 18 _ _) (Γ' := ⟨[(0, .padr 1000000000 0), (3, .st false (.sadr (.arr JT l))), (6, .lit (.int .i64 ((N.length : Int)))), (11, .fn 56 []), (12, .lit (.int .i64 ((pkI l i)))), (78, .st false (.arr JT l)), (79, .lit (.int .i64 ((l.length : Int)))), (80, .lit (.int .i64 (i))), (13, .lit (.int .i64 (i))), (14, .st true (.sadr (.agg [I64 (l.getD i J0).1, I64 (l.getD i J0).2.1, I64 (l.getD i J0).2.2.1, I64 (l.getD i J0).2.2.2.1])))], [(1000000000, .box [.lit (.int .i64 P), .st true (.arr JT l0), .st true (.arr OT os), .own 5]), (5, .row 57 NT true (N ++ [N0]))]⟩) ?_ (W.drawPh (id := 18) tys_ok [] mixed [0, 0, 3, 4, 12, 16, 48, 80, 128, 128, 896, 128, 128, 128, 12416, 16512, 35968, 66688, 131216, 262160] [([0, 1], 1, 7), ([3, 4, 5, 6, 7, 8, 9, 11, 12, 13, 14, 15], 1, 65535), ([], 1, 131071), ([17, 18, 19], 0, 1048575)] (by decide +kernel) ?_); rotate_left; (conv => whnf))
 | (refine W.region tys_ok [] ?_; conv => whnf)
 | (refine W.drawAll tys_ok [] mixed rfl ?_; conv => whnf)
 | (refine W.ret ?_; conv => whnf)
 | (refine W.skip ?_; conv => whnf)
 | (refine W.exit ?_; conv => whnf)
 | (refine call_at (al := false) (c1) rfl rfl rfl rfl ?_; conv => whnf)
 | (refine call_at (al := false) (c2) rfl rfl rfl rfl ?_; conv => whnf)
 | (refine Both.mk ?_ ?_ <;> (conv => whnf))
 | (refine W.cond rfl (fun hb => ?_) (fun hb => ?_) <;> (try simp only [Int.reduceToNat, Int.reduceTDiv, Int.reduceTMod, minL, maxL, pickB, zHB, zSH] at hb) <;> (try (first | (cases hb; done) | exact absurd hb (by decide) | (exfalso; omega) | (omega))))
 | ((with_reducible refine And.intro ?_ ?_); (focus (first | (with_reducible rfl) | omega | rfl | ((try simp only [Int.reduceToNat, Int.reduceTDiv, Int.reduceTMod, minL, maxL, pickB, zHB, zSH, InK, Path.imp, zL] at *); omega))); (conv => whnf))
 | ((with_reducible refine And.intro (Side.out ?_) ?_); rotate_left; (conv => whnf))
 | ((first | refine retM1 ?_ | refine retM2 ?_ | refine subF.leaf ?_ | refine subF.side ?_) <;> (conv => whnf) <;> repeat' (first
 | exact trivial
 | (with_reducible rfl)
 | ((with_reducible refine And.intro ?_ ?_) <;> conv => whnf)
 | omega
 | rfl
 | (refine congrArg (SV.arr _) ?_)
 | (refine congrArg (Value.int _) ?_)
 | (refine congrArg Value.bool ?_)))); all_goals (try unfold Side)
        all_goals try (repeat' (first | (with_reducible rfl) | (with_reducible refine And.intro ?_ ?_) | omega | rfl | exact Or.inl rfl | exact Or.inr rfl | exact of_decide_eq_true rfl | exact Path.imp_of (of_decide_eq_true rfl) | (focus ((try simp only [Int.reduceToNat, Int.reduceTDiv, Int.reduceTMod, minL, maxL, pickB, zHB, zSH, InK, Path.imp, zL] at *); omega)) | (refine app_le rfl ?_; omega)))
        all_goals try (refine ⟨i + 1, ⟨by omega, by omega⟩, ?_⟩)
        all_goals refine subF.ok ?_ <;> (conv => whnf) <;> repeat' (first
 | exact trivial
 | (with_reducible rfl)
 | ((with_reducible refine And.intro ?_ ?_) <;> conv => whnf)
 | omega
 | rfl
 | (refine congrArg (SV.arr _) ?_)
 | (refine congrArg (Value.int _) ?_)
 | (refine congrArg Value.bool ?_))
        all_goals first | exact hy.symm | rfl
      · have hn := hn hc
        repeat' (first
 | refine W.seq ?_
 | refine W.block ?_
 | (refine W.resub (x := Code.region 18 _ _) (Γ' := ⟨[(0, .padr 1000000000 0), (3, .st false (.sadr (.arr JT l))), (6, .lit (.int .i64 ((N.length : Int)))), (11, .fn 56 []), (12, .lit (.int .i64 ((pkI l i)))), (78, .st false (.arr JT l)), (79, .lit (.int .i64 ((l.length : Int)))), (80, .lit (.int .i64 (i))), (13, .lit (.int .i64 (i))), (14, .st true (.sadr (.agg [I64 (l.getD i J0).1, I64 (l.getD i J0).2.1, I64 (l.getD i J0).2.2.1, I64 (l.getD i J0).2.2.2.1])))], [(1000000000, .box [.lit (.int .i64 P), .st true (.arr JT l0), .st true (.arr OT os), .own 5]), (5, .row 57 NT true (N ++ [N0]))]⟩) ?_ (W.drawPh (id := 18) tys_ok [] mixed [0, 0, 3, 4, 12, 16, 48, 80, 128, 128, 896, 128, 128, 128, 12416, 16512, 35968, 66688, 131216, 262160] [([0, 1], 1, 7), ([3, 4, 5, 6, 7, 8, 9, 11, 12, 13, 14, 15], 1, 65535), ([], 1, 131071), ([17, 18, 19], 0, 1048575)] (by decide +kernel) ?_); rotate_left; (conv => whnf))
 | (refine W.region tys_ok [] ?_; conv => whnf)
 | (refine W.drawAll tys_ok [] mixed rfl ?_; conv => whnf)
 | (refine W.ret ?_; conv => whnf)
 | (refine W.skip ?_; conv => whnf)
 | (refine W.exit ?_; conv => whnf)
 | (refine call_at (al := false) (c1) rfl rfl rfl rfl ?_; conv => whnf)
 | (refine call_at (al := false) (c2) rfl rfl rfl rfl ?_; conv => whnf)
 | (refine Both.mk ?_ ?_ <;> (conv => whnf))
 | (refine W.cond rfl (fun hb => ?_) (fun hb => ?_) <;> (try simp only [Int.reduceToNat, Int.reduceTDiv, Int.reduceTMod, minL, maxL, pickB, zHB, zSH] at hb) <;> (try (first | (cases hb; done) | exact absurd hb (by decide) | (exfalso; omega) | (omega))))
 | ((with_reducible refine And.intro ?_ ?_); (focus (first | (with_reducible rfl) | omega | rfl | ((try simp only [Int.reduceToNat, Int.reduceTDiv, Int.reduceTMod, minL, maxL, pickB, zHB, zSH, InK, Path.imp, zL] at *); omega))); (conv => whnf))
 | ((with_reducible refine And.intro (Side.out ?_) ?_); rotate_left; (conv => whnf))
 | ((first | refine retM1 ?_ | refine retM2 ?_ | refine subF.leaf ?_ | refine subF.side ?_) <;> (conv => whnf) <;> repeat' (first
 | exact trivial
 | (with_reducible rfl)
 | ((with_reducible refine And.intro ?_ ?_) <;> conv => whnf)
 | omega
 | rfl
 | (refine congrArg (SV.arr _) ?_)
 | (refine congrArg (Value.int _) ?_)
 | (refine congrArg Value.bool ?_)))); all_goals (try unfold Side)
        all_goals try (repeat' (first | (with_reducible rfl) | (with_reducible refine And.intro ?_ ?_) | omega | rfl | exact Or.inl rfl | exact Or.inr rfl | exact of_decide_eq_true rfl | exact Path.imp_of (of_decide_eq_true rfl) | (focus ((try simp only [Int.reduceToNat, Int.reduceTDiv, Int.reduceTMod, minL, maxL, pickB, zHB, zSH, InK, Path.imp, zL] at *); omega)) | (refine app_le rfl ?_; omega)))
        all_goals try (refine ⟨i + 1, ⟨by omega, by omega⟩, ?_⟩)
        all_goals refine subF.ok ?_ <;> (conv => whnf) <;> repeat' (first
 | exact trivial
 | (with_reducible rfl)
 | ((with_reducible refine And.intro ?_ ?_) <;> conv => whnf)
 | omega
 | rfl
 | (refine congrArg (SV.arr _) ?_)
 | (refine congrArg (Value.int _) ?_)
 | (refine congrArg Value.bool ?_))
        all_goals first | exact hn.symm | rfl
    · have hie : l.length = i := by omega
      subst hie
      rw [hpk]
      have hfr : 0 < (l.getD j J0).2.1 - (l.getD j J0).2.2.1 - (l.getD j J0).1 := hfree
      have hrj := hbd.rg j hj
      unfold jf jt jl jp at hrj
      have c3 := free_at (f := (l.getD j J0).1) (t := (l.getD j J0).2.1) (n := (l.getD j J0).2.2.1) (p := (l.getD j J0).2.2.2.1) hrj.1 hrj.2.1 hrj.2.2.1
      have hmid : ((l.getD j J0).1 + Int.tdiv ((l.getD j J0).2.1 - (l.getD j J0).2.2.1 - (l.getD j J0).1 - 1) 2) = midT l j := by
        rw [Int.tdiv_eq_ediv_of_nonneg (by omega)]; rfl
      have hmr := mid_rg hfree
      unfold jf jt jl at hmr
      have hpt : FnAt Try.prog false 57 [.arr JT l, I64 (j : Int), I64 ((l.getD j J0).1 + Int.tdiv ((l.getD j J0).2.1 - (l.getD j J0).2.2.1 - (l.getD j J0).1 - 1) 2)] (.tup [.own 0, .own 1]) [(0, .row 45 JT true L), (1, .row 45 JT true R)] := by
        have h := parted_at hbd (j := (j : Int)) (a := ((l.getD j J0).1 + Int.tdiv ((l.getD j J0).2.1 - (l.getD j J0).2.2.1 - (l.getD j J0).1 - 1) 2)) (by omega) (by rw [hmid]; omega)
        rw [hmid, Int.toNat_natCast] at h
        rw [hmid, hL, hR]
        exact h
      repeat' (first
 | refine W.seq ?_
 | refine W.block ?_
 | (refine W.drawPh (id := 23) tys_ok [] mixed [0, 0, 3, 4, 8, 0, 0, 0, 192, 256, 544, 1024, 2048, 4112, 16383] [([0, 1, 2, 3, 4, 5, 6, 7, 8, 9], 1, 2047), ([11, 12, 13, 14], 0, 32767)] (by decide +kernel) ?_; conv => whnf)
 | (refine W.resub (x := Code.region 25 _ _) (Γ' := ⟨[(0, .padr 1000000000 0), (6, .lit (.int .i64 ((N.length : Int)))), (12, .lit (.int .i64 ((j : Int)))), (15, .lit (.int .i64 ((midT l j)))), (16, .st true (.arr JT L)), (17, .st true (.arr JT R))], [(1000000000, .box [.lit (.int .i64 P), .st true (.arr JT l0), .st true (.arr OT os), .own 5]), (5, .row 57 NT true (N ++ [N0]))]⟩) ?_ (W.regionM tys_ok [] [2] ?_); rotate_left; (conv => whnf))
 | (refine W.resub (x := Code.region 28 _ _) (Γ' := ⟨[(0, .padr 1000000000 0), (6, .lit (.int .i64 ((N.length : Int)))), (12, .lit (.int .i64 ((j : Int)))), (15, .lit (.int .i64 ((midT l j)))), (17, .st true (.arr JT R)), (18, .lit (.int .i64 (((N.length : Int) + 1))))], [(1000000000, .box [.lit (.int .i64 P), .st true (.arr JT l0), .st true (.arr OT os), .own 5]), (5, .row 57 NT true N2)]⟩) ?_ (W.regionM tys_ok [] [2] ?_); rotate_left; (conv => whnf))
 | (refine W.region tys_ok [] ?_; conv => whnf)
 | (refine W.drawAll tys_ok [] mixed rfl ?_; conv => whnf)
 | (refine W.ret ?_; conv => whnf)
 | (refine W.skip ?_; conv => whnf)
 | (refine W.exit ?_; conv => whnf)
 | (refine call_at (al := false) (c3) rfl rfl rfl rfl ?_; conv => whnf)
 | (refine call_at (al := false) (hpt) rfl rfl rfl rfl ?_; conv => whnf)
 | (refine callM_at (cL) ?_; clear cL; conv => whnf)
 | (refine callM_at (cR) ?_; conv => whnf)
 | (refine Both.mk ?_ ?_ <;> (conv => whnf))
 | (refine W.cond rfl (fun hb => ?_) (fun hb => ?_) <;> (try simp only [Int.reduceToNat, Int.reduceTDiv, Int.reduceTMod, minL, maxL, pickB, zHB, zSH] at hb) <;> (try (first | (cases hb; done) | exact absurd hb (by decide) | (exfalso; omega))))
 | (refine Or.inl (And.intro ?_ ?_); (focus (first | exact trivial | exact ⟨rfl, trivial⟩ | (refine ⟨?_, trivial⟩; dsimp only; simp only [Int.reduceToNat, Int.reduceTDiv, Int.reduceTMod, minL, maxL, pickB, zHB, zSH]; omega))); (conv => whnf))
 | (refine Or.inr (And.intro ?_ ?_); (focus (intro h; have h := h.1; dsimp only at h; first | (exact Bool.noConfusion h) | (simp only [Int.reduceToNat, Int.reduceTDiv, Int.reduceTMod, minL, maxL, pickB, zHB, zSH] at h; omega))); (conv => whnf))
 | ((with_reducible refine And.intro ?_ ?_); (focus (first | (with_reducible rfl) | omega | rfl | ((try simp only [Int.reduceToNat, Int.reduceTDiv, Int.reduceTMod, minL, maxL, pickB, zHB, zSH, InK, Path.imp, zL] at *); omega))); (conv => whnf))
 | ((with_reducible refine And.intro (Side.out ?_) ?_); rotate_left; (conv => whnf))
 | ((first | refine retM1 ?_ | refine retM2 ?_ | refine subF.leaf ?_ | refine subF.side ?_) <;> (conv => whnf) <;> repeat' (first
 | exact trivial
 | (with_reducible rfl)
 | ((with_reducible refine And.intro ?_ ?_) <;> conv => whnf)
 | omega
 | rfl
 | (refine congrArg (SV.arr _) ?_)
 | (refine congrArg (Value.int _) ?_)
 | (refine congrArg Value.bool ?_)))); all_goals (try unfold Side)
      all_goals try (repeat' (first | (with_reducible rfl) | (with_reducible refine And.intro ?_ ?_) | omega | rfl | exact Or.inl rfl | exact Or.inr rfl | exact of_decide_eq_true rfl | exact Path.imp_of (of_decide_eq_true rfl) | (focus ((try simp only [Int.reduceToNat, Int.reduceTDiv, Int.reduceTMod, minL, maxL, pickB, zHB, zSH, InK, Path.imp, zL] at *); omega)) | (refine app_le rfl ?_; omega)))
      all_goals try exact hmid
      all_goals refine subF.ok ?_ <;> (conv => whnf) <;> repeat' (first
 | exact trivial
 | (with_reducible rfl)
 | ((with_reducible refine And.intro ?_ ?_) <;> conv => whnf)
 | omega
 | rfl
 | (refine congrArg (SV.arr _) ?_)
 | (refine congrArg (Value.int _) ?_)
 | (refine congrArg Value.bool ?_))
      all_goals exact hmid
set_option maxHeartbeats 8000000 in
theorem growG_at {P : Int} {l0 : List Jb} {os : List Od} (hP : 0 ≤ P ∧ P ≤ 100) {l : List Jb} {N : List Nd} (hbd : Bd l) (ho : Ords os l.length) (h1l : 1 ≤ l.length) (hN : N.length ≤ 20000) (hlong : ¬ 20000 ≤ N.length) (hi : lateI os l = none) (hf : overF P l = none) {j : Nat} (hj : j < l.length) (hfree : 0 < frT l j) (hpk : pkI l l.length = (j : Int)) {L R : List Jb} (hL : L = partL l j (midT l j)) (hR : R = partR l j (midT l j)) {N2 N3 : List Nd} (hN2 : N2.length ≤ 20000) (hN3 : N3.length ≤ 20000) (hN3l : N.length < N3.length)
    (cL : FnM Try.prog 41 [.padr 1000000000 0, .st false (.arr JT L)] [(1000000000, .box [.lit (.int .i64 P), .st true (.arr JT l0), .st true (.arr OT os), .own 5]), (5, .row 57 NT true (N ++ [N0]))] (.tup [.lit (.int .i64 ((N.length : Int) + 1)), .lit (.bool true)]) [(1000000000, .box [.lit (.int .i64 P), .st true (.arr JT l0), .st true (.arr OT os), .own 5]), (5, .row 57 NT true N2)])
    (cR : FnM Try.prog 41 [.padr 1000000000 0, .st false (.arr JT R)] [(1000000000, .box [.lit (.int .i64 P), .st true (.arr JT l0), .st true (.arr OT os), .own 5]), (5, .row 57 NT true N2)] (.tup [.lit (.int .i64 (N2.length : Int)), .lit (.bool true)]) [(1000000000, .box [.lit (.int .i64 P), .st true (.arr JT l0), .st true (.arr OT os), .own 5]), (5, .row 57 NT true N3)]) :
    FnM Try.prog 41 [.padr 1000000000 0, .st false (.arr JT l)] [(1000000000, .box [.lit (.int .i64 P), .st true (.arr JT l0), .st true (.arr OT os), .own 5]), (5, .row 57 NT true N)] (.tup [.lit (.int .i64 (N.length : Int)), .lit (.bool true)]) [(1000000000, .box [.lit (.int .i64 P), .st true (.arr JT l0), .st true (.arr OT os), .own 5]), (5, .row 57 NT true (N3.set N.length (1, (j : Int), midT l j, 0, (N.length : Int) + 1, (N2.length : Int), ())))] := by
  have hll : @List.length JT.T l = l.length := rfl
  have hlN : @List.length NT.T N = N.length := rfl
  have hll2 := hbd.len
  have hl3 : @List.length NT.T N3 = N3.length := rfl
  have hix := indexB_at hbd ho
  have hixn : ixT os l = -1 := by unfold ixT; rw [hi]
  rw [hixn] at hix
  have hov := overfull_at hP hbd
  have e1 : ovA P l = 0 := by unfold ovA; rw [hf]
  have e2 : ovE P l = 0 := by unfold ovE; rw [hf]
  have e3 : ovB P l = false := by unfold ovB; rw [hf]
  rw [e1, e2, e3] at hov
  refine FnM.of_body tys_ok Try.func41 (by rfl) rfl Try.ntmps41 (by rw [Try.results41]) (by simp) ?_
  
  repeat' (first
 | refine W.seq ?_
 | refine W.block ?_
 | (refine W.resub (x := Code.region 9 _ _) (Γ' := ⟨[(0, .padr 1000000000 0), (3, .st false (.sadr (.arr JT l))), (6, .lit (.int .i64 ((N.length : Int))))], [(1000000000, .box [.lit (.int .i64 P), .st true (.arr JT l0), .st true (.arr OT os), .own 5]), (5, .row 57 NT true (N ++ [N0]))]⟩) ?_ (W.drawPh (id := 9) tys_ok [] mixed [0, 1, 2, 4, 8, 0, 48, 64, 128, 128, 128, 511, 3071, 8191] [([0, 1, 2, 3, 5], 1, 63), ([], 1, 127), ([7, 8, 9, 10, 11, 12, 13], 0, 16383)] (by decide +kernel) ?_); rotate_left; (conv => whnf))
 | (refine W.region tys_ok [] ?_; conv => whnf)
 | (refine W.drawAll tys_ok [] mixed rfl ?_; conv => whnf)
 | (refine W.ret ?_; conv => whnf)
 | (refine W.skip ?_; conv => whnf)
 | (refine W.exit ?_; conv => whnf)
 | (refine call_at (al := false) (hix) rfl rfl rfl rfl ?_; conv => whnf)
 | (refine call_at (al := false) (hov) rfl rfl rfl rfl ?_; conv => whnf)
 | (refine Both.mk ?_ ?_ <;> (conv => whnf))
 | (refine W.cond rfl (fun hb => ?_) (fun hb => ?_) <;> (try simp only [Int.reduceToNat, Int.reduceTDiv, Int.reduceTMod, minL, maxL, pickB, zHB, zSH] at hb) <;> (try (first | (cases hb; done) | exact absurd hb (by decide) | (exfalso; omega) | (omega))))
 | ((with_reducible refine And.intro ?_ ?_); (focus (first | (with_reducible rfl) | omega | rfl | ((try simp only [Int.reduceToNat, Int.reduceTDiv, Int.reduceTMod, minL, maxL, pickB, zHB, zSH, InK, Path.imp, zL] at *); omega))); (conv => whnf))
 | ((with_reducible refine And.intro (Side.out ?_) ?_); rotate_left; (conv => whnf))
 | ((first | refine retM1 ?_ | refine retM2 ?_ | refine subF.leaf ?_ | refine subF.side ?_) <;> (conv => whnf) <;> repeat' (first
 | exact trivial
 | (with_reducible rfl)
 | ((with_reducible refine And.intro ?_ ?_) <;> conv => whnf)
 | omega
 | rfl
 | (refine congrArg (SV.arr _) ?_)
 | (refine congrArg (Value.int _) ?_)
 | (refine congrArg Value.bool ?_)))); all_goals (try unfold Side)
  all_goals try (repeat' (first | (with_reducible rfl) | (with_reducible refine And.intro ?_ ?_) | omega | rfl | exact Or.inl rfl | exact Or.inr rfl | exact of_decide_eq_true rfl | exact Path.imp_of (of_decide_eq_true rfl) | (focus ((try simp only [Int.reduceToNat, Int.reduceTDiv, Int.reduceTMod, minL, maxL, pickB, zHB, zSH, InK, Path.imp, zL] at *); omega)) | (refine app_le rfl ?_; omega)))
  all_goals try refine subF.ok ?_ <;> (conv => whnf) <;> repeat' (first
 | exact trivial
 | (with_reducible rfl)
 | ((with_reducible refine And.intro ?_ ?_) <;> conv => whnf)
 | omega
 | rfl
 | (refine congrArg (SV.arr _) ?_)
 | (refine congrArg (Value.int _) ?_)
 | (refine congrArg Value.bool ?_))
  refine W.loop (fun i : Nat => ⟨[(0, .padr 1000000000 0), (3, .st false (.sadr (.arr JT l))), (6, .lit (.int .i64 ((N.length : Int)))), (11, .fn 56 []), (12, .lit (.int .i64 ((pkI l i)))), (78, .st false (.arr JT l)), (79, .lit (.int .i64 ((l.length : Int)))), (80, .lit (.int .i64 (i)))], [(1000000000, .box [.lit (.int .i64 P), .st true (.arr JT l0), .st true (.arr OT os), .own 5]), (5, .row 57 NT true (N ++ [N0]))]⟩) (fun i => i ≤ l.length) (fun i => l.length - i) (0) ?_ ?_
  · refine ⟨Nat.zero_le _, ?_⟩
    refine subF.ok ?_ <;> (conv => whnf) <;> repeat' (first
 | exact trivial
 | (with_reducible rfl)
 | ((with_reducible refine And.intro ?_ ?_) <;> conv => whnf)
 | omega
 | rfl
 | (refine congrArg (SV.arr _) ?_)
 | (refine congrArg (Value.int _) ?_)
 | (refine congrArg Value.bool ?_))
    all_goals exact pk_zero.symm
  · intro i hi2
    have hpr := pk_rg (l := l) (k := i)
    by_cases hil : i < l.length
    · have hri := hbd.rg i hil
      have hrj := hbd.rg (pkI l i).toNat (by omega)
      have c1 := free_at (f := (l.getD i J0).1) (t := (l.getD i J0).2.1) (n := (l.getD i J0).2.2.1) (p := (l.getD i J0).2.2.2.1) hri.1 hri.2.1 hri.2.2.1
      have c2 := free_at (f := (l.getD (pkI l i).toNat J0).1) (t := (l.getD (pkI l i).toNat J0).2.1) (n := (l.getD (pkI l i).toNat J0).2.2.1) (p := (l.getD (pkI l i).toNat J0).2.2.2.1) hrj.1 hrj.2.1 hrj.2.2.1
      have hy := pk_yes (l := l) (k := i)
      have hn := pk_no (l := l) (k := i)
      have hC : pkC l i ↔ 0 < (l.getD i J0).2.1 - (l.getD i J0).2.2.1 - (l.getD i J0).1 ∧ (pkI l i < 0 ∨ (l.getD i J0).2.1 - (l.getD i J0).2.2.1 - (l.getD i J0).1 < (l.getD (pkI l i).toNat J0).2.1 - (l.getD (pkI l i).toNat J0).2.2.1 - (l.getD (pkI l i).toNat J0).1) := Iff.rfl
      unfold jf jt jl jp at hri hrj
      rw [hC] at hy hn
      by_cases hc : 0 < (l.getD i J0).2.1 - (l.getD i J0).2.2.1 - (l.getD i J0).1 ∧ (pkI l i < 0 ∨ (l.getD i J0).2.1 - (l.getD i J0).2.2.1 - (l.getD i J0).1 < (l.getD (pkI l i).toNat J0).2.1 - (l.getD (pkI l i).toNat J0).2.2.1 - (l.getD (pkI l i).toNat J0).1)
      · have hy := hy hc
        repeat' (first
 | refine W.seq ?_
 | refine W.block ?_
 | (refine W.resub (x := Code.region 18 _ _) (Γ' := ⟨[(0, .padr 1000000000 0), (3, .st false (.sadr (.arr JT l))), (6, .lit (.int .i64 ((N.length : Int)))), (11, .fn 56 []), (12, .lit (.int .i64 ((pkI l i)))), (78, .st false (.arr JT l)), (79, .lit (.int .i64 ((l.length : Int)))), (80, .lit (.int .i64 (i))), (13, .lit (.int .i64 (i))), (14, .st true (.sadr (.agg [I64 (l.getD i J0).1, I64 (l.getD i J0).2.1, I64 (l.getD i J0).2.2.1, I64 (l.getD i J0).2.2.2.1])))], [(1000000000, .box [.lit (.int .i64 P), .st true (.arr JT l0), .st true (.arr OT os), .own 5]), (5, .row 57 NT true (N ++ [N0]))]⟩) ?_ (W.drawPh (id := 18) tys_ok [] mixed [0, 0, 3, 4, 12, 16, 48, 80, 128, 128, 896, 128, 128, 128, 12416, 16512, 35968, 66688, 131216, 262160] [([0, 1], 1, 7), ([3, 4, 5, 6, 7, 8, 9, 11, 12, 13, 14, 15], 1, 65535), ([], 1, 131071), ([17, 18, 19], 0, 1048575)] (by decide +kernel) ?_); rotate_left; (conv => whnf))
 | (refine W.region tys_ok [] ?_; conv => whnf)
 | (refine W.drawAll tys_ok [] mixed rfl ?_; conv => whnf)
 | (refine W.ret ?_; conv => whnf)
 | (refine W.skip ?_; conv => whnf)
 | (refine W.exit ?_; conv => whnf)
 | (refine call_at (al := false) (c1) rfl rfl rfl rfl ?_; conv => whnf)
 | (refine call_at (al := false) (c2) rfl rfl rfl rfl ?_; conv => whnf)
 | (refine Both.mk ?_ ?_ <;> (conv => whnf))
 | (refine W.cond rfl (fun hb => ?_) (fun hb => ?_) <;> (try simp only [Int.reduceToNat, Int.reduceTDiv, Int.reduceTMod, minL, maxL, pickB, zHB, zSH] at hb) <;> (try (first | (cases hb; done) | exact absurd hb (by decide) | (exfalso; omega) | (omega))))
 | ((with_reducible refine And.intro ?_ ?_); (focus (first | (with_reducible rfl) | omega | rfl | ((try simp only [Int.reduceToNat, Int.reduceTDiv, Int.reduceTMod, minL, maxL, pickB, zHB, zSH, InK, Path.imp, zL] at *); omega))); (conv => whnf))
 | ((with_reducible refine And.intro (Side.out ?_) ?_); rotate_left; (conv => whnf))
 | ((first | refine retM1 ?_ | refine retM2 ?_ | refine subF.leaf ?_ | refine subF.side ?_) <;> (conv => whnf) <;> repeat' (first
 | exact trivial
 | (with_reducible rfl)
 | ((with_reducible refine And.intro ?_ ?_) <;> conv => whnf)
 | omega
 | rfl
 | (refine congrArg (SV.arr _) ?_)
 | (refine congrArg (Value.int _) ?_)
 | (refine congrArg Value.bool ?_)))); all_goals (try unfold Side)
        all_goals try (repeat' (first | (with_reducible rfl) | (with_reducible refine And.intro ?_ ?_) | omega | rfl | exact Or.inl rfl | exact Or.inr rfl | exact of_decide_eq_true rfl | exact Path.imp_of (of_decide_eq_true rfl) | (focus ((try simp only [Int.reduceToNat, Int.reduceTDiv, Int.reduceTMod, minL, maxL, pickB, zHB, zSH, InK, Path.imp, zL] at *); omega)) | (refine app_le rfl ?_; omega)))
        all_goals try (refine ⟨i + 1, ⟨by omega, by omega⟩, ?_⟩)
        all_goals refine subF.ok ?_ <;> (conv => whnf) <;> repeat' (first
 | exact trivial
 | (with_reducible rfl)
 | ((with_reducible refine And.intro ?_ ?_) <;> conv => whnf)
 | omega
 | rfl
 | (refine congrArg (SV.arr _) ?_)
 | (refine congrArg (Value.int _) ?_)
 | (refine congrArg Value.bool ?_))
        all_goals first | exact hy.symm | rfl
      · have hn := hn hc
        repeat' (first
 | refine W.seq ?_
 | refine W.block ?_
 | (refine W.resub (x := Code.region 18 _ _) (Γ' := ⟨[(0, .padr 1000000000 0), (3, .st false (.sadr (.arr JT l))), (6, .lit (.int .i64 ((N.length : Int)))), (11, .fn 56 []), (12, .lit (.int .i64 ((pkI l i)))), (78, .st false (.arr JT l)), (79, .lit (.int .i64 ((l.length : Int)))), (80, .lit (.int .i64 (i))), (13, .lit (.int .i64 (i))), (14, .st true (.sadr (.agg [I64 (l.getD i J0).1, I64 (l.getD i J0).2.1, I64 (l.getD i J0).2.2.1, I64 (l.getD i J0).2.2.2.1])))], [(1000000000, .box [.lit (.int .i64 P), .st true (.arr JT l0), .st true (.arr OT os), .own 5]), (5, .row 57 NT true (N ++ [N0]))]⟩) ?_ (W.drawPh (id := 18) tys_ok [] mixed [0, 0, 3, 4, 12, 16, 48, 80, 128, 128, 896, 128, 128, 128, 12416, 16512, 35968, 66688, 131216, 262160] [([0, 1], 1, 7), ([3, 4, 5, 6, 7, 8, 9, 11, 12, 13, 14, 15], 1, 65535), ([], 1, 131071), ([17, 18, 19], 0, 1048575)] (by decide +kernel) ?_); rotate_left; (conv => whnf))
 | (refine W.region tys_ok [] ?_; conv => whnf)
 | (refine W.drawAll tys_ok [] mixed rfl ?_; conv => whnf)
 | (refine W.ret ?_; conv => whnf)
 | (refine W.skip ?_; conv => whnf)
 | (refine W.exit ?_; conv => whnf)
 | (refine call_at (al := false) (c1) rfl rfl rfl rfl ?_; conv => whnf)
 | (refine call_at (al := false) (c2) rfl rfl rfl rfl ?_; conv => whnf)
 | (refine Both.mk ?_ ?_ <;> (conv => whnf))
 | (refine W.cond rfl (fun hb => ?_) (fun hb => ?_) <;> (try simp only [Int.reduceToNat, Int.reduceTDiv, Int.reduceTMod, minL, maxL, pickB, zHB, zSH] at hb) <;> (try (first | (cases hb; done) | exact absurd hb (by decide) | (exfalso; omega) | (omega))))
 | ((with_reducible refine And.intro ?_ ?_); (focus (first | (with_reducible rfl) | omega | rfl | ((try simp only [Int.reduceToNat, Int.reduceTDiv, Int.reduceTMod, minL, maxL, pickB, zHB, zSH, InK, Path.imp, zL] at *); omega))); (conv => whnf))
 | ((with_reducible refine And.intro (Side.out ?_) ?_); rotate_left; (conv => whnf))
 | ((first | refine retM1 ?_ | refine retM2 ?_ | refine subF.leaf ?_ | refine subF.side ?_) <;> (conv => whnf) <;> repeat' (first
 | exact trivial
 | (with_reducible rfl)
 | ((with_reducible refine And.intro ?_ ?_) <;> conv => whnf)
 | omega
 | rfl
 | (refine congrArg (SV.arr _) ?_)
 | (refine congrArg (Value.int _) ?_)
 | (refine congrArg Value.bool ?_)))); all_goals (try unfold Side)
        all_goals try (repeat' (first | (with_reducible rfl) | (with_reducible refine And.intro ?_ ?_) | omega | rfl | exact Or.inl rfl | exact Or.inr rfl | exact of_decide_eq_true rfl | exact Path.imp_of (of_decide_eq_true rfl) | (focus ((try simp only [Int.reduceToNat, Int.reduceTDiv, Int.reduceTMod, minL, maxL, pickB, zHB, zSH, InK, Path.imp, zL] at *); omega)) | (refine app_le rfl ?_; omega)))
        all_goals try (refine ⟨i + 1, ⟨by omega, by omega⟩, ?_⟩)
        all_goals refine subF.ok ?_ <;> (conv => whnf) <;> repeat' (first
 | exact trivial
 | (with_reducible rfl)
 | ((with_reducible refine And.intro ?_ ?_) <;> conv => whnf)
 | omega
 | rfl
 | (refine congrArg (SV.arr _) ?_)
 | (refine congrArg (Value.int _) ?_)
 | (refine congrArg Value.bool ?_))
        all_goals first | exact hn.symm | rfl
    · have hie : l.length = i := by omega
      subst hie
      rw [hpk]
      have hfr : 0 < (l.getD j J0).2.1 - (l.getD j J0).2.2.1 - (l.getD j J0).1 := hfree
      have hrj := hbd.rg j hj
      unfold jf jt jl jp at hrj
      have c3 := free_at (f := (l.getD j J0).1) (t := (l.getD j J0).2.1) (n := (l.getD j J0).2.2.1) (p := (l.getD j J0).2.2.2.1) hrj.1 hrj.2.1 hrj.2.2.1
      have hmid : ((l.getD j J0).1 + Int.tdiv ((l.getD j J0).2.1 - (l.getD j J0).2.2.1 - (l.getD j J0).1 - 1) 2) = midT l j := by
        rw [Int.tdiv_eq_ediv_of_nonneg (by omega)]; rfl
      have hmr := mid_rg hfree
      unfold jf jt jl at hmr
      have hpt : FnAt Try.prog false 57 [.arr JT l, I64 (j : Int), I64 ((l.getD j J0).1 + Int.tdiv ((l.getD j J0).2.1 - (l.getD j J0).2.2.1 - (l.getD j J0).1 - 1) 2)] (.tup [.own 0, .own 1]) [(0, .row 45 JT true L), (1, .row 45 JT true R)] := by
        have h := parted_at hbd (j := (j : Int)) (a := ((l.getD j J0).1 + Int.tdiv ((l.getD j J0).2.1 - (l.getD j J0).2.2.1 - (l.getD j J0).1 - 1) 2)) (by omega) (by rw [hmid]; omega)
        rw [hmid, Int.toNat_natCast] at h
        rw [hmid, hL, hR]
        exact h
      repeat' (first
 | refine W.seq ?_
 | refine W.block ?_
 | (refine W.drawPh (id := 23) tys_ok [] mixed [0, 0, 3, 4, 8, 0, 0, 0, 192, 256, 544, 1024, 2048, 4112, 16383] [([0, 1, 2, 3, 4, 5, 6, 7, 8, 9], 1, 2047), ([11, 12, 13, 14], 0, 32767)] (by decide +kernel) ?_; conv => whnf)
 | (refine W.resub (x := Code.region 25 _ _) (Γ' := ⟨[(0, .padr 1000000000 0), (6, .lit (.int .i64 ((N.length : Int)))), (12, .lit (.int .i64 ((j : Int)))), (15, .lit (.int .i64 ((midT l j)))), (16, .st true (.arr JT L)), (17, .st true (.arr JT R))], [(1000000000, .box [.lit (.int .i64 P), .st true (.arr JT l0), .st true (.arr OT os), .own 5]), (5, .row 57 NT true (N ++ [N0]))]⟩) ?_ (W.regionM tys_ok [] [2] ?_); rotate_left; (conv => whnf))
 | (refine W.resub (x := Code.region 28 _ _) (Γ' := ⟨[(0, .padr 1000000000 0), (6, .lit (.int .i64 ((N.length : Int)))), (12, .lit (.int .i64 ((j : Int)))), (15, .lit (.int .i64 ((midT l j)))), (17, .st true (.arr JT R)), (18, .lit (.int .i64 (((N.length : Int) + 1))))], [(1000000000, .box [.lit (.int .i64 P), .st true (.arr JT l0), .st true (.arr OT os), .own 5]), (5, .row 57 NT true N2)]⟩) ?_ (W.regionM tys_ok [] [2] ?_); rotate_left; (conv => whnf))
 | (refine W.region tys_ok [] ?_; conv => whnf)
 | (refine W.drawAll tys_ok [] mixed rfl ?_; conv => whnf)
 | (refine W.ret ?_; conv => whnf)
 | (refine W.skip ?_; conv => whnf)
 | (refine W.exit ?_; conv => whnf)
 | (refine call_at (al := false) (c3) rfl rfl rfl rfl ?_; conv => whnf)
 | (refine call_at (al := false) (hpt) rfl rfl rfl rfl ?_; conv => whnf)
 | (refine callM_at (cL) ?_; clear cL; conv => whnf)
 | (refine callM_at (cR) ?_; conv => whnf)
 | (refine Both.mk ?_ ?_ <;> (conv => whnf))
 | (refine W.cond rfl (fun hb => ?_) (fun hb => ?_) <;> (try simp only [Int.reduceToNat, Int.reduceTDiv, Int.reduceTMod, minL, maxL, pickB, zHB, zSH] at hb) <;> (try (first | (cases hb; done) | exact absurd hb (by decide) | (exfalso; omega))))
 | (refine Or.inl (And.intro ?_ ?_); (focus (first | exact trivial | exact ⟨rfl, trivial⟩ | (refine ⟨?_, trivial⟩; dsimp only; simp only [Int.reduceToNat, Int.reduceTDiv, Int.reduceTMod, minL, maxL, pickB, zHB, zSH]; omega))); (conv => whnf))
 | (refine Or.inr (And.intro ?_ ?_); (focus (intro h; have h := h.1; dsimp only at h; first | (exact Bool.noConfusion h) | (simp only [Int.reduceToNat, Int.reduceTDiv, Int.reduceTMod, minL, maxL, pickB, zHB, zSH] at h; omega))); (conv => whnf))
 | ((with_reducible refine And.intro ?_ ?_); (focus (first | (with_reducible rfl) | omega | rfl | ((try simp only [Int.reduceToNat, Int.reduceTDiv, Int.reduceTMod, minL, maxL, pickB, zHB, zSH, InK, Path.imp, zL] at *); omega))); (conv => whnf))
 | ((with_reducible refine And.intro (Side.out ?_) ?_); rotate_left; (conv => whnf))
 | ((first | refine retM1 ?_ | refine retM2 ?_ | refine subF.leaf ?_ | refine subF.side ?_) <;> (conv => whnf) <;> repeat' (first
 | exact trivial
 | (with_reducible rfl)
 | ((with_reducible refine And.intro ?_ ?_) <;> conv => whnf)
 | omega
 | rfl
 | (refine congrArg (SV.arr _) ?_)
 | (refine congrArg (Value.int _) ?_)
 | (refine congrArg Value.bool ?_)))); all_goals (try unfold Side)
      all_goals try (repeat' (first | (with_reducible rfl) | (with_reducible refine And.intro ?_ ?_) | omega | rfl | exact Or.inl rfl | exact Or.inr rfl | exact of_decide_eq_true rfl | exact Path.imp_of (of_decide_eq_true rfl) | (focus ((try simp only [Int.reduceToNat, Int.reduceTDiv, Int.reduceTMod, minL, maxL, pickB, zHB, zSH, InK, Path.imp, zL] at *); omega)) | (refine app_le rfl ?_; omega)))
      all_goals try exact hmid
      all_goals refine subF.ok ?_ <;> (conv => whnf) <;> repeat' (first
 | exact trivial
 | (with_reducible rfl)
 | ((with_reducible refine And.intro ?_ ?_) <;> conv => whnf)
 | omega
 | rfl
 | (refine congrArg (SV.arr _) ?_)
 | (refine congrArg (Value.int _) ?_)
 | (refine congrArg Value.bool ?_))
      all_goals exact hmid
end Go.Proofs.Ytmfholchenihaaa
