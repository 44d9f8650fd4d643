/- Joined of: H17 H15 H16 H7 H8 H9 H18 H19. No condition. -/
import Derived.Test.YtmfholchenihaaaJ5

namespace Go.Proofs.Ytmfholchenihaaa
open Go Go.Vc Go.Sh
set_option linter.unusedVariables false
set_option linter.unusedSimpArgs false
set_option maxHeartbeats 8000000 in
theorem growA_at {P : Int} {l0 : List Jb} {os : List Od} (hP : 0 ≤ P ∧ P ≤ 100) {l : List Jb} {N : List Nd} (hbd : Bd l) (ho : Ords os l.length) (h1l : 1 ≤ l.length) (hN : N.length ≤ 20000) (hlong : 20000 ≤ N.length) :
    FnM Try.prog 41 [.padr 1000000000 0, .st false (.arr JT l)] [(1000000000, .box [.lit (.int .i64 P), .st true (.arr JT l0), .st true (.arr OT os), .own 5]), (5, .row 57 NT true N)] (.tup [.lit (.int .i64 0), .lit (.bool false)]) [(1000000000, .box [.lit (.int .i64 P), .st true (.arr JT l0), .st true (.arr OT os), .own 5]), (5, .row 57 NT true N)] := by
  have hll : @List.length JT.T l = l.length := rfl
  have hlN : @List.length NT.T N = N.length := rfl
  have hll2 := hbd.len
  refine FnM.of_body tys_ok Try.func41 (by rfl) rfl Try.ntmps41 (by rw [Try.results41]) (by simp) ?_
  
  repeat' (first
 | refine W.seq ?_
 | refine W.block ?_
 | (refine W.region tys_ok [] ?_; conv => whnf)
 | (refine W.drawAll tys_ok [] mixed rfl ?_; conv => whnf)
 | (refine W.ret ?_; conv => whnf)
 | (refine W.skip ?_; conv => whnf)
 | (refine W.exit ?_; conv => whnf)
 | (refine W.cond rfl (fun hb => ?_) (fun hb => ?_) <;> (try simp only [Int.reduceToNat, Int.reduceTDiv, Int.reduceTMod, minL, maxL, pickB, zHB, zSH] at hb) <;> (try (first | (cases hb; done) | exact absurd hb (by decide) | (exfalso; omega) | (omega))))
 | ((with_reducible refine And.intro ?_ ?_); (focus ((repeat' (first | (with_reducible rfl) | (with_reducible refine And.intro ?_ ?_) | omega | rfl | exact Or.inl rfl | exact Or.inr rfl | exact of_decide_eq_true rfl | exact Path.imp_of (of_decide_eq_true rfl) | (focus ((try simp only [Int.reduceToNat, Int.reduceTDiv, Int.reduceTMod, minL, maxL, pickB, zHB, zSH, InK, Path.imp, List.length_replicate, List.length_set, List.length_append, List.length_cons, List.length_nil] at *); omega)) | (refine app_le rfl ?_; omega))); done)); (conv => whnf))
 | ((with_reducible refine And.intro (Side.out ?_) ?_); rotate_left; (conv => whnf))
 | ((first | refine retM1 ?_ | refine retM2 ?_) <;> (conv => whnf) <;> repeat' (first
 | exact trivial
 | (with_reducible rfl)
 | ((with_reducible refine And.intro ?_ ?_) <;> conv => whnf)
 | omega
 | rfl
 | (refine congrArg (SV.arr _) ?_)
 | (refine congrArg (Value.int _) ?_)
 | (refine congrArg Value.bool ?_)))); all_goals (try unfold Side)
  all_goals try (repeat' (first | (with_reducible rfl) | (with_reducible refine And.intro ?_ ?_) | omega | rfl | exact Or.inl rfl | exact Or.inr rfl | exact of_decide_eq_true rfl | exact Path.imp_of (of_decide_eq_true rfl) | (focus ((try simp only [Int.reduceToNat, Int.reduceTDiv, Int.reduceTMod, minL, maxL, pickB, zHB, zSH, InK, Path.imp, List.length_replicate, List.length_set, List.length_append, List.length_cons, List.length_nil] at *); omega)) | (refine app_le rfl ?_; omega)))
set_option maxHeartbeats 8000000 in
theorem growB_at {P : Int} {l0 : List Jb} {os : List Od} (hP : 0 ≤ P ∧ P ≤ 100) {l : List Jb} {N : List Nd} (hbd : Bd l) (ho : Ords os l.length) (h1l : 1 ≤ l.length) (hN : N.length ≤ 20000) (hlong : ¬ 20000 ≤ N.length) {i : Nat} (hi : ixT os l = (i : Int)) :
    FnM Try.prog 41 [.padr 1000000000 0, .st false (.arr JT l)] [(1000000000, .box [.lit (.int .i64 P), .st true (.arr JT l0), .st true (.arr OT os), .own 5]), (5, .row 57 NT true N)] (.tup [.lit (.int .i64 (N.length : Int)), .lit (.bool true)]) [(1000000000, .box [.lit (.int .i64 P), .st true (.arr JT l0), .st true (.arr OT os), .own 5]), (5, .row 57 NT true ((N ++ [N0]).set N.length (3, (i : Int), 0, 0, 0, 0, ())))] := by
  have hll : @List.length JT.T l = l.length := rfl
  have hlN : @List.length NT.T N = N.length := rfl
  have hll2 := hbd.len
  have hix := indexB_at hbd ho
  rw [hi] at hix
  have hset0 : ((N.length : Nat) : Int).toNat < (N ++ [N0]).length := by rw [Int.toNat_natCast]; simp
  refine FnM.of_body tys_ok Try.func41 (by rfl) rfl Try.ntmps41 (by rw [Try.results41]) (by simp) ?_
  
  repeat' (first
 | refine W.seq ?_
 | refine W.block ?_
 | (refine W.region tys_ok [] ?_; conv => whnf)
 | (refine W.drawAll tys_ok [] mixed rfl ?_; conv => whnf)
 | (refine W.ret ?_; conv => whnf)
 | (refine W.skip ?_; conv => whnf)
 | (refine W.exit ?_; conv => whnf)
 | (refine call_at (al := false) (hix) rfl rfl rfl rfl ?_; conv => whnf)
 | (refine W.cond rfl (fun hb => ?_) (fun hb => ?_) <;> (try simp only [Int.reduceToNat, Int.reduceTDiv, Int.reduceTMod, minL, maxL, pickB, zHB, zSH] at hb) <;> (try (first | (cases hb; done) | exact absurd hb (by decide) | (exfalso; omega) | (omega))))
 | ((with_reducible refine And.intro ?_ ?_); (focus ((repeat' (first | (with_reducible rfl) | (with_reducible refine And.intro ?_ ?_) | omega | rfl | exact Or.inl rfl | exact Or.inr rfl | exact of_decide_eq_true rfl | exact Path.imp_of (of_decide_eq_true rfl) | (focus ((try simp only [Int.reduceToNat, Int.reduceTDiv, Int.reduceTMod, minL, maxL, pickB, zHB, zSH, InK, Path.imp, List.length_replicate, List.length_set, List.length_append, List.length_cons, List.length_nil] at *); omega)) | (refine app_le rfl ?_; omega))); done)); (conv => whnf))
 | ((with_reducible refine And.intro (Side.out ?_) ?_); rotate_left; (conv => whnf))
 | ((first | refine retM1 ?_ | refine retM2 ?_) <;> (conv => whnf) <;> repeat' (first
 | exact trivial
 | (with_reducible rfl)
 | ((with_reducible refine And.intro ?_ ?_) <;> conv => whnf)
 | omega
 | rfl
 | (refine congrArg (SV.arr _) ?_)
 | (refine congrArg (Value.int _) ?_)
 | (refine congrArg Value.bool ?_)))); all_goals (try unfold Side)
  all_goals try (repeat' (first | (with_reducible rfl) | (with_reducible refine And.intro ?_ ?_) | omega | rfl | exact Or.inl rfl | exact Or.inr rfl | exact of_decide_eq_true rfl | exact Path.imp_of (of_decide_eq_true rfl) | (focus ((try simp only [Int.reduceToNat, Int.reduceTDiv, Int.reduceTMod, minL, maxL, pickB, zHB, zSH, InK, Path.imp, List.length_replicate, List.length_set, List.length_append, List.length_cons, List.length_nil] at *); omega)) | (refine app_le rfl ?_; omega)))
  all_goals first | exact hset0 | exact Path.imp_of ⟨by omega, hset0⟩
set_option maxHeartbeats 8000000 in
theorem growC_at {P : Int} {l0 : List Jb} {os : List Od} (hP : 0 ≤ P ∧ P ≤ 100) {l : List Jb} {N : List Nd} (hbd : Bd l) (ho : Ords os l.length) (h1l : 1 ≤ l.length) (hN : N.length ≤ 20000) (hlong : ¬ 20000 ≤ N.length) (hi : lateI os l = none) {a b : Nat} (hf : overF P l = some (a, b)) :
    FnM Try.prog 41 [.padr 1000000000 0, .st false (.arr JT l)] [(1000000000, .box [.lit (.int .i64 P), .st true (.arr JT l0), .st true (.arr OT os), .own 5]), (5, .row 57 NT true N)] (.tup [.lit (.int .i64 (N.length : Int)), .lit (.bool true)]) [(1000000000, .box [.lit (.int .i64 P), .st true (.arr JT l0), .st true (.arr OT os), .own 5]), (5, .row 57 NT true ((N ++ [N0]).set N.length (2, 0, (a : Int), (b : Int), 0, 0, ())))] := by
  have hll : @List.length JT.T l = l.length := rfl
  have hlN : @List.length NT.T N = N.length := rfl
  have hll2 := hbd.len
  have hix := indexB_at hbd ho
  have hixn : ixT os l = -1 := by unfold ixT; rw [hi]
  rw [hixn] at hix
  have hov := overfull_at hP hbd
  have e1 : ovA P l = a := by unfold ovA; rw [hf]
  have e2 : ovE P l = b := by unfold ovE; rw [hf]
  have e3 : ovB P l = true := by unfold ovB; rw [hf]
  rw [e1, e2, e3] at hov
  have hset0 : ((N.length : Nat) : Int).toNat < (N ++ [N0]).length := by rw [Int.toNat_natCast]; simp
  refine FnM.of_body tys_ok Try.func41 (by rfl) rfl Try.ntmps41 (by rw [Try.results41]) (by simp) ?_
  
  repeat' (first
 | refine W.seq ?_
 | refine W.block ?_
 | (refine W.resub (x := Code.region 9 _ _) (Γ' := ⟨[(0, .padr 1000000000 0), (3, .st false (.sadr (.arr JT l))), (6, .lit (.int .i64 ((N.length : Int))))], [(1000000000, .box [.lit (.int .i64 P), .st true (.arr JT l0), .st true (.arr OT os), .own 5]), (5, .row 57 NT true (N ++ [N0]))]⟩) ?_ (W.drawPh (id := 9) tys_ok [] mixed [0, 1, 2, 4, 8, 0, 48, 64, 128, 128, 128, 511, 3071, 8191] [([0, 1, 2, 3, 5], 1, 63), ([], 1, 127), ([7, 8, 9, 10, 11, 12, 13], 0, 16383)] (by decide +kernel) ?_); rotate_left; (conv => whnf))
 | (refine W.region tys_ok [] ?_; conv => whnf)
 | (refine W.drawAll tys_ok [] mixed rfl ?_; conv => whnf)
 | (refine W.ret ?_; conv => whnf)
 | (refine W.skip ?_; conv => whnf)
 | (refine W.exit ?_; conv => whnf)
 | (refine call_at (al := false) (hix) rfl rfl rfl rfl ?_; conv => whnf)
 | (refine call_at (al := false) (hov) rfl rfl rfl rfl ?_; conv => whnf)
 | (refine Both.mk ?_ ?_ <;> (conv => whnf))
 | (refine W.cond rfl (fun hb => ?_) (fun hb => ?_) <;> (try simp only [Int.reduceToNat, Int.reduceTDiv, Int.reduceTMod, minL, maxL, pickB, zHB, zSH] at hb) <;> (try (first | (cases hb; done) | exact absurd hb (by decide) | (exfalso; omega) | (omega))))
 | ((with_reducible refine And.intro ?_ ?_); (focus ((repeat' (first | (with_reducible rfl) | (with_reducible refine And.intro ?_ ?_) | omega | rfl | exact Or.inl rfl | exact Or.inr rfl | exact of_decide_eq_true rfl | exact Path.imp_of (of_decide_eq_true rfl) | (focus ((try simp only [Int.reduceToNat, Int.reduceTDiv, Int.reduceTMod, minL, maxL, pickB, zHB, zSH, InK, Path.imp, List.length_replicate, List.length_set, List.length_append, List.length_cons, List.length_nil] at *); omega)) | (refine app_le rfl ?_; omega))); done)); (conv => whnf))
 | ((with_reducible refine And.intro (Side.out ?_) ?_); rotate_left; (conv => whnf))
 | ((first | refine retM1 ?_ | refine retM2 ?_ | refine subF.leaf ?_ | refine subF.side ?_) <;> (conv => whnf) <;> repeat' (first
 | exact trivial
 | (with_reducible rfl)
 | ((with_reducible refine And.intro ?_ ?_) <;> conv => whnf)
 | omega
 | rfl
 | (refine congrArg (SV.arr _) ?_)
 | (refine congrArg (Value.int _) ?_)
 | (refine congrArg Value.bool ?_)))); all_goals (try unfold Side)
  all_goals try (repeat' (first | (with_reducible rfl) | (with_reducible refine And.intro ?_ ?_) | omega | rfl | exact Or.inl rfl | exact Or.inr rfl | exact of_decide_eq_true rfl | exact Path.imp_of (of_decide_eq_true rfl) | (focus ((try simp only [Int.reduceToNat, Int.reduceTDiv, Int.reduceTMod, minL, maxL, pickB, zHB, zSH, InK, Path.imp, List.length_replicate, List.length_set, List.length_append, List.length_cons, List.length_nil] at *); omega)) | (refine app_le rfl ?_; omega)))
  all_goals try (first | exact hset0 | exact Path.imp_of ⟨by omega, hset0⟩)
  all_goals refine subF.ok ?_ <;> (conv => whnf) <;> repeat' (first
 | exact trivial
 | (with_reducible rfl)
 | ((with_reducible refine And.intro ?_ ?_) <;> conv => whnf)
 | omega
 | rfl
 | (refine congrArg (SV.arr _) ?_)
 | (refine congrArg (Value.int _) ?_)
 | (refine congrArg Value.bool ?_))
set_option maxHeartbeats 8000000 in
theorem growD_at {P : Int} {l0 : List Jb} {os : List Od} (hP : 0 ≤ P ∧ P ≤ 100) {l : List Jb} {N : List Nd} (hbd : Bd l) (ho : Ords os l.length) (h1l : 1 ≤ l.length) (hN : N.length ≤ 20000) (hlong : ¬ 20000 ≤ N.length) (hi : lateI os l = none) (hf : overF P l = none) (hpk : pkI l l.length = -1) :
    FnM Try.prog 41 [.padr 1000000000 0, .st false (.arr JT l)] [(1000000000, .box [.lit (.int .i64 P), .st true (.arr JT l0), .st true (.arr OT os), .own 5]), (5, .row 57 NT true N)] (.tup [.lit (.int .i64 0), .lit (.bool false)]) [(1000000000, .box [.lit (.int .i64 P), .st true (.arr JT l0), .st true (.arr OT os), .own 5]), (5, .row 57 NT true (N ++ [N0]))] := by
  have hll : @List.length JT.T l = l.length := rfl
  have hlN : @List.length NT.T N = N.length := rfl
  have hll2 := hbd.len
  have hix := indexB_at hbd ho
  have hixn : ixT os l = -1 := by unfold ixT; rw [hi]
  rw [hixn] at hix
  have hov := overfull_at hP hbd
  have e1 : ovA P l = 0 := by unfold ovA; rw [hf]
  have e2 : ovE P l = 0 := by unfold ovE; rw [hf]
  have e3 : ovB P l = false := by unfold ovB; rw [hf]
  rw [e1, e2, e3] at hov
  refine FnM.of_body tys_ok Try.func41 (by rfl) rfl Try.ntmps41 (by rw [Try.results41]) (by simp) ?_
  
  repeat' (first
 | refine W.seq ?_
 | refine W.block ?_
 | (refine W.resub (x := Code.region 9 _ _) (Γ' := ⟨[(0, .padr 1000000000 0), (3, .st false (.sadr (.arr JT l))), (6, .lit (.int .i64 ((N.length : Int))))], [(1000000000, .box [.lit (.int .i64 P), .st true (.arr JT l0), .st true (.arr OT os), .own 5]), (5, .row 57 NT true (N ++ [N0]))]⟩) ?_ (W.drawPh (id := 9) tys_ok [] mixed [0, 1, 2, 4, 8, 0, 48, 64, 128, 128, 128, 511, 3071, 8191] [([0, 1, 2, 3, 5], 1, 63), ([], 1, 127), ([7, 8, 9, 10, 11, 12, 13], 0, 16383)] (by decide +kernel) ?_); rotate_left; (conv => whnf))
 | (refine W.region tys_ok [] ?_; conv => whnf)
 | (refine W.drawAll tys_ok [] mixed rfl ?_; conv => whnf)
 | (refine W.ret ?_; conv => whnf)
 | (refine W.skip ?_; conv => whnf)
 | (refine W.exit ?_; conv => whnf)
 | (refine call_at (al := false) (hix) rfl rfl rfl rfl ?_; conv => whnf)
 | (refine call_at (al := false) (hov) rfl rfl rfl rfl ?_; conv => whnf)
 | (refine Both.mk ?_ ?_ <;> (conv => whnf))
 | (refine W.cond rfl (fun hb => ?_) (fun hb => ?_) <;> (try simp only [Int.reduceToNat, Int.reduceTDiv, Int.reduceTMod, minL, maxL, pickB, zHB, zSH] at hb) <;> (try (first | (cases hb; done) | exact absurd hb (by decide) | (exfalso; omega) | (omega))))
 | ((with_reducible refine And.intro ?_ ?_); (focus ((repeat' (first | (with_reducible rfl) | (with_reducible refine And.intro ?_ ?_) | omega | rfl | exact Or.inl rfl | exact Or.inr rfl | exact of_decide_eq_true rfl | exact Path.imp_of (of_decide_eq_true rfl) | (focus ((try simp only [Int.reduceToNat, Int.reduceTDiv, Int.reduceTMod, minL, maxL, pickB, zHB, zSH, InK, Path.imp, List.length_replicate, List.length_set, List.length_append, List.length_cons, List.length_nil] at *); omega)) | (refine app_le rfl ?_; omega))); done)); (conv => whnf))
 | ((with_reducible refine And.intro (Side.out ?_) ?_); rotate_left; (conv => whnf))
 | ((first | refine retM1 ?_ | refine retM2 ?_ | refine subF.leaf ?_ | refine subF.side ?_) <;> (conv => whnf) <;> repeat' (first
 | exact trivial
 | (with_reducible rfl)
 | ((with_reducible refine And.intro ?_ ?_) <;> conv => whnf)
 | omega
 | rfl
 | (refine congrArg (SV.arr _) ?_)
 | (refine congrArg (Value.int _) ?_)
 | (refine congrArg Value.bool ?_)))); all_goals (try unfold Side)
  all_goals try (repeat' (first | (with_reducible rfl) | (with_reducible refine And.intro ?_ ?_) | omega | rfl | exact Or.inl rfl | exact Or.inr rfl | exact of_decide_eq_true rfl | exact Path.imp_of (of_decide_eq_true rfl) | (focus ((try simp only [Int.reduceToNat, Int.reduceTDiv, Int.reduceTMod, minL, maxL, pickB, zHB, zSH, InK, Path.imp, List.length_replicate, List.length_set, List.length_append, List.length_cons, List.length_nil] at *); omega)) | (refine app_le rfl ?_; omega)))
  all_goals try refine subF.ok ?_ <;> (conv => whnf) <;> repeat' (first
 | exact trivial
 | (with_reducible rfl)
 | ((with_reducible refine And.intro ?_ ?_) <;> conv => whnf)
 | omega
 | rfl
 | (refine congrArg (SV.arr _) ?_)
 | (refine congrArg (Value.int _) ?_)
 | (refine congrArg Value.bool ?_))
  refine W.loop (fun i : Nat => ⟨[(0, .padr 1000000000 0), (3, .st false (.sadr (.arr JT l))), (6, .lit (.int .i64 ((N.length : Int)))), (11, .fn 56 []), (12, .lit (.int .i64 ((pkI l i)))), (78, .st false (.arr JT l)), (79, .lit (.int .i64 ((l.length : Int)))), (80, .lit (.int .i64 (i)))], [(1000000000, .box [.lit (.int .i64 P), .st true (.arr JT l0), .st true (.arr OT os), .own 5]), (5, .row 57 NT true (N ++ [N0]))]⟩) (fun i => i ≤ l.length) (fun i => l.length - i) (0) ?_ ?_
  · refine ⟨Nat.zero_le _, ?_⟩
    refine subF.ok ?_ <;> (conv => whnf) <;> repeat' (first
 | exact trivial
 | (with_reducible rfl)
 | ((with_reducible refine And.intro ?_ ?_) <;> conv => whnf)
 | omega
 | rfl
 | (refine congrArg (SV.arr _) ?_)
 | (refine congrArg (Value.int _) ?_)
 | (refine congrArg Value.bool ?_))
    all_goals exact pk_zero.symm
  · intro i hi2
    have hpr := pk_rg (l := l) (k := i)
    by_cases hil : i < l.length
    · have hri := hbd.rg i hil
      have hrj := hbd.rg (pkI l i).toNat (by omega)
      have c1 := free_at (f := (l.getD i J0).1) (t := (l.getD i J0).2.1) (n := (l.getD i J0).2.2.1) (p := (l.getD i J0).2.2.2.1) hri.1 hri.2.1 hri.2.2.1
      have c2 := free_at (f := (l.getD (pkI l i).toNat J0).1) (t := (l.getD (pkI l i).toNat J0).2.1) (n := (l.getD (pkI l i).toNat J0).2.2.1) (p := (l.getD (pkI l i).toNat J0).2.2.2.1) hrj.1 hrj.2.1 hrj.2.2.1
      have hy := pk_yes (l := l) (k := i)
      have hn := pk_no (l := l) (k := i)
      have hC : pkC l i ↔ 0 < (l.getD i J0).2.1 - (l.getD i J0).2.2.1 - (l.getD i J0).1 ∧ (pkI l i < 0 ∨ (l.getD i J0).2.1 - (l.getD i J0).2.2.1 - (l.getD i J0).1 < (l.getD (pkI l i).toNat J0).2.1 - (l.getD (pkI l i).toNat J0).2.2.1 - (l.getD (pkI l i).toNat J0).1) := Iff.rfl
      unfold jf jt jl jp at hri hrj
      rw [hC] at hy hn
      by_cases hc : 0 < (l.getD i J0).2.1 - (l.getD i J0).2.2.1 - (l.getD i J0).1 ∧ (pkI l i < 0 ∨ (l.getD i J0).2.1 - (l.getD i J0).2.2.1 - (l.getD i J0).1 < (l.getD (pkI l i).toNat J0).2.1 - (l.getD (pkI l i).toNat J0).2.2.1 - (l.getD (pkI l i).toNat J0).1)
      · have hy := hy hc
        repeat' (first
 | refine W.seq ?_
 | refine W.block ?_
 | (refine W.resub (x := Code.region 18 _ _) (Γ' := ⟨[(0, .padr 1000000000 0), (3, .st false (.sadr (.arr JT l))), (6, .lit (.int .i64 ((N.length : Int)))), (11, .fn 56 []), (12, .lit (.int .i64 ((pkI l i)))), (78, .st false (.arr JT l)), (79, .lit (.int .i64 ((l.length : Int)))), (80, .lit (.int .i64 (i))), (13, .lit (.int .i64 (i))), (14, .st true (.sadr (.agg [I64 (l.getD i J0).1, I64 (l.getD i J0).2.1, I64 (l.getD i J0).2.2.1, I64 (l.getD i J0).2.2.2.1])))], [(1000000000, .box [.lit (.int .i64 P), .st true (.arr JT l0), .st true (.arr OT os), .own 5]), (5, .row 57 NT true (N ++ [N0]))]⟩) ?_ (W.drawPh (id := 18) tys_ok [] mixed [0, 0, 3, 4, 12, 16, 48, 80, 128, 128, 896, 128, 128, 128, 12416, 16512, 35968, 66688, 131216, 262160] [([0, 1], 1, 7), ([3, 4, 5, 6, 7, 8, 9, 11, 12, 13, 14, 15], 1, 65535), ([], 1, 131071), ([17, 18, 19], 0, 1048575)] (by decide +kernel) ?_); rotate_left; (conv => whnf))
 | (refine W.region tys_ok [] ?_; conv => whnf)
 | (refine W.drawAll tys_ok [] mixed rfl ?_; conv => whnf)
 | (refine W.ret ?_; conv => whnf)
 | (refine W.skip ?_; conv => whnf)
 | (refine W.exit ?_; conv => whnf)
 | (refine call_at (al := false) (c1) rfl rfl rfl rfl ?_; conv => whnf)
 | (refine call_at (al := false) (c2) rfl rfl rfl rfl ?_; conv => whnf)
 | (refine Both.mk ?_ ?_ <;> (conv => whnf))
 | (refine W.cond rfl (fun hb => ?_) (fun hb => ?_) <;> (try simp only [Int.reduceToNat, Int.reduceTDiv, Int.reduceTMod, minL, maxL, pickB, zHB, zSH] at hb) <;> (try (first | (cases hb; done) | exact absurd hb (by decide) | (exfalso; omega) | (omega))))
 | ((with_reducible refine And.intro ?_ ?_); (focus ((repeat' (first | (with_reducible rfl) | (with_reducible refine And.intro ?_ ?_) | omega | rfl | exact Or.inl rfl | exact Or.inr rfl | exact of_decide_eq_true rfl | exact Path.imp_of (of_decide_eq_true rfl) | (focus ((try simp only [Int.reduceToNat, Int.reduceTDiv, Int.reduceTMod, minL, maxL, pickB, zHB, zSH, InK, Path.imp, List.length_replicate, List.length_set, List.length_append, List.length_cons, List.length_nil] at *); omega)) | (refine app_le rfl ?_; omega))); done)); (conv => whnf))
 | ((with_reducible refine And.intro (Side.out ?_) ?_); rotate_left; (conv => whnf))
 | ((first | refine retM1 ?_ | refine retM2 ?_ | refine subF.leaf ?_ | refine subF.side ?_) <;> (conv => whnf) <;> repeat' (first
 | exact trivial
 | (with_reducible rfl)
 | ((with_reducible refine And.intro ?_ ?_) <;> conv => whnf)
 | omega
 | rfl
 | (refine congrArg (SV.arr _) ?_)
 | (refine congrArg (Value.int _) ?_)
 | (refine congrArg Value.bool ?_)))); all_goals (try unfold Side)
        all_goals try (repeat' (first | (with_reducible rfl) | (with_reducible refine And.intro ?_ ?_) | omega | rfl | exact Or.inl rfl | exact Or.inr rfl | exact of_decide_eq_true rfl | exact Path.imp_of (of_decide_eq_true rfl) | (focus ((try simp only [Int.reduceToNat, Int.reduceTDiv, Int.reduceTMod, minL, maxL, pickB, zHB, zSH, InK, Path.imp, List.length_replicate, List.length_set, List.length_append, List.length_cons, List.length_nil] at *); omega)) | (refine app_le rfl ?_; omega)))
        all_goals try (refine ⟨i + 1, ⟨by omega, by omega⟩, ?_⟩)
        all_goals refine subF.ok ?_ <;> (conv => whnf) <;> repeat' (first
 | exact trivial
 | (with_reducible rfl)
 | ((with_reducible refine And.intro ?_ ?_) <;> conv => whnf)
 | omega
 | rfl
 | (refine congrArg (SV.arr _) ?_)
 | (refine congrArg (Value.int _) ?_)
 | (refine congrArg Value.bool ?_))
        all_goals first | exact hy.symm | rfl
      · have hn := hn hc
        repeat' (first
 | refine W.seq ?_
 | refine W.block ?_
 | (refine W.resub (x := Code.region 18 _ _) (Γ' := ⟨[(0, .padr 1000000000 0), (3, .st false (.sadr (.arr JT l))), (6, .lit (.int .i64 ((N.length : Int)))), (11, .fn 56 []), (12, .lit (.int .i64 ((pkI l i)))), (78, .st false (.arr JT l)), (79, .lit (.int .i64 ((l.length : Int)))), (80, .lit (.int .i64 (i))), (13, .lit (.int .i64 (i))), (14, .st true (.sadr (.agg [I64 (l.getD i J0).1, I64 (l.getD i J0).2.1, I64 (l.getD i J0).2.2.1, I64 (l.getD i J0).2.2.2.1])))], [(1000000000, .box [.lit (.int .i64 P), .st true (.arr JT l0), .st true (.arr OT os), .own 5]), (5, .row 57 NT true (N ++ [N0]))]⟩) ?_ (W.drawPh (id := 18) tys_ok [] mixed [0, 0, 3, 4, 12, 16, 48, 80, 128, 128, 896, 128, 128, 128, 12416, 16512, 35968, 66688, 131216, 262160] [([0, 1], 1, 7), ([3, 4, 5, 6, 7, 8, 9, 11, 12, 13, 14, 15], 1, 65535), ([], 1, 131071), ([17, 18, 19], 0, 1048575)] (by decide +kernel) ?_); rotate_left; (conv => whnf))
 | (refine W.region tys_ok [] ?_; conv => whnf)
 | (refine W.drawAll tys_ok [] mixed rfl ?_; conv => whnf)
 | (refine W.ret ?_; conv => whnf)
 | (refine W.skip ?_; conv => whnf)
 | (refine W.exit ?_; conv => whnf)
 | (refine call_at (al := false) (c1) rfl rfl rfl rfl ?_; conv => whnf)
 | (refine call_at (al := false) (c2) rfl rfl rfl rfl ?_; conv => whnf)
 | (refine Both.mk ?_ ?_ <;> (conv => whnf))
 | (refine W.cond rfl (fun hb => ?_) (fun hb => ?_) <;> (try simp only [Int.reduceToNat, Int.reduceTDiv, Int.reduceTMod, minL, maxL, pickB, zHB, zSH] at hb) <;> (try (first | (cases hb; done) | exact absurd hb (by decide) | (exfalso; omega) | (omega))))
 | ((with_reducible refine And.intro ?_ ?_); (focus ((repeat' (first | (with_reducible rfl) | (with_reducible refine And.intro ?_ ?_) | omega | rfl | exact Or.inl rfl | exact Or.inr rfl | exact of_decide_eq_true rfl | exact Path.imp_of (of_decide_eq_true rfl) | (focus ((try simp only [Int.reduceToNat, Int.reduceTDiv, Int.reduceTMod, minL, maxL, pickB, zHB, zSH, InK, Path.imp, List.length_replicate, List.length_set, List.length_append, List.length_cons, List.length_nil] at *); omega)) | (refine app_le rfl ?_; omega))); done)); (conv => whnf))
 | ((with_reducible refine And.intro (Side.out ?_) ?_); rotate_left; (conv => whnf))
 | ((first | refine retM1 ?_ | refine retM2 ?_ | refine subF.leaf ?_ | refine subF.side ?_) <;> (conv => whnf) <;> repeat' (first
 | exact trivial
 | (with_reducible rfl)
 | ((with_reducible refine And.intro ?_ ?_) <;> conv => whnf)
 | omega
 | rfl
 | (refine congrArg (SV.arr _) ?_)
 | (refine congrArg (Value.int _) ?_)
 | (refine congrArg Value.bool ?_)))); all_goals (try unfold Side)
        all_goals try (repeat' (first | (with_reducible rfl) | (with_reducible refine And.intro ?_ ?_) | omega | rfl | exact Or.inl rfl | exact Or.inr rfl | exact of_decide_eq_true rfl | exact Path.imp_of (of_decide_eq_true rfl) | (focus ((try simp only [Int.reduceToNat, Int.reduceTDiv, Int.reduceTMod, minL, maxL, pickB, zHB, zSH, InK, Path.imp, List.length_replicate, List.length_set, List.length_append, List.length_cons, List.length_nil] at *); omega)) | (refine app_le rfl ?_; omega)))
        all_goals try (refine ⟨i + 1, ⟨by omega, by omega⟩, ?_⟩)
        all_goals refine subF.ok ?_ <;> (conv => whnf) <;> repeat' (first
 | exact trivial
 | (with_reducible rfl)
 | ((with_reducible refine And.intro ?_ ?_) <;> conv => whnf)
 | omega
 | rfl
 | (refine congrArg (SV.arr _) ?_)
 | (refine congrArg (Value.int _) ?_)
 | (refine congrArg Value.bool ?_))
        all_goals first | exact hn.symm | rfl
    · have hie : l.length = i := by omega
      subst hie
      rw [hpk]
      repeat' (first
 | refine W.seq ?_
 | refine W.block ?_
 | (refine W.region tys_ok [] ?_; conv => whnf)
 | (refine W.drawAll tys_ok [] mixed rfl ?_; conv => whnf)
 | (refine W.ret ?_; conv => whnf)
 | (refine W.skip ?_; conv => whnf)
 | (refine W.exit ?_; conv => whnf)
 | (refine W.cond rfl (fun hb => ?_) (fun hb => ?_) <;> (try simp only [Int.reduceToNat, Int.reduceTDiv, Int.reduceTMod, minL, maxL, pickB, zHB, zSH] at hb) <;> (try (first | (cases hb; done) | exact absurd hb (by decide) | (exfalso; omega))))
 | ((with_reducible refine And.intro ?_ ?_); (focus ((repeat' (first | (with_reducible rfl) | (with_reducible refine And.intro ?_ ?_) | omega | rfl | exact Or.inl rfl | exact Or.inr rfl | exact of_decide_eq_true rfl | exact Path.imp_of (of_decide_eq_true rfl) | (focus ((try simp only [Int.reduceToNat, Int.reduceTDiv, Int.reduceTMod, minL, maxL, pickB, zHB, zSH, InK, Path.imp, List.length_replicate, List.length_set, List.length_append, List.length_cons, List.length_nil] at *); omega)) | (refine app_le rfl ?_; omega))); done)); (conv => whnf))
 | ((with_reducible refine And.intro (Side.out ?_) ?_); rotate_left; (conv => whnf))
 | ((first | refine retM1 ?_ | refine retM2 ?_) <;> (conv => whnf) <;> repeat' (first
 | exact trivial
 | (with_reducible rfl)
 | ((with_reducible refine And.intro ?_ ?_) <;> conv => whnf)
 | omega
 | rfl
 | (refine congrArg (SV.arr _) ?_)
 | (refine congrArg (Value.int _) ?_)
 | (refine congrArg Value.bool ?_)))); all_goals (try unfold Side)
      all_goals try (repeat' (first | (with_reducible rfl) | (with_reducible refine And.intro ?_ ?_) | omega | rfl | exact Or.inl rfl | exact Or.inr rfl | exact of_decide_eq_true rfl | exact Path.imp_of (of_decide_eq_true rfl) | (focus ((try simp only [Int.reduceToNat, Int.reduceTDiv, Int.reduceTMod, minL, maxL, pickB, zHB, zSH, InK, Path.imp, List.length_replicate, List.length_set, List.length_append, List.length_cons, List.length_nil] at *); omega)) | (refine app_le rfl ?_; omega)))
set_option maxHeartbeats 8000000 in
theorem growE_at {P : Int} {l0 : List Jb} {os : List Od} (hP : 0 ≤ P ∧ P ≤ 100) {l : List Jb} {N : List Nd} (hbd : Bd l) (ho : Ords os l.length) (h1l : 1 ≤ l.length) (hN : N.length ≤ 20000) (hlong : ¬ 20000 ≤ N.length) (hi : lateI os l = none) (hf : overF P l = none) {j : Nat} (hj : j < l.length) (hfree : 0 < frT l j) (hpk : pkI l l.length = (j : Int)) {L R : List Jb} (hL : L = partL l j (midT l j)) (hR : R = partR l j (midT l j)) {N2 N3 : List Nd}
    (cL : FnM Try.prog 41 [.padr 1000000000 0, .st false (.arr JT L)] [(1000000000, .box [.lit (.int .i64 P), .st true (.arr JT l0), .st true (.arr OT os), .own 5]), (5, .row 57 NT true (N ++ [N0]))] (.tup [.lit (.int .i64 0), .lit (.bool false)]) [(1000000000, .box [.lit (.int .i64 P), .st true (.arr JT l0), .st true (.arr OT os), .own 5]), (5, .row 57 NT true N2)]) :
    FnM Try.prog 41 [.padr 1000000000 0, .st false (.arr JT l)] [(1000000000, .box [.lit (.int .i64 P), .st true (.arr JT l0), .st true (.arr OT os), .own 5]), (5, .row 57 NT true N)] (.tup [.lit (.int .i64 0), .lit (.bool false)]) [(1000000000, .box [.lit (.int .i64 P), .st true (.arr JT l0), .st true (.arr OT os), .own 5]), (5, .row 57 NT true N2)] := by
  have hll : @List.length JT.T l = l.length := rfl
  have hlN : @List.length NT.T N = N.length := rfl
  have hll2 := hbd.len
  have hix := indexB_at hbd ho
  have hixn : ixT os l = -1 := by unfold ixT; rw [hi]
  rw [hixn] at hix
  have hov := overfull_at hP hbd
  have e1 : ovA P l = 0 := by unfold ovA; rw [hf]
  have e2 : ovE P l = 0 := by unfold ovE; rw [hf]
  have e3 : ovB P l = false := by unfold ovB; rw [hf]
  rw [e1, e2, e3] at hov
  refine FnM.of_body tys_ok Try.func41 (by rfl) rfl Try.ntmps41 (by rw [Try.results41]) (by simp) ?_
  
  repeat' (first
 | refine W.seq ?_
 | refine W.block ?_
 | (refine W.resub (x := Code.region 9 _ _) (Γ' := ⟨[(0, .padr 1000000000 0), (3, .st false (.sadr (.arr JT l))), (6, .lit (.int .i64 ((N.length : Int))))], [(1000000000, .box [.lit (.int .i64 P), .st true (.arr JT l0), .st true (.arr OT os), .own 5]), (5, .row 57 NT true (N ++ [N0]))]⟩) ?_ (W.drawPh (id := 9) tys_ok [] mixed [0, 1, 2, 4, 8, 0, 48, 64, 128, 128, 128, 511, 3071, 8191] [([0, 1, 2, 3, 5], 1, 63), ([], 1, 127), ([7, 8, 9, 10, 11, 12, 13], 0, 16383)] (by decide +kernel) ?_); rotate_left; (conv => whnf))
 | (refine W.region tys_ok [] ?_; conv => whnf)
 | (refine W.drawAll tys_ok [] mixed rfl ?_; conv => whnf)
 | (refine W.ret ?_; conv => whnf)
 | (refine W.skip ?_; conv => whnf)
 | (refine W.exit ?_; conv => whnf)
 | (refine call_at (al := false) (hix) rfl rfl rfl rfl ?_; conv => whnf)
 | (refine call_at (al := false) (hov) rfl rfl rfl rfl ?_; conv => whnf)
 | (refine Both.mk ?_ ?_ <;> (conv => whnf))
 | (refine W.cond rfl (fun hb => ?_) (fun hb => ?_) <;> (try simp only [Int.reduceToNat, Int.reduceTDiv, Int.reduceTMod, minL, maxL, pickB, zHB, zSH] at hb) <;> (try (first | (cases hb; done) | exact absurd hb (by decide) | (exfalso; omega) | (omega))))
 | ((with_reducible refine And.intro ?_ ?_); (focus ((repeat' (first | (with_reducible rfl) | (with_reducible refine And.intro ?_ ?_) | omega | rfl | exact Or.inl rfl | exact Or.inr rfl | exact of_decide_eq_true rfl | exact Path.imp_of (of_decide_eq_true rfl) | (focus ((try simp only [Int.reduceToNat, Int.reduceTDiv, Int.reduceTMod, minL, maxL, pickB, zHB, zSH, InK, Path.imp, List.length_replicate, List.length_set, List.length_append, List.length_cons, List.length_nil] at *); omega)) | (refine app_le rfl ?_; omega))); done)); (conv => whnf))
 | ((with_reducible refine And.intro (Side.out ?_) ?_); rotate_left; (conv => whnf))
 | ((first | refine retM1 ?_ | refine retM2 ?_ | refine subF.leaf ?_ | refine subF.side ?_) <;> (conv => whnf) <;> repeat' (first
 | exact trivial
 | (with_reducible rfl)
 | ((with_reducible refine And.intro ?_ ?_) <;> conv => whnf)
 | omega
 | rfl
 | (refine congrArg (SV.arr _) ?_)
 | (refine congrArg (Value.int _) ?_)
 | (refine congrArg Value.bool ?_)))); all_goals (try unfold Side)
  all_goals try (repeat' (first | (with_reducible rfl) | (with_reducible refine And.intro ?_ ?_) | omega | rfl | exact Or.inl rfl | exact Or.inr rfl | exact of_decide_eq_true rfl | exact Path.imp_of (of_decide_eq_true rfl) | (focus ((try simp only [Int.reduceToNat, Int.reduceTDiv, Int.reduceTMod, minL, maxL, pickB, zHB, zSH, InK, Path.imp, List.length_replicate, List.length_set, List.length_append, List.length_cons, List.length_nil] at *); omega)) | (refine app_le rfl ?_; omega)))
  all_goals try refine subF.ok ?_ <;> (conv => whnf) <;> repeat' (first
 | exact trivial
 | (with_reducible rfl)
 | ((with_reducible refine And.intro ?_ ?_) <;> conv => whnf)
 | omega
 | rfl
 | (refine congrArg (SV.arr _) ?_)
 | (refine congrArg (Value.int _) ?_)
 | (refine congrArg Value.bool ?_))
  refine W.loop (fun i : Nat => ⟨[(0, .padr 1000000000 0), (3, .st false (.sadr (.arr JT l))), (6, .lit (.int .i64 ((N.length : Int)))), (11, .fn 56 []), (12, .lit (.int .i64 ((pkI l i)))), (78, .st false (.arr JT l)), (79, .lit (.int .i64 ((l.length : Int)))), (80, .lit (.int .i64 (i)))], [(1000000000, .box [.lit (.int .i64 P), .st true (.arr JT l0), .st true (.arr OT os), .own 5]), (5, .row 57 NT true (N ++ [N0]))]⟩) (fun i => i ≤ l.length) (fun i => l.length - i) (0) ?_ ?_
  · refine ⟨Nat.zero_le _, ?_⟩
    refine subF.ok ?_ <;> (conv => whnf) <;> repeat' (first
 | exact trivial
 | (with_reducible rfl)
 | ((with_reducible refine And.intro ?_ ?_) <;> conv => whnf)
 | omega
 | rfl
 | (refine congrArg (SV.arr _) ?_)
 | (refine congrArg (Value.int _) ?_)
 | (refine congrArg Value.bool ?_))
    all_goals exact pk_zero.symm
  · intro i hi2
    have hpr := pk_rg (l := l) (k := i)
    by_cases hil : i < l.length
    · have hri := hbd.rg i hil
      have hrj := hbd.rg (pkI l i).toNat (by omega)
      have c1 := free_at (f := (l.getD i J0).1) (t := (l.getD i J0).2.1) (n := (l.getD i J0).2.2.1) (p := (l.getD i J0).2.2.2.1) hri.1 hri.2.1 hri.2.2.1
      have c2 := free_at (f := (l.getD (pkI l i).toNat J0).1) (t := (l.getD (pkI l i).toNat J0).2.1) (n := (l.getD (pkI l i).toNat J0).2.2.1) (p := (l.getD (pkI l i).toNat J0).2.2.2.1) hrj.1 hrj.2.1 hrj.2.2.1
      have hy := pk_yes (l := l) (k := i)
      have hn := pk_no (l := l) (k := i)
      have hC : pkC l i ↔ 0 < (l.getD i J0).2.1 - (l.getD i J0).2.2.1 - (l.getD i J0).1 ∧ (pkI l i < 0 ∨ (l.getD i J0).2.1 - (l.getD i J0).2.2.1 - (l.getD i J0).1 < (l.getD (pkI l i).toNat J0).2.1 - (l.getD (pkI l i).toNat J0).2.2.1 - (l.getD (pkI l i).toNat J0).1) := Iff.rfl
      unfold jf jt jl jp at hri hrj
      rw [hC] at hy hn
      by_cases hc : 0 < (l.getD i J0).2.1 - (l.getD i J0).2.2.1 - (l.getD i J0).1 ∧ (pkI l i < 0 ∨ (l.getD i J0).2.1 - (l.getD i J0).2.2.1 - (l.getD i J0).1 < (l.getD (pkI l i).toNat J0).2.1 - (l.getD (pkI l i).toNat J0).2.2.1 - (l.getD (pkI l i).toNat J0).1)
      · have hy := hy hc
        repeat' (first
 | refine W.seq ?_
 | refine W.block ?_
 | (refine W.resub (x := Code.region 18 _ _) (Γ' := ⟨[(0, .padr 1000000000 0), (3, .st false (.sadr (.arr JT l))), (6, .lit (.int .i64 ((N.length : Int)))), (11, .fn 56 []), (12, .lit (.int .i64 ((pkI l i)))), (78, .st false (.arr JT l)), (79, .lit (.int .i64 ((l.length : Int)))), (80, .lit (.int .i64 (i))), (13, .lit (.int .i64 (i))), (14, .st true (.sadr (.agg [I64 (l.getD i J0).1, I64 (l.getD i J0).2.1, I64 (l.getD i J0).2.2.1, I64 (l.getD i J0).2.2.2.1])))], [(1000000000, .box [.lit (.int .i64 P), .st true (.arr JT l0), .st true (.arr OT os), .own 5]), (5, .row 57 NT true (N ++ [N0]))]⟩) ?_ (W.drawPh (id := 18) tys_ok [] mixed [0, 0, 3, 4, 12, 16, 48, 80, 128, 128, 896, 128, 128, 128, 12416, 16512, 35968, 66688, 131216, 262160] [([0, 1], 1, 7), ([3, 4, 5, 6, 7, 8, 9, 11, 12, 13, 14, 15], 1, 65535), ([], 1, 131071), ([17, 18, 19], 0, 1048575)] (by decide +kernel) ?_); rotate_left; (conv => whnf))
 | (refine W.region tys_ok [] ?_; conv => whnf)
 | (refine W.drawAll tys_ok [] mixed rfl ?_; conv => whnf)
 | (refine W.ret ?_; conv => whnf)
 | (refine W.skip ?_; conv => whnf)
 | (refine W.exit ?_; conv => whnf)
 | (refine call_at (al := false) (c1) rfl rfl rfl rfl ?_; conv => whnf)
 | (refine call_at (al := false) (c2) rfl rfl rfl rfl ?_; conv => whnf)
 | (refine Both.mk ?_ ?_ <;> (conv => whnf))
 | (refine W.cond rfl (fun hb => ?_) (fun hb => ?_) <;> (try simp only [Int.reduceToNat, Int.reduceTDiv, Int.reduceTMod, minL, maxL, pickB, zHB, zSH] at hb) <;> (try (first | (cases hb; done) | exact absurd hb (by decide) | (exfalso; omega) | (omega))))
 | ((with_reducible refine And.intro ?_ ?_); (focus ((repeat' (first | (with_reducible rfl) | (with_reducible refine And.intro ?_ ?_) | omega | rfl | exact Or.inl rfl | exact Or.inr rfl | exact of_decide_eq_true rfl | exact Path.imp_of (of_decide_eq_true rfl) | (focus ((try simp only [Int.reduceToNat, Int.reduceTDiv, Int.reduceTMod, minL, maxL, pickB, zHB, zSH, InK, Path.imp, List.length_replicate, List.length_set, List.length_append, List.length_cons, List.length_nil] at *); omega)) | (refine app_le rfl ?_; omega))); done)); (conv => whnf))
 | ((with_reducible refine And.intro (Side.out ?_) ?_); rotate_left; (conv => whnf))
 | ((first | refine retM1 ?_ | refine retM2 ?_ | refine subF.leaf ?_ | refine subF.side ?_) <;> (conv => whnf) <;> repeat' (first
 | exact trivial
 | (with_reducible rfl)
 | ((with_reducible refine And.intro ?_ ?_) <;> conv => whnf)
 | omega
 | rfl
 | (refine congrArg (SV.arr _) ?_)
 | (refine congrArg (Value.int _) ?_)
 | (refine congrArg Value.bool ?_)))); all_goals (try unfold Side)
        all_goals try (repeat' (first | (with_reducible rfl) | (with_reducible refine And.intro ?_ ?_) | omega | rfl | exact Or.inl rfl | exact Or.inr rfl | exact of_decide_eq_true rfl | exact Path.imp_of (of_decide_eq_true rfl) | (focus ((try simp only [Int.reduceToNat, Int.reduceTDiv, Int.reduceTMod, minL, maxL, pickB, zHB, zSH, InK, Path.imp, List.length_replicate, List.length_set, List.length_append, List.length_cons, List.length_nil] at *); omega)) | (refine app_le rfl ?_; omega)))
        all_goals try (refine ⟨i + 1, ⟨by omega, by omega⟩, ?_⟩)
        all_goals refine subF.ok ?_ <;> (conv => whnf) <;> repeat' (first
 | exact trivial
 | (with_reducible rfl)
 | ((with_reducible refine And.intro ?_ ?_) <;> conv => whnf)
 | omega
 | rfl
 | (refine congrArg (SV.arr _) ?_)
 | (refine congrArg (Value.int _) ?_)
 | (refine congrArg Value.bool ?_))
        all_goals first | exact hy.symm | rfl
      · have hn := hn hc
        repeat' (first
 | refine W.seq ?_
 | refine W.block ?_
 | (refine W.resub (x := Code.region 18 _ _) (Γ' := ⟨[(0, .padr 1000000000 0), (3, .st false (.sadr (.arr JT l))), (6, .lit (.int .i64 ((N.length : Int)))), (11, .fn 56 []), (12, .lit (.int .i64 ((pkI l i)))), (78, .st false (.arr JT l)), (79, .lit (.int .i64 ((l.length : Int)))), (80, .lit (.int .i64 (i))), (13, .lit (.int .i64 (i))), (14, .st true (.sadr (.agg [I64 (l.getD i J0).1, I64 (l.getD i J0).2.1, I64 (l.getD i J0).2.2.1, I64 (l.getD i J0).2.2.2.1])))], [(1000000000, .box [.lit (.int .i64 P), .st true (.arr JT l0), .st true (.arr OT os), .own 5]), (5, .row 57 NT true (N ++ [N0]))]⟩) ?_ (W.drawPh (id := 18) tys_ok [] mixed [0, 0, 3, 4, 12, 16, 48, 80, 128, 128, 896, 128, 128, 128, 12416, 16512, 35968, 66688, 131216, 262160] [([0, 1], 1, 7), ([3, 4, 5, 6, 7, 8, 9, 11, 12, 13, 14, 15], 1, 65535), ([], 1, 131071), ([17, 18, 19], 0, 1048575)] (by decide +kernel) ?_); rotate_left; (conv => whnf))
 | (refine W.region tys_ok [] ?_; conv => whnf)
 | (refine W.drawAll tys_ok [] mixed rfl ?_; conv => whnf)
 | (refine W.ret ?_; conv => whnf)
 | (refine W.skip ?_; conv => whnf)
 | (refine W.exit ?_; conv => whnf)
 | (refine call_at (al := false) (c1) rfl rfl rfl rfl ?_; conv => whnf)
 | (refine call_at (al := false) (c2) rfl rfl rfl rfl ?_; conv => whnf)
 | (refine Both.mk ?_ ?_ <;> (conv => whnf))
 | (refine W.cond rfl (fun hb => ?_) (fun hb => ?_) <;> (try simp only [Int.reduceToNat, Int.reduceTDiv, Int.reduceTMod, minL, maxL, pickB, zHB, zSH] at hb) <;> (try (first | (cases hb; done) | exact absurd hb (by decide) | (exfalso; omega) | (omega))))
 | ((with_reducible refine And.intro ?_ ?_); (focus ((repeat' (first | (with_reducible rfl) | (with_reducible refine And.intro ?_ ?_) | omega | rfl | exact Or.inl rfl | exact Or.inr rfl | exact of_decide_eq_true rfl | exact Path.imp_of (of_decide_eq_true rfl) | (focus ((try simp only [Int.reduceToNat, Int.reduceTDiv, Int.reduceTMod, minL, maxL, pickB, zHB, zSH, InK, Path.imp, List.length_replicate, List.length_set, List.length_append, List.length_cons, List.length_nil] at *); omega)) | (refine app_le rfl ?_; omega))); done)); (conv => whnf))
 | ((with_reducible refine And.intro (Side.out ?_) ?_); rotate_left; (conv => whnf))
 | ((first | refine retM1 ?_ | refine retM2 ?_ | refine subF.leaf ?_ | refine subF.side ?_) <;> (conv => whnf) <;> repeat' (first
 | exact trivial
 | (with_reducible rfl)
 | ((with_reducible refine And.intro ?_ ?_) <;> conv => whnf)
 | omega
 | rfl
 | (refine congrArg (SV.arr _) ?_)
 | (refine congrArg (Value.int _) ?_)
 | (refine congrArg Value.bool ?_)))); all_goals (try unfold Side)
        all_goals try (repeat' (first | (with_reducible rfl) | (with_reducible refine And.intro ?_ ?_) | omega | rfl | exact Or.inl rfl | exact Or.inr rfl | exact of_decide_eq_true rfl | exact Path.imp_of (of_decide_eq_true rfl) | (focus ((try simp only [Int.reduceToNat, Int.reduceTDiv, Int.reduceTMod, minL, maxL, pickB, zHB, zSH, InK, Path.imp, List.length_replicate, List.length_set, List.length_append, List.length_cons, List.length_nil] at *); omega)) | (refine app_le rfl ?_; omega)))
        all_goals try (refine ⟨i + 1, ⟨by omega, by omega⟩, ?_⟩)
        all_goals refine subF.ok ?_ <;> (conv => whnf) <;> repeat' (first
 | exact trivial
 | (with_reducible rfl)
 | ((with_reducible refine And.intro ?_ ?_) <;> conv => whnf)
 | omega
 | rfl
 | (refine congrArg (SV.arr _) ?_)
 | (refine congrArg (Value.int _) ?_)
 | (refine congrArg Value.bool ?_))
        all_goals first | exact hn.symm | rfl
    · have hie : l.length = i := by omega
      subst hie
      rw [hpk]
      have hfr : 0 < (l.getD j J0).2.1 - (l.getD j J0).2.2.1 - (l.getD j J0).1 := hfree
      have hrj := hbd.rg j hj
      unfold jf jt jl jp at hrj
      have c3 := free_at (f := (l.getD j J0).1) (t := (l.getD j J0).2.1) (n := (l.getD j J0).2.2.1) (p := (l.getD j J0).2.2.2.1) hrj.1 hrj.2.1 hrj.2.2.1
      have hmid : ((l.getD j J0).1 + Int.tdiv ((l.getD j J0).2.1 - (l.getD j J0).2.2.1 - (l.getD j J0).1 - 1) 2) = midT l j := by
        rw [Int.tdiv_eq_ediv_of_nonneg (by omega)]; rfl
      have hmr := mid_rg hfree
      unfold jf jt jl at hmr
      have hpt : FnAt Try.prog false 57 [.arr JT l, I64 (j : Int), I64 ((l.getD j J0).1 + Int.tdiv ((l.getD j J0).2.1 - (l.getD j J0).2.2.1 - (l.getD j J0).1 - 1) 2)] (.tup [.own 0, .own 1]) [(0, .row 45 JT true L), (1, .row 45 JT true R)] := by
        have h := parted_at hbd (j := (j : Int)) (a := ((l.getD j J0).1 + Int.tdiv ((l.getD j J0).2.1 - (l.getD j J0).2.2.1 - (l.getD j J0).1 - 1) 2)) (by omega) (by rw [hmid]; omega)
        rw [hmid, Int.toNat_natCast] at h
        rw [hmid, hL, hR]
        exact h
      repeat' (first
 | refine W.seq ?_
 | refine W.block ?_
 | (refine W.drawPh (id := 23) tys_ok [] mixed [0, 0, 3, 4, 8, 0, 0, 0, 192, 256, 544, 1024, 2048, 4112, 16383] [([0, 1, 2, 3, 4, 5, 6, 7, 8, 9], 1, 2047), ([11, 12, 13, 14], 0, 32767)] (by decide +kernel) ?_; conv => whnf)
 | (refine W.resub (x := Code.region 25 _ _) (Γ' := ⟨[(0, .padr 1000000000 0), (6, .lit (.int .i64 ((N.length : Int)))), (12, .lit (.int .i64 ((j : Int)))), (15, .lit (.int .i64 ((midT l j)))), (16, .st true (.arr JT L)), (17, .st true (.arr JT R))], [(1000000000, .box [.lit (.int .i64 P), .st true (.arr JT l0), .st true (.arr OT os), .own 5]), (5, .row 57 NT true (N ++ [N0]))]⟩) ?_ (W.regionM tys_ok [] [2] ?_); rotate_left; (conv => whnf))
 | (refine W.region tys_ok [] ?_; conv => whnf)
 | (refine W.drawAll tys_ok [] mixed rfl ?_; conv => whnf)
 | (refine W.ret ?_; conv => whnf)
 | (refine W.skip ?_; conv => whnf)
 | (refine W.exit ?_; conv => whnf)
 | (refine call_at (al := false) (c3) rfl rfl rfl rfl ?_; conv => whnf)
 | (refine call_at (al := false) (hpt) rfl rfl rfl rfl ?_; conv => whnf)
 | (refine callM_at (cL) ?_; conv => whnf)
 | (refine Both.mk ?_ ?_ <;> (conv => whnf))
 | (refine W.cond rfl (fun hb => ?_) (fun hb => ?_) <;> (try simp only [Int.reduceToNat, Int.reduceTDiv, Int.reduceTMod, minL, maxL, pickB, zHB, zSH] at hb) <;> (try (first | (cases hb; done) | exact absurd hb (by decide) | (exfalso; omega))))
 | (refine Or.inl (And.intro ?_ ?_); (focus (first | exact trivial | exact ⟨rfl, trivial⟩ | (refine ⟨?_, trivial⟩; dsimp only; simp only [Int.reduceToNat, Int.reduceTDiv, Int.reduceTMod, minL, maxL, pickB, zHB, zSH]; omega))); (conv => whnf))
 | (refine Or.inr (And.intro ?_ ?_); (focus (intro h; have h := h.1; dsimp only at h; first | (exact Bool.noConfusion h) | (simp only [Int.reduceToNat, Int.reduceTDiv, Int.reduceTMod, minL, maxL, pickB, zHB, zSH] at h; omega))); (conv => whnf))
 | ((with_reducible refine And.intro ?_ ?_); (focus ((repeat' (first | (with_reducible rfl) | (with_reducible refine And.intro ?_ ?_) | omega | rfl | exact Or.inl rfl | exact Or.inr rfl | exact of_decide_eq_true rfl | exact Path.imp_of (of_decide_eq_true rfl) | (focus ((try simp only [Int.reduceToNat, Int.reduceTDiv, Int.reduceTMod, minL, maxL, pickB, zHB, zSH, InK, Path.imp, List.length_replicate, List.length_set, List.length_append, List.length_cons, List.length_nil] at *); omega)) | (refine app_le rfl ?_; omega))); done)); (conv => whnf))
 | ((with_reducible refine And.intro (Side.out ?_) ?_); rotate_left; (conv => whnf))
 | ((first | refine retM1 ?_ | refine retM2 ?_ | refine subF.leaf ?_ | refine subF.side ?_) <;> (conv => whnf) <;> repeat' (first
 | exact trivial
 | (with_reducible rfl)
 | ((with_reducible refine And.intro ?_ ?_) <;> conv => whnf)
 | omega
 | rfl
 | (refine congrArg (SV.arr _) ?_)
 | (refine congrArg (Value.int _) ?_)
 | (refine congrArg Value.bool ?_)))); all_goals (try unfold Side)
      all_goals try (repeat' (first | (with_reducible rfl) | (with_reducible refine And.intro ?_ ?_) | omega | rfl | exact Or.inl rfl | exact Or.inr rfl | exact of_decide_eq_true rfl | exact Path.imp_of (of_decide_eq_true rfl) | (focus ((try simp only [Int.reduceToNat, Int.reduceTDiv, Int.reduceTMod, minL, maxL, pickB, zHB, zSH, InK, Path.imp, List.length_replicate, List.length_set, List.length_append, List.length_cons, List.length_nil] at *); omega)) | (refine app_le rfl ?_; omega)))
      all_goals try exact hmid
      all_goals refine subF.ok ?_ <;> (conv => whnf) <;> repeat' (first
 | exact trivial
 | (with_reducible rfl)
 | ((with_reducible refine And.intro ?_ ?_) <;> conv => whnf)
 | omega
 | rfl
 | (refine congrArg (SV.arr _) ?_)
 | (refine congrArg (Value.int _) ?_)
 | (refine congrArg Value.bool ?_))
      all_goals exact hmid
set_option maxHeartbeats 8000000 in
theorem growF_at {P : Int} {l0 : List Jb} {os : List Od} (hP : 0 ≤ P ∧ P ≤ 100) {l : List Jb} {N : List Nd} (hbd : Bd l) (ho : Ords os l.length) (h1l : 1 ≤ l.length) (hN : N.length ≤ 20000) (hlong : ¬ 20000 ≤ N.length) (hi : lateI os l = none) (hf : overF P l = none) {j : Nat} (hj : j < l.length) (hfree : 0 < frT l j) (hpk : pkI l l.length = (j : Int)) {L R : List Jb} (hL : L = partL l j (midT l j)) (hR : R = partR l j (midT l j)) {N2 N3 : List Nd} (hN2 : N2.length ≤ 20000)
    (cL : FnM Try.prog 41 [.padr 1000000000 0, .st false (.arr JT L)] [(1000000000, .box [.lit (.int .i64 P), .st true (.arr JT l0), .st true (.arr OT os), .own 5]), (5, .row 57 NT true (N ++ [N0]))] (.tup [.lit (.int .i64 ((N.length : Int) + 1)), .lit (.bool true)]) [(1000000000, .box [.lit (.int .i64 P), .st true (.arr JT l0), .st true (.arr OT os), .own 5]), (5, .row 57 NT true N2)])
    (cR : FnM Try.prog 41 [.padr 1000000000 0, .st false (.arr JT R)] [(1000000000, .box [.lit (.int .i64 P), .st true (.arr JT l0), .st true (.arr OT os), .own 5]), (5, .row 57 NT true N2)] (.tup [.lit (.int .i64 0), .lit (.bool false)]) [(1000000000, .box [.lit (.int .i64 P), .st true (.arr JT l0), .st true (.arr OT os), .own 5]), (5, .row 57 NT true N3)]) :
    FnM Try.prog 41 [.padr 1000000000 0, .st false (.arr JT l)] [(1000000000, .box [.lit (.int .i64 P), .st true (.arr JT l0), .st true (.arr OT os), .own 5]), (5, .row 57 NT true N)] (.tup [.lit (.int .i64 0), .lit (.bool false)]) [(1000000000, .box [.lit (.int .i64 P), .st true (.arr JT l0), .st true (.arr OT os), .own 5]), (5, .row 57 NT true N3)] := by
  have hll : @List.length JT.T l = l.length := rfl
  have hlN : @List.length NT.T N = N.length := rfl
  have hll2 := hbd.len
  have hix := indexB_at hbd ho
  have hixn : ixT os l = -1 := by unfold ixT; rw [hi]
  rw [hixn] at hix
  have hov := overfull_at hP hbd
  have e1 : ovA P l = 0 := by unfold ovA; rw [hf]
  have e2 : ovE P l = 0 := by unfold ovE; rw [hf]
  have e3 : ovB P l = false := by unfold ovB; rw [hf]
  rw [e1, e2, e3] at hov
  refine FnM.of_body tys_ok Try.func41 (by rfl) rfl Try.ntmps41 (by rw [Try.results41]) (by simp) ?_
  
  repeat' (first
 | refine W.seq ?_
 | refine W.block ?_
 | (refine W.resub (x := Code.region 9 _ _) (Γ' := ⟨[(0, .padr 1000000000 0), (3, .st false (.sadr (.arr JT l))), (6, .lit (.int .i64 ((N.length : Int))))], [(1000000000, .box [.lit (.int .i64 P), .st true (.arr JT l0), .st true (.arr OT os), .own 5]), (5, .row 57 NT true (N ++ [N0]))]⟩) ?_ (W.drawPh (id := 9) tys_ok [] mixed [0, 1, 2, 4, 8, 0, 48, 64, 128, 128, 128, 511, 3071, 8191] [([0, 1, 2, 3, 5], 1, 63), ([], 1, 127), ([7, 8, 9, 10, 11, 12, 13], 0, 16383)] (by decide +kernel) ?_); rotate_left; (conv => whnf))
 | (refine W.region tys_ok [] ?_; conv => whnf)
 | (refine W.drawAll tys_ok [] mixed rfl ?_; conv => whnf)
 | (refine W.ret ?_; conv => whnf)
 | (refine W.skip ?_; conv => whnf)
 | (refine W.exit ?_; conv => whnf)
 | (refine call_at (al := false) (hix) rfl rfl rfl rfl ?_; conv => whnf)
 | (refine call_at (al := false) (hov) rfl rfl rfl rfl ?_; conv => whnf)
 | (refine Both.mk ?_ ?_ <;> (conv => whnf))
 | (refine W.cond rfl (fun hb => ?_) (fun hb => ?_) <;> (try simp only [Int.reduceToNat, Int.reduceTDiv, Int.reduceTMod, minL, maxL, pickB, zHB, zSH] at hb) <;> (try (first | (cases hb; done) | exact absurd hb (by decide) | (exfalso; omega) | (omega))))
 | ((with_reducible refine And.intro ?_ ?_); (focus ((repeat' (first | (with_reducible rfl) | (with_reducible refine And.intro ?_ ?_) | omega | rfl | exact Or.inl rfl | exact Or.inr rfl | exact of_decide_eq_true rfl | exact Path.imp_of (of_decide_eq_true rfl) | (focus ((try simp only [Int.reduceToNat, Int.reduceTDiv, Int.reduceTMod, minL, maxL, pickB, zHB, zSH, InK, Path.imp, List.length_replicate, List.length_set, List.length_append, List.length_cons, List.length_nil] at *); omega)) | (refine app_le rfl ?_; omega))); done)); (conv => whnf))
 | ((with_reducible refine And.intro (Side.out ?_) ?_); rotate_left; (conv => whnf))
 | ((first | refine retM1 ?_ | refine retM2 ?_ | refine subF.leaf ?_ | refine subF.side ?_) <;> (conv => whnf) <;> repeat' (first
 | exact trivial
 | (with_reducible rfl)
 | ((with_reducible refine And.intro ?_ ?_) <;> conv => whnf)
 | omega
 | rfl
 | (refine congrArg (SV.arr _) ?_)
 | (refine congrArg (Value.int _) ?_)
 | (refine congrArg Value.bool ?_)))); all_goals (try unfold Side)
  all_goals try (repeat' (first | (with_reducible rfl) | (with_reducible refine And.intro ?_ ?_) | omega | rfl | exact Or.inl rfl | exact Or.inr rfl | exact of_decide_eq_true rfl | exact Path.imp_of (of_decide_eq_true rfl) | (focus ((try simp only [Int.reduceToNat, Int.reduceTDiv, Int.reduceTMod, minL, maxL, pickB, zHB, zSH, InK, Path.imp, List.length_replicate, List.length_set, List.length_append, List.length_cons, List.length_nil] at *); omega)) | (refine app_le rfl ?_; omega)))
  all_goals try refine subF.ok ?_ <;> (conv => whnf) <;> repeat' (first
 | exact trivial
 | (with_reducible rfl)
 | ((with_reducible refine And.intro ?_ ?_) <;> conv => whnf)
 | omega
 | rfl
 | (refine congrArg (SV.arr _) ?_)
 | (refine congrArg (Value.int _) ?_)
 | (refine congrArg Value.bool ?_))
  refine W.loop (fun i : Nat => ⟨[(0, .padr 1000000000 0), (3, .st false (.sadr (.arr JT l))), (6, .lit (.int .i64 ((N.length : Int)))), (11, .fn 56 []), (12, .lit (.int .i64 ((pkI l i)))), (78, .st false (.arr JT l)), (79, .lit (.int .i64 ((l.length : Int)))), (80, .lit (.int .i64 (i)))], [(1000000000, .box [.lit (.int .i64 P), .st true (.arr JT l0), .st true (.arr OT os), .own 5]), (5, .row 57 NT true (N ++ [N0]))]⟩) (fun i => i ≤ l.length) (fun i => l.length - i) (0) ?_ ?_
  · refine ⟨Nat.zero_le _, ?_⟩
    refine subF.ok ?_ <;> (conv => whnf) <;> repeat' (first
 | exact trivial
 | (with_reducible rfl)
 | ((with_reducible refine And.intro ?_ ?_) <;> conv => whnf)
 | omega
 | rfl
 | (refine congrArg (SV.arr _) ?_)
 | (refine congrArg (Value.int _) ?_)
 | (refine congrArg Value.bool ?_))
    all_goals exact pk_zero.symm
  · intro i hi2
    have hpr := pk_rg (l := l) (k := i)
    by_cases hil : i < l.length
    · have hri := hbd.rg i hil
      have hrj := hbd.rg (pkI l i).toNat (by omega)
      have c1 := free_at (f := (l.getD i J0).1) (t := (l.getD i J0).2.1) (n := (l.getD i J0).2.2.1) (p := (l.getD i J0).2.2.2.1) hri.1 hri.2.1 hri.2.2.1
      have c2 := free_at (f := (l.getD (pkI l i).toNat J0).1) (t := (l.getD (pkI l i).toNat J0).2.1) (n := (l.getD (pkI l i).toNat J0).2.2.1) (p := (l.getD (pkI l i).toNat J0).2.2.2.1) hrj.1 hrj.2.1 hrj.2.2.1
      have hy := pk_yes (l := l) (k := i)
      have hn := pk_no (l := l) (k := i)
      have hC : pkC l i ↔ 0 < (l.getD i J0).2.1 - (l.getD i J0).2.2.1 - (l.getD i J0).1 ∧ (pkI l i < 0 ∨ (l.getD i J0).2.1 - (l.getD i J0).2.2.1 - (l.getD i J0).1 < (l.getD (pkI l i).toNat J0).2.1 - (l.getD (pkI l i).toNat J0).2.2.1 - (l.getD (pkI l i).toNat J0).1) := Iff.rfl
      unfold jf jt jl jp at hri hrj
      rw [hC] at hy hn
      by_cases hc : 0 < (l.getD i J0).2.1 - (l.getD i J0).2.2.1 - (l.getD i J0).1 ∧ (pkI l i < 0 ∨ (l.getD i J0).2.1 - (l.getD i J0).2.2.1 - (l.getD i J0).1 < (l.getD (pkI l i).toNat J0).2.1 - (l.getD (pkI l i).toNat J0).2.2.1 - (l.getD (pkI l i).toNat J0).1)
      · have hy := hy hc
        repeat' (first
 | refine W.seq ?_
 | refine W.block ?_
 | (refine W.resub (x := Code.region 18 _ _) (Γ' := ⟨[(0, .padr 1000000000 0), (3, .st false (.sadr (.arr JT l))), (6, .lit (.int .i64 ((N.length : Int)))), (11, .fn 56 []), (12, .lit (.int .i64 ((pkI l i)))), (78, .st false (.arr JT l)), (79, .lit (.int .i64 ((l.length : Int)))), (80, .lit (.int .i64 (i))), (13, .lit (.int .i64 (i))), (14, .st true (.sadr (.agg [I64 (l.getD i J0).1, I64 (l.getD i J0).2.1, I64 (l.getD i J0).2.2.1, I64 (l.getD i J0).2.2.2.1])))], [(1000000000, .box [.lit (.int .i64 P), .st true (.arr JT l0), .st true (.arr OT os), .own 5]), (5, .row 57 NT true (N ++ [N0]))]⟩) ?_ (W.drawPh (id := 18) tys_ok [] mixed [0, 0, 3, 4, 12, 16, 48, 80, 128, 128, 896, 128, 128, 128, 12416, 16512, 35968, 66688, 131216, 262160] [([0, 1], 1, 7), ([3, 4, 5, 6, 7, 8, 9, 11, 12, 13, 14, 15], 1, 65535), ([], 1, 131071), ([17, 18, 19], 0, 1048575)] (by decide +kernel) ?_); rotate_left; (conv => whnf))
 | (refine W.region tys_ok [] ?_; conv => whnf)
 | (refine W.drawAll tys_ok [] mixed rfl ?_; conv => whnf)
 | (refine W.ret ?_; conv => whnf)
 | (refine W.skip ?_; conv => whnf)
 | (refine W.exit ?_; conv => whnf)
 | (refine call_at (al := false) (c1) rfl rfl rfl rfl ?_; conv => whnf)
 | (refine call_at (al := false) (c2) rfl rfl rfl rfl ?_; conv => whnf)
 | (refine Both.mk ?_ ?_ <;> (conv => whnf))
 | (refine W.cond rfl (fun hb => ?_) (fun hb => ?_) <;> (try simp only [Int.reduceToNat, Int.reduceTDiv, Int.reduceTMod, minL, maxL, pickB, zHB, zSH] at hb) <;> (try (first | (cases hb; done) | exact absurd hb (by decide) | (exfalso; omega) | (omega))))
 | ((with_reducible refine And.intro ?_ ?_); (focus ((repeat' (first | (with_reducible rfl) | (with_reducible refine And.intro ?_ ?_) | omega | rfl | exact Or.inl rfl | exact Or.inr rfl | exact of_decide_eq_true rfl | exact Path.imp_of (of_decide_eq_true rfl) | (focus ((try simp only [Int.reduceToNat, Int.reduceTDiv, Int.reduceTMod, minL, maxL, pickB, zHB, zSH, InK, Path.imp, List.length_replicate, List.length_set, List.length_append, List.length_cons, List.length_nil] at *); omega)) | (refine app_le rfl ?_; omega))); done)); (conv => whnf))
 | ((with_reducible refine And.intro (Side.out ?_) ?_); rotate_left; (conv => whnf))
 | ((first | refine retM1 ?_ | refine retM2 ?_ | refine subF.leaf ?_ | refine subF.side ?_) <;> (conv => whnf) <;> repeat' (first
 | exact trivial
 | (with_reducible rfl)
 | ((with_reducible refine And.intro ?_ ?_) <;> conv => whnf)
 | omega
 | rfl
 | (refine congrArg (SV.arr _) ?_)
 | (refine congrArg (Value.int _) ?_)
 | (refine congrArg Value.bool ?_)))); all_goals (try unfold Side)
        all_goals try (repeat' (first | (with_reducible rfl) | (with_reducible refine And.intro ?_ ?_) | omega | rfl | exact Or.inl rfl | exact Or.inr rfl | exact of_decide_eq_true rfl | exact Path.imp_of (of_decide_eq_true rfl) | (focus ((try simp only [Int.reduceToNat, Int.reduceTDiv, Int.reduceTMod, minL, maxL, pickB, zHB, zSH, InK, Path.imp, List.length_replicate, List.length_set, List.length_append, List.length_cons, List.length_nil] at *); omega)) | (refine app_le rfl ?_; omega)))
        all_goals try (refine ⟨i + 1, ⟨by omega, by omega⟩, ?_⟩)
        all_goals refine subF.ok ?_ <;> (conv => whnf) <;> repeat' (first
 | exact trivial
 | (with_reducible rfl)
 | ((with_reducible refine And.intro ?_ ?_) <;> conv => whnf)
 | omega
 | rfl
 | (refine congrArg (SV.arr _) ?_)
 | (refine congrArg (Value.int _) ?_)
 | (refine congrArg Value.bool ?_))
        all_goals first | exact hy.symm | rfl
      · have hn := hn hc
        repeat' (first
 | refine W.seq ?_
 | refine W.block ?_
 | (refine W.resub (x := Code.region 18 _ _) (Γ' := ⟨[(0, .padr 1000000000 0), (3, .st false (.sadr (.arr JT l))), (6, .lit (.int .i64 ((N.length : Int)))), (11, .fn 56 []), (12, .lit (.int .i64 ((pkI l i)))), (78, .st false (.arr JT l)), (79, .lit (.int .i64 ((l.length : Int)))), (80, .lit (.int .i64 (i))), (13, .lit (.int .i64 (i))), (14, .st true (.sadr (.agg [I64 (l.getD i J0).1, I64 (l.getD i J0).2.1, I64 (l.getD i J0).2.2.1, I64 (l.getD i J0).2.2.2.1])))], [(1000000000, .box [.lit (.int .i64 P), .st true (.arr JT l0), .st true (.arr OT os), .own 5]), (5, .row 57 NT true (N ++ [N0]))]⟩) ?_ (W.drawPh (id := 18) tys_ok [] mixed [0, 0, 3, 4, 12, 16, 48, 80, 128, 128, 896, 128, 128, 128, 12416, 16512, 35968, 66688, 131216, 262160] [([0, 1], 1, 7), ([3, 4, 5, 6, 7, 8, 9, 11, 12, 13, 14, 15], 1, 65535), ([], 1, 131071), ([17, 18, 19], 0, 1048575)] (by decide +kernel) ?_); rotate_left; (conv => whnf))
 | (refine W.region tys_ok [] ?_; conv => whnf)
 | (refine W.drawAll tys_ok [] mixed rfl ?_; conv => whnf)
 | (refine W.ret ?_; conv => whnf)
 | (refine W.skip ?_; conv => whnf)
 | (refine W.exit ?_; conv => whnf)
 | (refine call_at (al := false) (c1) rfl rfl rfl rfl ?_; conv => whnf)
 | (refine call_at (al := false) (c2) rfl rfl rfl rfl ?_; conv => whnf)
 | (refine Both.mk ?_ ?_ <;> (conv => whnf))
 | (refine W.cond rfl (fun hb => ?_) (fun hb => ?_) <;> (try simp only [Int.reduceToNat, Int.reduceTDiv, Int.reduceTMod, minL, maxL, pickB, zHB, zSH] at hb) <;> (try (first | (cases hb; done) | exact absurd hb (by decide) | (exfalso; omega) | (omega))))
 | ((with_reducible refine And.intro ?_ ?_); (focus ((repeat' (first | (with_reducible rfl) | (with_reducible refine And.intro ?_ ?_) | omega | rfl | exact Or.inl rfl | exact Or.inr rfl | exact of_decide_eq_true rfl | exact Path.imp_of (of_decide_eq_true rfl) | (focus ((try simp only [Int.reduceToNat, Int.reduceTDiv, Int.reduceTMod, minL, maxL, pickB, zHB, zSH, InK, Path.imp, List.length_replicate, List.length_set, List.length_append, List.length_cons, List.length_nil] at *); omega)) | (refine app_le rfl ?_; omega))); done)); (conv => whnf))
 | ((with_reducible refine And.intro (Side.out ?_) ?_); rotate_left; (conv => whnf))
 | ((first | refine retM1 ?_ | refine retM2 ?_ | refine subF.leaf ?_ | refine subF.side ?_) <;> (conv => whnf) <;> repeat' (first
 | exact trivial
 | (with_reducible rfl)
 | ((with_reducible refine And.intro ?_ ?_) <;> conv => whnf)
 | omega
 | rfl
 | (refine congrArg (SV.arr _) ?_)
 | (refine congrArg (Value.int _) ?_)
 | (refine congrArg Value.bool ?_)))); all_goals (try unfold Side)
        all_goals try (repeat' (first | (with_reducible rfl) | (with_reducible refine And.intro ?_ ?_) | omega | rfl | exact Or.inl rfl | exact Or.inr rfl | exact of_decide_eq_true rfl | exact Path.imp_of (of_decide_eq_true rfl) | (focus ((try simp only [Int.reduceToNat, Int.reduceTDiv, Int.reduceTMod, minL, maxL, pickB, zHB, zSH, InK, Path.imp, List.length_replicate, List.length_set, List.length_append, List.length_cons, List.length_nil] at *); omega)) | (refine app_le rfl ?_; omega)))
        all_goals try (refine ⟨i + 1, ⟨by omega, by omega⟩, ?_⟩)
        all_goals refine subF.ok ?_ <;> (conv => whnf) <;> repeat' (first
 | exact trivial
 | (with_reducible rfl)
 | ((with_reducible refine And.intro ?_ ?_) <;> conv => whnf)
 | omega
 | rfl
 | (refine congrArg (SV.arr _) ?_)
 | (refine congrArg (Value.int _) ?_)
 | (refine congrArg Value.bool ?_))
        all_goals first | exact hn.symm | rfl
    · have hie : l.length = i := by omega
      subst hie
      rw [hpk]
      have hfr : 0 < (l.getD j J0).2.1 - (l.getD j J0).2.2.1 - (l.getD j J0).1 := hfree
      have hrj := hbd.rg j hj
      unfold jf jt jl jp at hrj
      have c3 := free_at (f := (l.getD j J0).1) (t := (l.getD j J0).2.1) (n := (l.getD j J0).2.2.1) (p := (l.getD j J0).2.2.2.1) hrj.1 hrj.2.1 hrj.2.2.1
      have hmid : ((l.getD j J0).1 + Int.tdiv ((l.getD j J0).2.1 - (l.getD j J0).2.2.1 - (l.getD j J0).1 - 1) 2) = midT l j := by
        rw [Int.tdiv_eq_ediv_of_nonneg (by omega)]; rfl
      have hmr := mid_rg hfree
      unfold jf jt jl at hmr
      have hpt : FnAt Try.prog false 57 [.arr JT l, I64 (j : Int), I64 ((l.getD j J0).1 + Int.tdiv ((l.getD j J0).2.1 - (l.getD j J0).2.2.1 - (l.getD j J0).1 - 1) 2)] (.tup [.own 0, .own 1]) [(0, .row 45 JT true L), (1, .row 45 JT true R)] := by
        have h := parted_at hbd (j := (j : Int)) (a := ((l.getD j J0).1 + Int.tdiv ((l.getD j J0).2.1 - (l.getD j J0).2.2.1 - (l.getD j J0).1 - 1) 2)) (by omega) (by rw [hmid]; omega)
        rw [hmid, Int.toNat_natCast] at h
        rw [hmid, hL, hR]
        exact h
      repeat' (first
 | refine W.seq ?_
 | refine W.block ?_
 | (refine W.drawPh (id := 23) tys_ok [] mixed [0, 0, 3, 4, 8, 0, 0, 0, 192, 256, 544, 1024, 2048, 4112, 16383] [([0, 1, 2, 3, 4, 5, 6, 7, 8, 9], 1, 2047), ([11, 12, 13, 14], 0, 32767)] (by decide +kernel) ?_; conv => whnf)
 | (refine W.resub (x := Code.region 25 _ _) (Γ' := ⟨[(0, .padr 1000000000 0), (6, .lit (.int .i64 ((N.length : Int)))), (12, .lit (.int .i64 ((j : Int)))), (15, .lit (.int .i64 ((midT l j)))), (16, .st true (.arr JT L)), (17, .st true (.arr JT R))], [(1000000000, .box [.lit (.int .i64 P), .st true (.arr JT l0), .st true (.arr OT os), .own 5]), (5, .row 57 NT true (N ++ [N0]))]⟩) ?_ (W.regionM tys_ok [] [2] ?_); rotate_left; (conv => whnf))
 | (refine W.resub (x := Code.region 28 _ _) (Γ' := ⟨[(0, .padr 1000000000 0), (6, .lit (.int .i64 ((N.length : Int)))), (12, .lit (.int .i64 ((j : Int)))), (15, .lit (.int .i64 ((midT l j)))), (17, .st true (.arr JT R)), (18, .lit (.int .i64 (((N.length : Int) + 1))))], [(1000000000, .box [.lit (.int .i64 P), .st true (.arr JT l0), .st true (.arr OT os), .own 5]), (5, .row 57 NT true N2)]⟩) ?_ (W.regionM tys_ok [] [2] ?_); rotate_left; (conv => whnf))
 | (refine W.region tys_ok [] ?_; conv => whnf)
 | (refine W.drawAll tys_ok [] mixed rfl ?_; conv => whnf)
 | (refine W.ret ?_; conv => whnf)
 | (refine W.skip ?_; conv => whnf)
 | (refine W.exit ?_; conv => whnf)
 | (refine call_at (al := false) (c3) rfl rfl rfl rfl ?_; conv => whnf)
 | (refine call_at (al := false) (hpt) rfl rfl rfl rfl ?_; conv => whnf)
 | (refine callM_at (cL) ?_; clear cL; conv => whnf)
 | (refine callM_at (cR) ?_; conv => whnf)
 | (refine Both.mk ?_ ?_ <;> (conv => whnf))
 | (refine W.cond rfl (fun hb => ?_) (fun hb => ?_) <;> (try simp only [Int.reduceToNat, Int.reduceTDiv, Int.reduceTMod, minL, maxL, pickB, zHB, zSH] at hb) <;> (try (first | (cases hb; done) | exact absurd hb (by decide) | (exfalso; omega))))
 | (refine Or.inl (And.intro ?_ ?_); (focus (first | exact trivial | exact ⟨rfl, trivial⟩ | (refine ⟨?_, trivial⟩; dsimp only; simp only [Int.reduceToNat, Int.reduceTDiv, Int.reduceTMod, minL, maxL, pickB, zHB, zSH]; omega))); (conv => whnf))
 | (refine Or.inr (And.intro ?_ ?_); (focus (intro h; have h := h.1; dsimp only at h; first | (exact Bool.noConfusion h) | (simp only [Int.reduceToNat, Int.reduceTDiv, Int.reduceTMod, minL, maxL, pickB, zHB, zSH] at h; omega))); (conv => whnf))
 | ((with_reducible refine And.intro ?_ ?_); (focus ((repeat' (first | (with_reducible rfl) | (with_reducible refine And.intro ?_ ?_) | omega | rfl | exact Or.inl rfl | exact Or.inr rfl | exact of_decide_eq_true rfl | exact Path.imp_of (of_decide_eq_true rfl) | (focus ((try simp only [Int.reduceToNat, Int.reduceTDiv, Int.reduceTMod, minL, maxL, pickB, zHB, zSH, InK, Path.imp, List.length_replicate, List.length_set, List.length_append, List.length_cons, List.length_nil] at *); omega)) | (refine app_le rfl ?_; omega))); done)); (conv => whnf))
 | ((with_reducible refine And.intro (Side.out ?_) ?_); rotate_left; (conv => whnf))
 | ((first | refine retM1 ?_ | refine retM2 ?_ | refine subF.leaf ?_ | refine subF.side ?_) <;> (conv => whnf) <;> repeat' (first
 | exact trivial
 | (with_reducible rfl)
 | ((with_reducible refine And.intro ?_ ?_) <;> conv => whnf)
 | omega
 | rfl
 | (refine congrArg (SV.arr _) ?_)
 | (refine congrArg (Value.int _) ?_)
 | (refine congrArg Value.bool ?_)))); all_goals (try unfold Side)
      all_goals try (repeat' (first | (with_reducible rfl) | (with_reducible refine And.intro ?_ ?_) | omega | rfl | exact Or.inl rfl | exact Or.inr rfl | exact of_decide_eq_true rfl | exact Path.imp_of (of_decide_eq_true rfl) | (focus ((try simp only [Int.reduceToNat, Int.reduceTDiv, Int.reduceTMod, minL, maxL, pickB, zHB, zSH, InK, Path.imp, List.length_replicate, List.length_set, List.length_append, List.length_cons, List.length_nil] at *); omega)) | (refine app_le rfl ?_; omega)))
      all_goals try exact hmid
      all_goals refine subF.ok ?_ <;> (conv => whnf) <;> repeat' (first
 | exact trivial
 | (with_reducible rfl)
 | ((with_reducible refine And.intro ?_ ?_) <;> conv => whnf)
 | omega
 | rfl
 | (refine congrArg (SV.arr _) ?_)
 | (refine congrArg (Value.int _) ?_)
 | (refine congrArg Value.bool ?_))
      all_goals exact hmid
set_option maxHeartbeats 8000000 in
theorem growG_at {P : Int} {l0 : List Jb} {os : List Od} (hP : 0 ≤ P ∧ P ≤ 100) {l : List Jb} {N : List Nd} (hbd : Bd l) (ho : Ords os l.length) (h1l : 1 ≤ l.length) (hN : N.length ≤ 20000) (hlong : ¬ 20000 ≤ N.length) (hi : lateI os l = none) (hf : overF P l = none) {j : Nat} (hj : j < l.length) (hfree : 0 < frT l j) (hpk : pkI l l.length = (j : Int)) {L R : List Jb} (hL : L = partL l j (midT l j)) (hR : R = partR l j (midT l j)) {N2 N3 : List Nd} (hN2 : N2.length ≤ 20000) (hN3 : N3.length ≤ 20000) (hN3l : N.length < N3.length)
    (cL : FnM Try.prog 41 [.padr 1000000000 0, .st false (.arr JT L)] [(1000000000, .box [.lit (.int .i64 P), .st true (.arr JT l0), .st true (.arr OT os), .own 5]), (5, .row 57 NT true (N ++ [N0]))] (.tup [.lit (.int .i64 ((N.length : Int) + 1)), .lit (.bool true)]) [(1000000000, .box [.lit (.int .i64 P), .st true (.arr JT l0), .st true (.arr OT os), .own 5]), (5, .row 57 NT true N2)])
    (cR : FnM Try.prog 41 [.padr 1000000000 0, .st false (.arr JT R)] [(1000000000, .box [.lit (.int .i64 P), .st true (.arr JT l0), .st true (.arr OT os), .own 5]), (5, .row 57 NT true N2)] (.tup [.lit (.int .i64 (N2.length : Int)), .lit (.bool true)]) [(1000000000, .box [.lit (.int .i64 P), .st true (.arr JT l0), .st true (.arr OT os), .own 5]), (5, .row 57 NT true N3)]) :
    FnM Try.prog 41 [.padr 1000000000 0, .st false (.arr JT l)] [(1000000000, .box [.lit (.int .i64 P), .st true (.arr JT l0), .st true (.arr OT os), .own 5]), (5, .row 57 NT true N)] (.tup [.lit (.int .i64 (N.length : Int)), .lit (.bool true)]) [(1000000000, .box [.lit (.int .i64 P), .st true (.arr JT l0), .st true (.arr OT os), .own 5]), (5, .row 57 NT true (N3.set N.length (1, (j : Int), midT l j, 0, (N.length : Int) + 1, (N2.length : Int), ())))] := by
  have hll : @List.length JT.T l = l.length := rfl
  have hlN : @List.length NT.T N = N.length := rfl
  have hll2 := hbd.len
  have hl3 : @List.length NT.T N3 = N3.length := rfl
  have hix := indexB_at hbd ho
  have hixn : ixT os l = -1 := by unfold ixT; rw [hi]
  rw [hixn] at hix
  have hov := overfull_at hP hbd
  have e1 : ovA P l = 0 := by unfold ovA; rw [hf]
  have e2 : ovE P l = 0 := by unfold ovE; rw [hf]
  have e3 : ovB P l = false := by unfold ovB; rw [hf]
  rw [e1, e2, e3] at hov
  refine FnM.of_body tys_ok Try.func41 (by rfl) rfl Try.ntmps41 (by rw [Try.results41]) (by simp) ?_
  
  repeat' (first
 | refine W.seq ?_
 | refine W.block ?_
 | (refine W.resub (x := Code.region 9 _ _) (Γ' := ⟨[(0, .padr 1000000000 0), (3, .st false (.sadr (.arr JT l))), (6, .lit (.int .i64 ((N.length : Int))))], [(1000000000, .box [.lit (.int .i64 P), .st true (.arr JT l0), .st true (.arr OT os), .own 5]), (5, .row 57 NT true (N ++ [N0]))]⟩) ?_ (W.drawPh (id := 9) tys_ok [] mixed [0, 1, 2, 4, 8, 0, 48, 64, 128, 128, 128, 511, 3071, 8191] [([0, 1, 2, 3, 5], 1, 63), ([], 1, 127), ([7, 8, 9, 10, 11, 12, 13], 0, 16383)] (by decide +kernel) ?_); rotate_left; (conv => whnf))
 | (refine W.region tys_ok [] ?_; conv => whnf)
 | (refine W.drawAll tys_ok [] mixed rfl ?_; conv => whnf)
 | (refine W.ret ?_; conv => whnf)
 | (refine W.skip ?_; conv => whnf)
 | (refine W.exit ?_; conv => whnf)
 | (refine call_at (al := false) (hix) rfl rfl rfl rfl ?_; conv => whnf)
 | (refine call_at (al := false) (hov) rfl rfl rfl rfl ?_; conv => whnf)
 | (refine Both.mk ?_ ?_ <;> (conv => whnf))
 | (refine W.cond rfl (fun hb => ?_) (fun hb => ?_) <;> (try simp only [Int.reduceToNat, Int.reduceTDiv, Int.reduceTMod, minL, maxL, pickB, zHB, zSH] at hb) <;> (try (first | (cases hb; done) | exact absurd hb (by decide) | (exfalso; omega) | (omega))))
 | ((with_reducible refine And.intro ?_ ?_); (focus ((repeat' (first | (with_reducible rfl) | (with_reducible refine And.intro ?_ ?_) | omega | rfl | exact Or.inl rfl | exact Or.inr rfl | exact of_decide_eq_true rfl | exact Path.imp_of (of_decide_eq_true rfl) | (focus ((try simp only [Int.reduceToNat, Int.reduceTDiv, Int.reduceTMod, minL, maxL, pickB, zHB, zSH, InK, Path.imp, List.length_replicate, List.length_set, List.length_append, List.length_cons, List.length_nil] at *); omega)) | (refine app_le rfl ?_; omega))); done)); (conv => whnf))
 | ((with_reducible refine And.intro (Side.out ?_) ?_); rotate_left; (conv => whnf))
 | ((first | refine retM1 ?_ | refine retM2 ?_ | refine subF.leaf ?_ | refine subF.side ?_) <;> (conv => whnf) <;> repeat' (first
 | exact trivial
 | (with_reducible rfl)
 | ((with_reducible refine And.intro ?_ ?_) <;> conv => whnf)
 | omega
 | rfl
 | (refine congrArg (SV.arr _) ?_)
 | (refine congrArg (Value.int _) ?_)
 | (refine congrArg Value.bool ?_)))); all_goals (try unfold Side)
  all_goals try (repeat' (first | (with_reducible rfl) | (with_reducible refine And.intro ?_ ?_) | omega | rfl | exact Or.inl rfl | exact Or.inr rfl | exact of_decide_eq_true rfl | exact Path.imp_of (of_decide_eq_true rfl) | (focus ((try simp only [Int.reduceToNat, Int.reduceTDiv, Int.reduceTMod, minL, maxL, pickB, zHB, zSH, InK, Path.imp, List.length_replicate, List.length_set, List.length_append, List.length_cons, List.length_nil] at *); omega)) | (refine app_le rfl ?_; omega)))
  all_goals try refine subF.ok ?_ <;> (conv => whnf) <;> repeat' (first
 | exact trivial
 | (with_reducible rfl)
 | ((with_reducible refine And.intro ?_ ?_) <;> conv => whnf)
 | omega
 | rfl
 | (refine congrArg (SV.arr _) ?_)
 | (refine congrArg (Value.int _) ?_)
 | (refine congrArg Value.bool ?_))
  refine W.loop (fun i : Nat => ⟨[(0, .padr 1000000000 0), (3, .st false (.sadr (.arr JT l))), (6, .lit (.int .i64 ((N.length : Int)))), (11, .fn 56 []), (12, .lit (.int .i64 ((pkI l i)))), (78, .st false (.arr JT l)), (79, .lit (.int .i64 ((l.length : Int)))), (80, .lit (.int .i64 (i)))], [(1000000000, .box [.lit (.int .i64 P), .st true (.arr JT l0), .st true (.arr OT os), .own 5]), (5, .row 57 NT true (N ++ [N0]))]⟩) (fun i => i ≤ l.length) (fun i => l.length - i) (0) ?_ ?_
  · refine ⟨Nat.zero_le _, ?_⟩
    refine subF.ok ?_ <;> (conv => whnf) <;> repeat' (first
 | exact trivial
 | (with_reducible rfl)
 | ((with_reducible refine And.intro ?_ ?_) <;> conv => whnf)
 | omega
 | rfl
 | (refine congrArg (SV.arr _) ?_)
 | (refine congrArg (Value.int _) ?_)
 | (refine congrArg Value.bool ?_))
    all_goals exact pk_zero.symm
  · intro i hi2
    have hpr := pk_rg (l := l) (k := i)
    by_cases hil : i < l.length
    · have hri := hbd.rg i hil
      have hrj := hbd.rg (pkI l i).toNat (by omega)
      have c1 := free_at (f := (l.getD i J0).1) (t := (l.getD i J0).2.1) (n := (l.getD i J0).2.2.1) (p := (l.getD i J0).2.2.2.1) hri.1 hri.2.1 hri.2.2.1
      have c2 := free_at (f := (l.getD (pkI l i).toNat J0).1) (t := (l.getD (pkI l i).toNat J0).2.1) (n := (l.getD (pkI l i).toNat J0).2.2.1) (p := (l.getD (pkI l i).toNat J0).2.2.2.1) hrj.1 hrj.2.1 hrj.2.2.1
      have hy := pk_yes (l := l) (k := i)
      have hn := pk_no (l := l) (k := i)
      have hC : pkC l i ↔ 0 < (l.getD i J0).2.1 - (l.getD i J0).2.2.1 - (l.getD i J0).1 ∧ (pkI l i < 0 ∨ (l.getD i J0).2.1 - (l.getD i J0).2.2.1 - (l.getD i J0).1 < (l.getD (pkI l i).toNat J0).2.1 - (l.getD (pkI l i).toNat J0).2.2.1 - (l.getD (pkI l i).toNat J0).1) := Iff.rfl
      unfold jf jt jl jp at hri hrj
      rw [hC] at hy hn
      by_cases hc : 0 < (l.getD i J0).2.1 - (l.getD i J0).2.2.1 - (l.getD i J0).1 ∧ (pkI l i < 0 ∨ (l.getD i J0).2.1 - (l.getD i J0).2.2.1 - (l.getD i J0).1 < (l.getD (pkI l i).toNat J0).2.1 - (l.getD (pkI l i).toNat J0).2.2.1 - (l.getD (pkI l i).toNat J0).1)
      · have hy := hy hc
        repeat' (first
 | refine W.seq ?_
 | refine W.block ?_
 | (refine W.resub (x := Code.region 18 _ _) (Γ' := ⟨[(0, .padr 1000000000 0), (3, .st false (.sadr (.arr JT l))), (6, .lit (.int .i64 ((N.length : Int)))), (11, .fn 56 []), (12, .lit (.int .i64 ((pkI l i)))), (78, .st false (.arr JT l)), (79, .lit (.int .i64 ((l.length : Int)))), (80, .lit (.int .i64 (i))), (13, .lit (.int .i64 (i))), (14, .st true (.sadr (.agg [I64 (l.getD i J0).1, I64 (l.getD i J0).2.1, I64 (l.getD i J0).2.2.1, I64 (l.getD i J0).2.2.2.1])))], [(1000000000, .box [.lit (.int .i64 P), .st true (.arr JT l0), .st true (.arr OT os), .own 5]), (5, .row 57 NT true (N ++ [N0]))]⟩) ?_ (W.drawPh (id := 18) tys_ok [] mixed [0, 0, 3, 4, 12, 16, 48, 80, 128, 128, 896, 128, 128, 128, 12416, 16512, 35968, 66688, 131216, 262160] [([0, 1], 1, 7), ([3, 4, 5, 6, 7, 8, 9, 11, 12, 13, 14, 15], 1, 65535), ([], 1, 131071), ([17, 18, 19], 0, 1048575)] (by decide +kernel) ?_); rotate_left; (conv => whnf))
 | (refine W.region tys_ok [] ?_; conv => whnf)
 | (refine W.drawAll tys_ok [] mixed rfl ?_; conv => whnf)
 | (refine W.ret ?_; conv => whnf)
 | (refine W.skip ?_; conv => whnf)
 | (refine W.exit ?_; conv => whnf)
 | (refine call_at (al := false) (c1) rfl rfl rfl rfl ?_; conv => whnf)
 | (refine call_at (al := false) (c2) rfl rfl rfl rfl ?_; conv => whnf)
 | (refine Both.mk ?_ ?_ <;> (conv => whnf))
 | (refine W.cond rfl (fun hb => ?_) (fun hb => ?_) <;> (try simp only [Int.reduceToNat, Int.reduceTDiv, Int.reduceTMod, minL, maxL, pickB, zHB, zSH] at hb) <;> (try (first | (cases hb; done) | exact absurd hb (by decide) | (exfalso; omega) | (omega))))
 | ((with_reducible refine And.intro ?_ ?_); (focus ((repeat' (first | (with_reducible rfl) | (with_reducible refine And.intro ?_ ?_) | omega | rfl | exact Or.inl rfl | exact Or.inr rfl | exact of_decide_eq_true rfl | exact Path.imp_of (of_decide_eq_true rfl) | (focus ((try simp only [Int.reduceToNat, Int.reduceTDiv, Int.reduceTMod, minL, maxL, pickB, zHB, zSH, InK, Path.imp, List.length_replicate, List.length_set, List.length_append, List.length_cons, List.length_nil] at *); omega)) | (refine app_le rfl ?_; omega))); done)); (conv => whnf))
 | ((with_reducible refine And.intro (Side.out ?_) ?_); rotate_left; (conv => whnf))
 | ((first | refine retM1 ?_ | refine retM2 ?_ | refine subF.leaf ?_ | refine subF.side ?_) <;> (conv => whnf) <;> repeat' (first
 | exact trivial
 | (with_reducible rfl)
 | ((with_reducible refine And.intro ?_ ?_) <;> conv => whnf)
 | omega
 | rfl
 | (refine congrArg (SV.arr _) ?_)
 | (refine congrArg (Value.int _) ?_)
 | (refine congrArg Value.bool ?_)))); all_goals (try unfold Side)
        all_goals try (repeat' (first | (with_reducible rfl) | (with_reducible refine And.intro ?_ ?_) | omega | rfl | exact Or.inl rfl | exact Or.inr rfl | exact of_decide_eq_true rfl | exact Path.imp_of (of_decide_eq_true rfl) | (focus ((try simp only [Int.reduceToNat, Int.reduceTDiv, Int.reduceTMod, minL, maxL, pickB, zHB, zSH, InK, Path.imp, List.length_replicate, List.length_set, List.length_append, List.length_cons, List.length_nil] at *); omega)) | (refine app_le rfl ?_; omega)))
        all_goals try (refine ⟨i + 1, ⟨by omega, by omega⟩, ?_⟩)
        all_goals refine subF.ok ?_ <;> (conv => whnf) <;> repeat' (first
 | exact trivial
 | (with_reducible rfl)
 | ((with_reducible refine And.intro ?_ ?_) <;> conv => whnf)
 | omega
 | rfl
 | (refine congrArg (SV.arr _) ?_)
 | (refine congrArg (Value.int _) ?_)
 | (refine congrArg Value.bool ?_))
        all_goals first | exact hy.symm | rfl
      · have hn := hn hc
        repeat' (first
 | refine W.seq ?_
 | refine W.block ?_
 | (refine W.resub (x := Code.region 18 _ _) (Γ' := ⟨[(0, .padr 1000000000 0), (3, .st false (.sadr (.arr JT l))), (6, .lit (.int .i64 ((N.length : Int)))), (11, .fn 56 []), (12, .lit (.int .i64 ((pkI l i)))), (78, .st false (.arr JT l)), (79, .lit (.int .i64 ((l.length : Int)))), (80, .lit (.int .i64 (i))), (13, .lit (.int .i64 (i))), (14, .st true (.sadr (.agg [I64 (l.getD i J0).1, I64 (l.getD i J0).2.1, I64 (l.getD i J0).2.2.1, I64 (l.getD i J0).2.2.2.1])))], [(1000000000, .box [.lit (.int .i64 P), .st true (.arr JT l0), .st true (.arr OT os), .own 5]), (5, .row 57 NT true (N ++ [N0]))]⟩) ?_ (W.drawPh (id := 18) tys_ok [] mixed [0, 0, 3, 4, 12, 16, 48, 80, 128, 128, 896, 128, 128, 128, 12416, 16512, 35968, 66688, 131216, 262160] [([0, 1], 1, 7), ([3, 4, 5, 6, 7, 8, 9, 11, 12, 13, 14, 15], 1, 65535), ([], 1, 131071), ([17, 18, 19], 0, 1048575)] (by decide +kernel) ?_); rotate_left; (conv => whnf))
 | (refine W.region tys_ok [] ?_; conv => whnf)
 | (refine W.drawAll tys_ok [] mixed rfl ?_; conv => whnf)
 | (refine W.ret ?_; conv => whnf)
 | (refine W.skip ?_; conv => whnf)
 | (refine W.exit ?_; conv => whnf)
 | (refine call_at (al := false) (c1) rfl rfl rfl rfl ?_; conv => whnf)
 | (refine call_at (al := false) (c2) rfl rfl rfl rfl ?_; conv => whnf)
 | (refine Both.mk ?_ ?_ <;> (conv => whnf))
 | (refine W.cond rfl (fun hb => ?_) (fun hb => ?_) <;> (try simp only [Int.reduceToNat, Int.reduceTDiv, Int.reduceTMod, minL, maxL, pickB, zHB, zSH] at hb) <;> (try (first | (cases hb; done) | exact absurd hb (by decide) | (exfalso; omega) | (omega))))
 | ((with_reducible refine And.intro ?_ ?_); (focus ((repeat' (first | (with_reducible rfl) | (with_reducible refine And.intro ?_ ?_) | omega | rfl | exact Or.inl rfl | exact Or.inr rfl | exact of_decide_eq_true rfl | exact Path.imp_of (of_decide_eq_true rfl) | (focus ((try simp only [Int.reduceToNat, Int.reduceTDiv, Int.reduceTMod, minL, maxL, pickB, zHB, zSH, InK, Path.imp, List.length_replicate, List.length_set, List.length_append, List.length_cons, List.length_nil] at *); omega)) | (refine app_le rfl ?_; omega))); done)); (conv => whnf))
 | ((with_reducible refine And.intro (Side.out ?_) ?_); rotate_left; (conv => whnf))
 | ((first | refine retM1 ?_ | refine retM2 ?_ | refine subF.leaf ?_ | refine subF.side ?_) <;> (conv => whnf) <;> repeat' (first
 | exact trivial
 | (with_reducible rfl)
 | ((with_reducible refine And.intro ?_ ?_) <;> conv => whnf)
 | omega
 | rfl
 | (refine congrArg (SV.arr _) ?_)
 | (refine congrArg (Value.int _) ?_)
 | (refine congrArg Value.bool ?_)))); all_goals (try unfold Side)
        all_goals try (repeat' (first | (with_reducible rfl) | (with_reducible refine And.intro ?_ ?_) | omega | rfl | exact Or.inl rfl | exact Or.inr rfl | exact of_decide_eq_true rfl | exact Path.imp_of (of_decide_eq_true rfl) | (focus ((try simp only [Int.reduceToNat, Int.reduceTDiv, Int.reduceTMod, minL, maxL, pickB, zHB, zSH, InK, Path.imp, List.length_replicate, List.length_set, List.length_append, List.length_cons, List.length_nil] at *); omega)) | (refine app_le rfl ?_; omega)))
        all_goals try (refine ⟨i + 1, ⟨by omega, by omega⟩, ?_⟩)
        all_goals refine subF.ok ?_ <;> (conv => whnf) <;> repeat' (first
 | exact trivial
 | (with_reducible rfl)
 | ((with_reducible refine And.intro ?_ ?_) <;> conv => whnf)
 | omega
 | rfl
 | (refine congrArg (SV.arr _) ?_)
 | (refine congrArg (Value.int _) ?_)
 | (refine congrArg Value.bool ?_))
        all_goals first | exact hn.symm | rfl
    · have hie : l.length = i := by omega
      subst hie
      rw [hpk]
      have hfr : 0 < (l.getD j J0).2.1 - (l.getD j J0).2.2.1 - (l.getD j J0).1 := hfree
      have hrj := hbd.rg j hj
      unfold jf jt jl jp at hrj
      have c3 := free_at (f := (l.getD j J0).1) (t := (l.getD j J0).2.1) (n := (l.getD j J0).2.2.1) (p := (l.getD j J0).2.2.2.1) hrj.1 hrj.2.1 hrj.2.2.1
      have hmid : ((l.getD j J0).1 + Int.tdiv ((l.getD j J0).2.1 - (l.getD j J0).2.2.1 - (l.getD j J0).1 - 1) 2) = midT l j := by
        rw [Int.tdiv_eq_ediv_of_nonneg (by omega)]; rfl
      have hmr := mid_rg hfree
      unfold jf jt jl at hmr
      have hpt : FnAt Try.prog false 57 [.arr JT l, I64 (j : Int), I64 ((l.getD j J0).1 + Int.tdiv ((l.getD j J0).2.1 - (l.getD j J0).2.2.1 - (l.getD j J0).1 - 1) 2)] (.tup [.own 0, .own 1]) [(0, .row 45 JT true L), (1, .row 45 JT true R)] := by
        have h := parted_at hbd (j := (j : Int)) (a := ((l.getD j J0).1 + Int.tdiv ((l.getD j J0).2.1 - (l.getD j J0).2.2.1 - (l.getD j J0).1 - 1) 2)) (by omega) (by rw [hmid]; omega)
        rw [hmid, Int.toNat_natCast] at h
        rw [hmid, hL, hR]
        exact h
      repeat' (first
 | refine W.seq ?_
 | refine W.block ?_
 | (refine W.drawPh (id := 23) tys_ok [] mixed [0, 0, 3, 4, 8, 0, 0, 0, 192, 256, 544, 1024, 2048, 4112, 16383] [([0, 1, 2, 3, 4, 5, 6, 7, 8, 9], 1, 2047), ([11, 12, 13, 14], 0, 32767)] (by decide +kernel) ?_; conv => whnf)
 | (refine W.resub (x := Code.region 25 _ _) (Γ' := ⟨[(0, .padr 1000000000 0), (6, .lit (.int .i64 ((N.length : Int)))), (12, .lit (.int .i64 ((j : Int)))), (15, .lit (.int .i64 ((midT l j)))), (16, .st true (.arr JT L)), (17, .st true (.arr JT R))], [(1000000000, .box [.lit (.int .i64 P), .st true (.arr JT l0), .st true (.arr OT os), .own 5]), (5, .row 57 NT true (N ++ [N0]))]⟩) ?_ (W.regionM tys_ok [] [2] ?_); rotate_left; (conv => whnf))
 | (refine W.resub (x := Code.region 28 _ _) (Γ' := ⟨[(0, .padr 1000000000 0), (6, .lit (.int .i64 ((N.length : Int)))), (12, .lit (.int .i64 ((j : Int)))), (15, .lit (.int .i64 ((midT l j)))), (17, .st true (.arr JT R)), (18, .lit (.int .i64 (((N.length : Int) + 1))))], [(1000000000, .box [.lit (.int .i64 P), .st true (.arr JT l0), .st true (.arr OT os), .own 5]), (5, .row 57 NT true N2)]⟩) ?_ (W.regionM tys_ok [] [2] ?_); rotate_left; (conv => whnf))
 | (refine W.region tys_ok [] ?_; conv => whnf)
 | (refine W.drawAll tys_ok [] mixed rfl ?_; conv => whnf)
 | (refine W.ret ?_; conv => whnf)
 | (refine W.skip ?_; conv => whnf)
 | (refine W.exit ?_; conv => whnf)
 | (refine call_at (al := false) (c3) rfl rfl rfl rfl ?_; conv => whnf)
 | (refine call_at (al := false) (hpt) rfl rfl rfl rfl ?_; conv => whnf)
 | (refine callM_at (cL) ?_; clear cL; conv => whnf)
 | (refine callM_at (cR) ?_; conv => whnf)
 | (refine Both.mk ?_ ?_ <;> (conv => whnf))
 | (refine W.cond rfl (fun hb => ?_) (fun hb => ?_) <;> (try simp only [Int.reduceToNat, Int.reduceTDiv, Int.reduceTMod, minL, maxL, pickB, zHB, zSH] at hb) <;> (try (first | (cases hb; done) | exact absurd hb (by decide) | (exfalso; omega))))
 | (refine Or.inl (And.intro ?_ ?_); (focus (first | exact trivial | exact ⟨rfl, trivial⟩ | (refine ⟨?_, trivial⟩; dsimp only; simp only [Int.reduceToNat, Int.reduceTDiv, Int.reduceTMod, minL, maxL, pickB, zHB, zSH]; omega))); (conv => whnf))
 | (refine Or.inr (And.intro ?_ ?_); (focus (intro h; have h := h.1; dsimp only at h; first | (exact Bool.noConfusion h) | (simp only [Int.reduceToNat, Int.reduceTDiv, Int.reduceTMod, minL, maxL, pickB, zHB, zSH] at h; omega))); (conv => whnf))
 | ((with_reducible refine And.intro ?_ ?_); (focus ((repeat' (first | (with_reducible rfl) | (with_reducible refine And.intro ?_ ?_) | omega | rfl | exact Or.inl rfl | exact Or.inr rfl | exact of_decide_eq_true rfl | exact Path.imp_of (of_decide_eq_true rfl) | (focus ((try simp only [Int.reduceToNat, Int.reduceTDiv, Int.reduceTMod, minL, maxL, pickB, zHB, zSH, InK, Path.imp, List.length_replicate, List.length_set, List.length_append, List.length_cons, List.length_nil] at *); omega)) | (refine app_le rfl ?_; omega))); done)); (conv => whnf))
 | ((with_reducible refine And.intro (Side.out ?_) ?_); rotate_left; (conv => whnf))
 | ((first | refine retM1 ?_ | refine retM2 ?_ | refine subF.leaf ?_ | refine subF.side ?_) <;> (conv => whnf) <;> repeat' (first
 | exact trivial
 | (with_reducible rfl)
 | ((with_reducible refine And.intro ?_ ?_) <;> conv => whnf)
 | omega
 | rfl
 | (refine congrArg (SV.arr _) ?_)
 | (refine congrArg (Value.int _) ?_)
 | (refine congrArg Value.bool ?_)))); all_goals (try unfold Side)
      all_goals try (repeat' (first | (with_reducible rfl) | (with_reducible refine And.intro ?_ ?_) | omega | rfl | exact Or.inl rfl | exact Or.inr rfl | exact of_decide_eq_true rfl | exact Path.imp_of (of_decide_eq_true rfl) | (focus ((try simp only [Int.reduceToNat, Int.reduceTDiv, Int.reduceTMod, minL, maxL, pickB, zHB, zSH, InK, Path.imp, List.length_replicate, List.length_set, List.length_append, List.length_cons, List.length_nil] at *); omega)) | (refine app_le rfl ?_; omega)))
      all_goals try exact hmid
      all_goals refine subF.ok ?_ <;> (conv => whnf) <;> repeat' (first
 | exact trivial
 | (with_reducible rfl)
 | ((with_reducible refine And.intro ?_ ?_) <;> conv => whnf)
 | omega
 | rfl
 | (refine congrArg (SV.arr _) ?_)
 | (refine congrArg (Value.int _) ?_)
 | (refine congrArg Value.bool ?_))
      all_goals exact hmid
end Go.Proofs.Ytmfholchenihaaa
namespace Go.Proofs.Ytmfholchenihaaa
open Go Go.Vc Go.Sh
set_option linter.unusedVariables false
set_option linter.unusedSimpArgs false
theorem part_bd {l : List Jb} (h : Bd l) {j : Nat} {a : Int} (hj : j < l.length) (ha : jf l j ≤ a ∧ a < jt l j - jl l j) : Bd (partL l j a) ∧ Bd (partR l j a) ∧ (partL l j a).length = l.length ∧ (partR l j a).length = l.length := by
  have hl1 : (partL l j a).length = l.length := by simp [partL]
  have hl2 : (partR l j a).length = l.length := by simp [partR]
  have hrj := h.rg j hj
  refine ⟨⟨by rw [hl1]; exact h.len, fun m hm => ?_⟩, ⟨by rw [hl2]; exact h.len, fun m hm => ?_⟩, hl1, hl2⟩
  · rw [hl1] at hm
    have hr := h.rg m hm
    obtain ⟨e1, e2, e3, e4⟩ := set_job (m := m) (f := jf l j) (t := a + jl l j) hj
    unfold partL
    rw [e1, e2, e3, e4]
    by_cases e : m = j
    · subst e; rw [if_pos rfl, if_pos rfl]; omega
    · rw [if_neg e, if_neg e]; exact hr
  · rw [hl2] at hm
    have hr := h.rg m hm
    obtain ⟨e1, e2, e3, e4⟩ := set_job (m := m) (f := a + 1) (t := jt l j) hj
    unfold partR
    rw [e1, e2, e3, e4]
    by_cases e : m = j
    · subst e; rw [if_pos rfl, if_pos rfl]; omega
    · rw [if_neg e, if_neg e]; exact hr
set_option maxHeartbeats 8000000 in
theorem proves0_at {P : Int} {l0 : List Jb} {os : List Od} {pf : List Nd} (hP : 0 ≤ P ∧ P ≤ 100) (hpf : pf.length ≤ 100000) {k num : Nat} {l : List Jb} {sn : List Bool} (hnum : num < pf.length) (hsn : sn.length = pf.length) (hbd : Bd l) (ho : Ords os l.length) (hs : sn.getD num false = true) :
    FnM Try.prog 43 [.st false (.agg [I64 P, .arr JT l0, .arr OT os]), .st false (.arr NT pf), .lit (.int .i64 num), .st false (.arr JT l), .own 1000000000] [(1000000000, .row 4 .bool true sn)] (.lit (.bool (pvT P os pf (k + 1) num l sn).1)) [(1000000000, .row 4 .bool true (pvT P os pf (k + 1) num l sn).2)] := by
  have hll : @List.length JT.T l = l.length := rfl
  have hlp : @List.length NT.T pf = pf.length := rfl
  have hls : @List.length Ty.bool.T sn = pf.length := hsn
  rw [pv_seen hs]
  refine FnM.of_body tys_ok Try.func43 (by rfl) rfl Try.ntmps43 (by rw [Try.results43]) (by simp) ?_
  
  repeat' (first
 | refine W.seq ?_
 | refine W.block ?_
 | (refine W.region tys_ok [] ?_; conv => whnf)
 | (refine W.drawAll tys_ok [] mixed rfl ?_; conv => whnf)
 | (refine W.ret ?_; conv => whnf)
 | (refine W.skip ?_; conv => whnf)
 | (refine W.exit ?_; conv => whnf)
 | (refine W.cond rfl (fun hb => ?_) (fun hb => ?_) <;> (try simp only [Int.reduceToNat, Int.reduceTDiv, Int.reduceTMod, minL, maxL, pickB, zHB, zSH] at hb) <;> (try (first | (cases hb; done) | exact absurd hb (by decide) | (exfalso; omega) | (exact Bool.noConfusion (hb.symm.trans hs)))))
 | ((with_reducible refine And.intro ?_ ?_); (focus ((repeat' (first | (with_reducible rfl) | (with_reducible refine And.intro ?_ ?_) | omega | rfl | exact Or.inl rfl | exact Or.inr rfl | exact of_decide_eq_true rfl | exact Path.imp_of (of_decide_eq_true rfl) | (focus ((try simp only [Int.reduceToNat, Int.reduceTDiv, Int.reduceTMod, minL, maxL, pickB, zHB, zSH, InK, Path.imp, List.length_replicate, List.length_set, List.length_append, List.length_cons, List.length_nil] at *); omega)) | (refine app_le rfl ?_; omega))); done)); (conv => whnf))
 | ((with_reducible refine And.intro (Side.out ?_) ?_); rotate_left; (conv => whnf))
 | ((first | refine retM1 ?_ | refine retM2 ?_) <;> (conv => whnf) <;> repeat' (first
 | exact trivial
 | (with_reducible rfl)
 | ((with_reducible refine And.intro ?_ ?_) <;> conv => whnf)
 | omega
 | rfl
 | (refine congrArg (SV.arr _) ?_)
 | (refine congrArg (Value.int _) ?_)
 | (refine congrArg Value.bool ?_)))); all_goals (try unfold Side)
  all_goals try (repeat' (first | (with_reducible rfl) | (with_reducible refine And.intro ?_ ?_) | omega | rfl | exact Or.inl rfl | exact Or.inr rfl | exact of_decide_eq_true rfl | exact Path.imp_of (of_decide_eq_true rfl) | (focus ((try simp only [Int.reduceToNat, Int.reduceTDiv, Int.reduceTMod, minL, maxL, pickB, zHB, zSH, InK, Path.imp, List.length_replicate, List.length_set, List.length_append, List.length_cons, List.length_nil] at *); omega)) | (refine app_le rfl ?_; omega)))
set_option maxHeartbeats 8000000 in
theorem provesE_at {P : Int} {l0 : List Jb} {os : List Od} {pf : List Nd} (hP : 0 ≤ P ∧ P ≤ 100) (hpf : pf.length ≤ 100000) {k num : Nat} {l : List Jb} {sn : List Bool} (hnum : num < pf.length) (hsn : sn.length = pf.length) (hbd : Bd l) (ho : Ords os l.length) (hs : sn.getD num false = false) (h1 : (pf.getD num N0).1 ≠ 1) (h2 : (pf.getD num N0).1 ≠ 2) (h3 : (pf.getD num N0).1 ≠ 3) :
    FnM Try.prog 43 [.st false (.agg [I64 P, .arr JT l0, .arr OT os]), .st false (.arr NT pf), .lit (.int .i64 num), .st false (.arr JT l), .own 1000000000] [(1000000000, .row 4 .bool true sn)] (.lit (.bool (pvT P os pf (k + 1) num l sn).1)) [(1000000000, .row 4 .bool true (pvT P os pf (k + 1) num l sn).2)] := by
  have hll : @List.length JT.T l = l.length := rfl
  have hlp : @List.length NT.T pf = pf.length := rfl
  have hls : @List.length Ty.bool.T sn = pf.length := hsn
  rw [pv_else hs h1 h2 h3]
  have hrd := read_no (j := (pf.getD num N0).2.1) (a := (pf.getD num N0).2.2.1) (b := (pf.getD num N0).2.2.2.1) (lf := (pf.getD num N0).2.2.2.2.1) (rt := (pf.getD num N0).2.2.2.2.2.1) h1 h2 h3
  refine FnM.of_body tys_ok Try.func43 (by rfl) rfl Try.ntmps43 (by rw [Try.results43]) (by simp) ?_
  
  repeat' (first
 | refine W.seq ?_
 | refine W.block ?_
 | (refine W.region tys_ok [] ?_; conv => whnf)
 | (refine W.drawAll tys_ok [] mixed rfl ?_; conv => whnf)
 | (refine W.ret ?_; conv => whnf)
 | (refine W.skip ?_; conv => whnf)
 | (refine W.exit ?_; conv => whnf)
 | (refine call_at (al := false) (hrd) rfl rfl rfl rfl ?_; conv => whnf)
 | (refine W.cond rfl (fun hb => ?_) (fun hb => ?_) <;> (try simp only [Int.reduceToNat, Int.reduceTDiv, Int.reduceTMod, minL, maxL, pickB, zHB, zSH] at hb) <;> (try (first | (cases hb; done) | exact absurd hb (by decide) | (exfalso; omega) | (exact Bool.noConfusion (hb.symm.trans hs)))))
 | ((with_reducible refine And.intro ?_ ?_); (focus ((repeat' (first | (with_reducible rfl) | (with_reducible refine And.intro ?_ ?_) | omega | rfl | exact Or.inl rfl | exact Or.inr rfl | exact of_decide_eq_true rfl | exact Path.imp_of (of_decide_eq_true rfl) | (focus ((try simp only [Int.reduceToNat, Int.reduceTDiv, Int.reduceTMod, minL, maxL, pickB, zHB, zSH, InK, Path.imp, List.length_replicate, List.length_set, List.length_append, List.length_cons, List.length_nil] at *); omega)) | (refine app_le rfl ?_; omega))); done)); (conv => whnf))
 | ((with_reducible refine And.intro (Side.out ?_) ?_); rotate_left; (conv => whnf))
 | ((first | refine retM1 ?_ | refine retM2 ?_) <;> (conv => whnf) <;> repeat' (first
 | exact trivial
 | (with_reducible rfl)
 | ((with_reducible refine And.intro ?_ ?_) <;> conv => whnf)
 | omega
 | rfl
 | (refine congrArg (SV.arr _) ?_)
 | (refine congrArg (Value.int _) ?_)
 | (refine congrArg Value.bool ?_)))); all_goals (try unfold Side)
  all_goals try (repeat' (first | (with_reducible rfl) | (with_reducible refine And.intro ?_ ?_) | omega | rfl | exact Or.inl rfl | exact Or.inr rfl | exact of_decide_eq_true rfl | exact Path.imp_of (of_decide_eq_true rfl) | (focus ((try simp only [Int.reduceToNat, Int.reduceTDiv, Int.reduceTMod, minL, maxL, pickB, zHB, zSH, InK, Path.imp, List.length_replicate, List.length_set, List.length_append, List.length_cons, List.length_nil] at *); omega)) | (refine app_le rfl ?_; omega)))
set_option maxHeartbeats 8000000 in
theorem proves3_at {P : Int} {l0 : List Jb} {os : List Od} {pf : List Nd} (hP : 0 ≤ P ∧ P ≤ 100) (hpf : pf.length ≤ 100000) {k num : Nat} {l : List Jb} {sn : List Bool} (hnum : num < pf.length) (hsn : sn.length = pf.length) (hbd : Bd l) (ho : Ords os l.length) (hs : sn.getD num false = false) (h3 : (pf.getD num N0).1 = 3) :
    FnM Try.prog 43 [.st false (.agg [I64 P, .arr JT l0, .arr OT os]), .st false (.arr NT pf), .lit (.int .i64 num), .st false (.arr JT l), .own 1000000000] [(1000000000, .row 4 .bool true sn)] (.lit (.bool (pvT P os pf (k + 1) num l sn).1)) [(1000000000, .row 4 .bool true (pvT P os pf (k + 1) num l sn).2)] := by
  have hll : @List.length JT.T l = l.length := rfl
  have hlp : @List.length NT.T pf = pf.length := rfl
  have hls : @List.length Ty.bool.T sn = pf.length := hsn
  rw [pv_behind hs h3]
  by_cases hz : (pf.getD num N0).2.2.1 = 0 ∧ (pf.getD num N0).2.2.2.1 = 0 ∧ (pf.getD num N0).2.2.2.2.1 = 0 ∧ (pf.getD num N0).2.2.2.2.2.1 = 0
  · have hrd : FnAt Try.prog false 58 [.agg [I64 (pf.getD num N0).1, I64 (pf.getD num N0).2.1, I64 (pf.getD num N0).2.2.1, I64 (pf.getD num N0).2.2.2.1, I64 (pf.getD num N0).2.2.2.2.1, I64 (pf.getD num N0).2.2.2.2.2.1]] (.st true (.ifc 117 (.agg [I64 (pf.getD num N0).2.1]))) [] := by
      rw [h3, hz.1, hz.2.1, hz.2.2.1, hz.2.2.2]; exact read3_at
    have hbh := behind_at (P := P) (l0 := l0) hbd ho (j := (pf.getD num N0).2.1)
    have hbB : behindB l os (pf.getD num N0) = (decide (0 ≤ (pf.getD num N0).2.1 ∧ (pf.getD num N0).2.1 < os.length) && lateT l (os.getD (pf.getD num N0).2.1.toNat O0)) := by
      unfold behindB Nd.a Nd.b Nd.lf Nd.rt Nd.job
      rw [decide_eq_true hz, Bool.true_and]
    rw [← hbB] at hbh
    obtain ⟨B, hB⟩ : ∃ B, B = behindB l os (pf.getD num N0) := ⟨_, rfl⟩
    rw [← hB] at hbh ⊢
    clear hbB hB
    cases B with
    | true =>
      refine FnM.of_body tys_ok Try.func43 (by rfl) rfl Try.ntmps43 (by rw [Try.results43]) (by simp) ?_
  
      repeat' (first
 | refine W.seq ?_
 | refine W.block ?_
 | (refine W.region tys_ok [] ?_; conv => whnf)
 | (refine W.drawAll tys_ok [] mixed rfl ?_; conv => whnf)
 | (refine W.ret ?_; conv => whnf)
 | (refine W.skip ?_; conv => whnf)
 | (refine W.exit ?_; conv => whnf)
 | (refine call_at (al := false) (hrd) rfl rfl rfl rfl ?_; conv => whnf)
 | (refine invoke_at (al := false) (meth117_78) (hbh) rfl rfl rfl rfl ?_; conv => whnf)
 | (refine W.cond rfl (fun hb => ?_) (fun hb => ?_) <;> (try simp only [Int.reduceToNat, Int.reduceTDiv, Int.reduceTMod, minL, maxL, pickB, zHB, zSH] at hb) <;> (try (first | (cases hb; done) | exact absurd hb (by decide) | (exfalso; omega) | (exact Bool.noConfusion (hb.symm.trans hs)))))
 | ((with_reducible refine And.intro ?_ ?_); (focus ((repeat' (first | (with_reducible rfl) | (with_reducible refine And.intro ?_ ?_) | omega | rfl | exact Or.inl rfl | exact Or.inr rfl | exact of_decide_eq_true rfl | exact Path.imp_of (of_decide_eq_true rfl) | (focus ((try simp only [Int.reduceToNat, Int.reduceTDiv, Int.reduceTMod, minL, maxL, pickB, zHB, zSH, InK, Path.imp, List.length_replicate, List.length_set, List.length_append, List.length_cons, List.length_nil] at *); omega)) | (refine app_le rfl ?_; omega))); done)); (conv => whnf))
 | ((with_reducible refine And.intro (Side.out ?_) ?_); rotate_left; (conv => whnf))
 | ((first | refine retM1 ?_ | refine retM2 ?_) <;> (conv => whnf) <;> repeat' (first
 | exact trivial
 | (with_reducible rfl)
 | ((with_reducible refine And.intro ?_ ?_) <;> conv => whnf)
 | omega
 | rfl
 | (refine congrArg (SV.arr _) ?_)
 | (refine congrArg (Value.int _) ?_)
 | (refine congrArg Value.bool ?_)))); all_goals (try unfold Side)
      all_goals try (repeat' (first | (with_reducible rfl) | (with_reducible refine And.intro ?_ ?_) | omega | rfl | exact Or.inl rfl | exact Or.inr rfl | exact of_decide_eq_true rfl | exact Path.imp_of (of_decide_eq_true rfl) | (focus ((try simp only [Int.reduceToNat, Int.reduceTDiv, Int.reduceTMod, minL, maxL, pickB, zHB, zSH, InK, Path.imp, List.length_replicate, List.length_set, List.length_append, List.length_cons, List.length_nil] at *); omega)) | (refine app_le rfl ?_; omega)))
    | false =>
      refine FnM.of_body tys_ok Try.func43 (by rfl) rfl Try.ntmps43 (by rw [Try.results43]) (by simp) ?_
  
      repeat' (first
 | refine W.seq ?_
 | refine W.block ?_
 | (refine W.region tys_ok [] ?_; conv => whnf)
 | (refine W.drawAll tys_ok [] mixed rfl ?_; conv => whnf)
 | (refine W.ret ?_; conv => whnf)
 | (refine W.skip ?_; conv => whnf)
 | (refine W.exit ?_; conv => whnf)
 | (refine call_at (al := false) (hrd) rfl rfl rfl rfl ?_; conv => whnf)
 | (refine invoke_at (al := false) (meth117_78) (hbh) rfl rfl rfl rfl ?_; conv => whnf)
 | (refine W.cond rfl (fun hb => ?_) (fun hb => ?_) <;> (try simp only [Int.reduceToNat, Int.reduceTDiv, Int.reduceTMod, minL, maxL, pickB, zHB, zSH] at hb) <;> (try (first | (cases hb; done) | exact absurd hb (by decide) | (exfalso; omega) | (exact Bool.noConfusion (hb.symm.trans hs)))))
 | ((with_reducible refine And.intro ?_ ?_); (focus ((repeat' (first | (with_reducible rfl) | (with_reducible refine And.intro ?_ ?_) | omega | rfl | exact Or.inl rfl | exact Or.inr rfl | exact of_decide_eq_true rfl | exact Path.imp_of (of_decide_eq_true rfl) | (focus ((try simp only [Int.reduceToNat, Int.reduceTDiv, Int.reduceTMod, minL, maxL, pickB, zHB, zSH, InK, Path.imp, List.length_replicate, List.length_set, List.length_append, List.length_cons, List.length_nil] at *); omega)) | (refine app_le rfl ?_; omega))); done)); (conv => whnf))
 | ((with_reducible refine And.intro (Side.out ?_) ?_); rotate_left; (conv => whnf))
 | ((first | refine retM1 ?_ | refine retM2 ?_) <;> (conv => whnf) <;> repeat' (first
 | exact trivial
 | (with_reducible rfl)
 | ((with_reducible refine And.intro ?_ ?_) <;> conv => whnf)
 | omega
 | rfl
 | (refine congrArg (SV.arr _) ?_)
 | (refine congrArg (Value.int _) ?_)
 | (refine congrArg Value.bool ?_)))); all_goals (try unfold Side)
      all_goals try (repeat' (first | (with_reducible rfl) | (with_reducible refine And.intro ?_ ?_) | omega | rfl | exact Or.inl rfl | exact Or.inr rfl | exact of_decide_eq_true rfl | exact Path.imp_of (of_decide_eq_true rfl) | (focus ((try simp only [Int.reduceToNat, Int.reduceTDiv, Int.reduceTMod, minL, maxL, pickB, zHB, zSH, InK, Path.imp, List.length_replicate, List.length_set, List.length_append, List.length_cons, List.length_nil] at *); omega)) | (refine app_le rfl ?_; omega)))
  · have hrd : FnAt Try.prog false 58 [.agg [I64 (pf.getD num N0).1, I64 (pf.getD num N0).2.1, I64 (pf.getD num N0).2.2.1, I64 (pf.getD num N0).2.2.2.1, I64 (pf.getD num N0).2.2.2.2.1, I64 (pf.getD num N0).2.2.2.2.2.1]] (.lit .nilIface) [] := by
      rw [h3]; exact read3_no hz
    have hbB : behindB l os (pf.getD num N0) = false := by
      unfold behindB Nd.a Nd.b Nd.lf Nd.rt
      rw [decide_eq_false hz, Bool.false_and]
    rw [hbB]
    refine FnM.of_body tys_ok Try.func43 (by rfl) rfl Try.ntmps43 (by rw [Try.results43]) (by simp) ?_
  
    repeat' (first
 | refine W.seq ?_
 | refine W.block ?_
 | (refine W.region tys_ok [] ?_; conv => whnf)
 | (refine W.drawAll tys_ok [] mixed rfl ?_; conv => whnf)
 | (refine W.ret ?_; conv => whnf)
 | (refine W.skip ?_; conv => whnf)
 | (refine W.exit ?_; conv => whnf)
 | (refine call_at (al := false) (hrd) rfl rfl rfl rfl ?_; conv => whnf)
 | (refine W.cond rfl (fun hb => ?_) (fun hb => ?_) <;> (try simp only [Int.reduceToNat, Int.reduceTDiv, Int.reduceTMod, minL, maxL, pickB, zHB, zSH] at hb) <;> (try (first | (cases hb; done) | exact absurd hb (by decide) | (exfalso; omega) | (exact Bool.noConfusion (hb.symm.trans hs)))))
 | ((with_reducible refine And.intro ?_ ?_); (focus ((repeat' (first | (with_reducible rfl) | (with_reducible refine And.intro ?_ ?_) | omega | rfl | exact Or.inl rfl | exact Or.inr rfl | exact of_decide_eq_true rfl | exact Path.imp_of (of_decide_eq_true rfl) | (focus ((try simp only [Int.reduceToNat, Int.reduceTDiv, Int.reduceTMod, minL, maxL, pickB, zHB, zSH, InK, Path.imp, List.length_replicate, List.length_set, List.length_append, List.length_cons, List.length_nil] at *); omega)) | (refine app_le rfl ?_; omega))); done)); (conv => whnf))
 | ((with_reducible refine And.intro (Side.out ?_) ?_); rotate_left; (conv => whnf))
 | ((first | refine retM1 ?_ | refine retM2 ?_) <;> (conv => whnf) <;> repeat' (first
 | exact trivial
 | (with_reducible rfl)
 | ((with_reducible refine And.intro ?_ ?_) <;> conv => whnf)
 | omega
 | rfl
 | (refine congrArg (SV.arr _) ?_)
 | (refine congrArg (Value.int _) ?_)
 | (refine congrArg Value.bool ?_)))); all_goals (try unfold Side)
    all_goals try (repeat' (first | (with_reducible rfl) | (with_reducible refine And.intro ?_ ?_) | omega | rfl | exact Or.inl rfl | exact Or.inr rfl | exact of_decide_eq_true rfl | exact Path.imp_of (of_decide_eq_true rfl) | (focus ((try simp only [Int.reduceToNat, Int.reduceTDiv, Int.reduceTMod, minL, maxL, pickB, zHB, zSH, InK, Path.imp, List.length_replicate, List.length_set, List.length_append, List.length_cons, List.length_nil] at *); omega)) | (refine app_le rfl ?_; omega)))
set_option maxHeartbeats 8000000 in
theorem proves2_at {P : Int} {l0 : List Jb} {os : List Od} {pf : List Nd} (hP : 0 ≤ P ∧ P ≤ 100) (hpf : pf.length ≤ 100000) {k num : Nat} {l : List Jb} {sn : List Bool} (hnum : num < pf.length) (hsn : sn.length = pf.length) (hbd : Bd l) (ho : Ords os l.length) (hs : sn.getD num false = false) (h2 : (pf.getD num N0).1 = 2) :
    FnM Try.prog 43 [.st false (.agg [I64 P, .arr JT l0, .arr OT os]), .st false (.arr NT pf), .lit (.int .i64 num), .st false (.arr JT l), .own 1000000000] [(1000000000, .row 4 .bool true sn)] (.lit (.bool (pvT P os pf (k + 1) num l sn).1)) [(1000000000, .row 4 .bool true (pvT P os pf (k + 1) num l sn).2)] := by
  have hll : @List.length JT.T l = l.length := rfl
  have hlp : @List.length NT.T pf = pf.length := rfl
  have hls : @List.length Ty.bool.T sn = pf.length := hsn
  rw [pv_crowd hs h2]
  by_cases hz : (pf.getD num N0).2.1 = 0 ∧ (pf.getD num N0).2.2.2.2.1 = 0 ∧ (pf.getD num N0).2.2.2.2.2.1 = 0
  · have hrd : FnAt Try.prog false 58 [.agg [I64 (pf.getD num N0).1, I64 (pf.getD num N0).2.1, I64 (pf.getD num N0).2.2.1, I64 (pf.getD num N0).2.2.2.1, I64 (pf.getD num N0).2.2.2.2.1, I64 (pf.getD num N0).2.2.2.2.2.1]] (.st true (.ifc 115 (.agg [I64 (pf.getD num N0).2.2.1, I64 (pf.getD num N0).2.2.2.1]))) [] := by
      rw [h2, hz.1, hz.2.1, hz.2.2]; exact read2_at
    have hbh := crowd_at (os := os) (l0 := l0) hbd hP (a := (pf.getD num N0).2.2.1) (b := (pf.getD num N0).2.2.2.1)
    have hbB : crowdB P l (pf.getD num N0) = (decide (0 ≤ (pf.getD num N0).2.2.1 ∧ (pf.getD num N0).2.2.1 < (pf.getD num N0).2.2.2.1 ∧ (pf.getD num N0).2.2.2.1 ≤ 24) && decide (P * ((pf.getD num N0).2.2.2.1 - (pf.getD num N0).2.2.1) < needsT l (pf.getD num N0).2.2.1 (pf.getD num N0).2.2.2.1)) := by
      unfold crowdB Nd.a Nd.b Nd.lf Nd.rt Nd.job
      rw [decide_eq_true hz, Bool.true_and]
    rw [← hbB] at hbh
    obtain ⟨B, hB⟩ : ∃ B, B = crowdB P l (pf.getD num N0) := ⟨_, rfl⟩
    rw [← hB] at hbh ⊢
    clear hbB hB
    cases B with
    | true =>
      refine FnM.of_body tys_ok Try.func43 (by rfl) rfl Try.ntmps43 (by rw [Try.results43]) (by simp) ?_
  
      repeat' (first
 | refine W.seq ?_
 | refine W.block ?_
 | (refine W.region tys_ok [] ?_; conv => whnf)
 | (refine W.drawAll tys_ok [] mixed rfl ?_; conv => whnf)
 | (refine W.ret ?_; conv => whnf)
 | (refine W.skip ?_; conv => whnf)
 | (refine W.exit ?_; conv => whnf)
 | (refine call_at (al := false) (hrd) rfl rfl rfl rfl ?_; conv => whnf)
 | (refine invoke_at (al := false) (meth115_77) (hbh) rfl rfl rfl rfl ?_; conv => whnf)
 | (refine W.cond rfl (fun hb => ?_) (fun hb => ?_) <;> (try simp only [Int.reduceToNat, Int.reduceTDiv, Int.reduceTMod, minL, maxL, pickB, zHB, zSH] at hb) <;> (try (first | (cases hb; done) | exact absurd hb (by decide) | (exfalso; omega) | (exact Bool.noConfusion (hb.symm.trans hs)))))
 | ((with_reducible refine And.intro ?_ ?_); (focus ((repeat' (first | (with_reducible rfl) | (with_reducible refine And.intro ?_ ?_) | omega | rfl | exact Or.inl rfl | exact Or.inr rfl | exact of_decide_eq_true rfl | exact Path.imp_of (of_decide_eq_true rfl) | (focus ((try simp only [Int.reduceToNat, Int.reduceTDiv, Int.reduceTMod, minL, maxL, pickB, zHB, zSH, InK, Path.imp, List.length_replicate, List.length_set, List.length_append, List.length_cons, List.length_nil] at *); omega)) | (refine app_le rfl ?_; omega))); done)); (conv => whnf))
 | ((with_reducible refine And.intro (Side.out ?_) ?_); rotate_left; (conv => whnf))
 | ((first | refine retM1 ?_ | refine retM2 ?_) <;> (conv => whnf) <;> repeat' (first
 | exact trivial
 | (with_reducible rfl)
 | ((with_reducible refine And.intro ?_ ?_) <;> conv => whnf)
 | omega
 | rfl
 | (refine congrArg (SV.arr _) ?_)
 | (refine congrArg (Value.int _) ?_)
 | (refine congrArg Value.bool ?_)))); all_goals (try unfold Side)
      all_goals try (repeat' (first | (with_reducible rfl) | (with_reducible refine And.intro ?_ ?_) | omega | rfl | exact Or.inl rfl | exact Or.inr rfl | exact of_decide_eq_true rfl | exact Path.imp_of (of_decide_eq_true rfl) | (focus ((try simp only [Int.reduceToNat, Int.reduceTDiv, Int.reduceTMod, minL, maxL, pickB, zHB, zSH, InK, Path.imp, List.length_replicate, List.length_set, List.length_append, List.length_cons, List.length_nil] at *); omega)) | (refine app_le rfl ?_; omega)))
    | false =>
      refine FnM.of_body tys_ok Try.func43 (by rfl) rfl Try.ntmps43 (by rw [Try.results43]) (by simp) ?_
  
      repeat' (first
 | refine W.seq ?_
 | refine W.block ?_
 | (refine W.region tys_ok [] ?_; conv => whnf)
 | (refine W.drawAll tys_ok [] mixed rfl ?_; conv => whnf)
 | (refine W.ret ?_; conv => whnf)
 | (refine W.skip ?_; conv => whnf)
 | (refine W.exit ?_; conv => whnf)
 | (refine call_at (al := false) (hrd) rfl rfl rfl rfl ?_; conv => whnf)
 | (refine invoke_at (al := false) (meth115_77) (hbh) rfl rfl rfl rfl ?_; conv => whnf)
 | (refine W.cond rfl (fun hb => ?_) (fun hb => ?_) <;> (try simp only [Int.reduceToNat, Int.reduceTDiv, Int.reduceTMod, minL, maxL, pickB, zHB, zSH] at hb) <;> (try (first | (cases hb; done) | exact absurd hb (by decide) | (exfalso; omega) | (exact Bool.noConfusion (hb.symm.trans hs)))))
 | ((with_reducible refine And.intro ?_ ?_); (focus ((repeat' (first | (with_reducible rfl) | (with_reducible refine And.intro ?_ ?_) | omega | rfl | exact Or.inl rfl | exact Or.inr rfl | exact of_decide_eq_true rfl | exact Path.imp_of (of_decide_eq_true rfl) | (focus ((try simp only [Int.reduceToNat, Int.reduceTDiv, Int.reduceTMod, minL, maxL, pickB, zHB, zSH, InK, Path.imp, List.length_replicate, List.length_set, List.length_append, List.length_cons, List.length_nil] at *); omega)) | (refine app_le rfl ?_; omega))); done)); (conv => whnf))
 | ((with_reducible refine And.intro (Side.out ?_) ?_); rotate_left; (conv => whnf))
 | ((first | refine retM1 ?_ | refine retM2 ?_) <;> (conv => whnf) <;> repeat' (first
 | exact trivial
 | (with_reducible rfl)
 | ((with_reducible refine And.intro ?_ ?_) <;> conv => whnf)
 | omega
 | rfl
 | (refine congrArg (SV.arr _) ?_)
 | (refine congrArg (Value.int _) ?_)
 | (refine congrArg Value.bool ?_)))); all_goals (try unfold Side)
      all_goals try (repeat' (first | (with_reducible rfl) | (with_reducible refine And.intro ?_ ?_) | omega | rfl | exact Or.inl rfl | exact Or.inr rfl | exact of_decide_eq_true rfl | exact Path.imp_of (of_decide_eq_true rfl) | (focus ((try simp only [Int.reduceToNat, Int.reduceTDiv, Int.reduceTMod, minL, maxL, pickB, zHB, zSH, InK, Path.imp, List.length_replicate, List.length_set, List.length_append, List.length_cons, List.length_nil] at *); omega)) | (refine app_le rfl ?_; omega)))
  · have hrd : FnAt Try.prog false 58 [.agg [I64 (pf.getD num N0).1, I64 (pf.getD num N0).2.1, I64 (pf.getD num N0).2.2.1, I64 (pf.getD num N0).2.2.2.1, I64 (pf.getD num N0).2.2.2.2.1, I64 (pf.getD num N0).2.2.2.2.2.1]] (.lit .nilIface) [] := by
      rw [h2]; exact read2_no hz
    have hbB : crowdB P l (pf.getD num N0) = false := by
      unfold crowdB Nd.lf Nd.rt Nd.job
      rw [decide_eq_false hz, Bool.false_and]
    rw [hbB]
    refine FnM.of_body tys_ok Try.func43 (by rfl) rfl Try.ntmps43 (by rw [Try.results43]) (by simp) ?_
  
    repeat' (first
 | refine W.seq ?_
 | refine W.block ?_
 | (refine W.region tys_ok [] ?_; conv => whnf)
 | (refine W.drawAll tys_ok [] mixed rfl ?_; conv => whnf)
 | (refine W.ret ?_; conv => whnf)
 | (refine W.skip ?_; conv => whnf)
 | (refine W.exit ?_; conv => whnf)
 | (refine call_at (al := false) (hrd) rfl rfl rfl rfl ?_; conv => whnf)
 | (refine W.cond rfl (fun hb => ?_) (fun hb => ?_) <;> (try simp only [Int.reduceToNat, Int.reduceTDiv, Int.reduceTMod, minL, maxL, pickB, zHB, zSH] at hb) <;> (try (first | (cases hb; done) | exact absurd hb (by decide) | (exfalso; omega) | (exact Bool.noConfusion (hb.symm.trans hs)))))
 | ((with_reducible refine And.intro ?_ ?_); (focus ((repeat' (first | (with_reducible rfl) | (with_reducible refine And.intro ?_ ?_) | omega | rfl | exact Or.inl rfl | exact Or.inr rfl | exact of_decide_eq_true rfl | exact Path.imp_of (of_decide_eq_true rfl) | (focus ((try simp only [Int.reduceToNat, Int.reduceTDiv, Int.reduceTMod, minL, maxL, pickB, zHB, zSH, InK, Path.imp, List.length_replicate, List.length_set, List.length_append, List.length_cons, List.length_nil] at *); omega)) | (refine app_le rfl ?_; omega))); done)); (conv => whnf))
 | ((with_reducible refine And.intro (Side.out ?_) ?_); rotate_left; (conv => whnf))
 | ((first | refine retM1 ?_ | refine retM2 ?_) <;> (conv => whnf) <;> repeat' (first
 | exact trivial
 | (with_reducible rfl)
 | ((with_reducible refine And.intro ?_ ?_) <;> conv => whnf)
 | omega
 | rfl
 | (refine congrArg (SV.arr _) ?_)
 | (refine congrArg (Value.int _) ?_)
 | (refine congrArg Value.bool ?_)))); all_goals (try unfold Side)
    all_goals try (repeat' (first | (with_reducible rfl) | (with_reducible refine And.intro ?_ ?_) | omega | rfl | exact Or.inl rfl | exact Or.inr rfl | exact of_decide_eq_true rfl | exact Path.imp_of (of_decide_eq_true rfl) | (focus ((try simp only [Int.reduceToNat, Int.reduceTDiv, Int.reduceTMod, minL, maxL, pickB, zHB, zSH, InK, Path.imp, List.length_replicate, List.length_set, List.length_append, List.length_cons, List.length_nil] at *); omega)) | (refine app_le rfl ?_; omega)))
set_option maxHeartbeats 8000000 in
theorem provesMF_at {P : Int} {l0 : List Jb} {os : List Od} {pf : List Nd} (hP : 0 ≤ P ∧ P ≤ 100) (hpf : pf.length ≤ 100000) {k num : Nat} {l : List Jb} {sn : List Bool} (hnum : num < pf.length) (hsn : sn.length = pf.length) (hbd : Bd l) (ho : Ords os l.length) (hs : sn.getD num false = false) (h1 : (pf.getD num N0).1 = 1) (hz : (pf.getD num N0).2.2.2.1 = 0) (hq : (0 ≤ (pf.getD num N0).2.1 ∧ (pf.getD num N0).2.1 < l.length) ∧ (jf l (pf.getD num N0).2.1.toNat ≤ (pf.getD num N0).2.2.1 ∧ (pf.getD num N0).2.2.1 < jt l (pf.getD num N0).2.1.toNat - jl l (pf.getD num N0).2.1.toNat))
    (hw : ((num : Int) < (pf.getD num N0).2.2.2.2.1 ∧ (num : Int) < (pf.getD num N0).2.2.2.2.2.1) ∧ (pf.getD num N0).2.2.2.2.1 < pf.length ∧ (pf.getD num N0).2.2.2.2.2.1 < pf.length) {L R : List Jb} {S1 S2 : List Bool} {B2 : Bool} (hl1 : S1.length = pf.length) (hjn : (pf.getD num N0).2.1.toNat < l.length)
    (hpt : FnAt Try.prog false 57 [.arr JT l, I64 (pf.getD num N0).2.1, I64 (pf.getD num N0).2.2.1] (.tup [.own 0, .own 1]) [(0, .row 45 JT true L), (1, .row 45 JT true R)])
    (c1' : FnM Try.prog 43 [.st false (.agg [I64 P, .arr JT l0, .arr OT os]), .st false (.arr NT pf), .lit (.int .i64 (pf.getD num N0).2.2.2.2.1), .st false (.arr JT L), .own 1000000000] [(1000000000, .row 4 .bool true (sn.set num true))] (.lit (.bool false)) [(1000000000, .row 4 .bool true S1)]) :
    FnM Try.prog 43 [.st false (.agg [I64 P, .arr JT l0, .arr OT os]), .st false (.arr NT pf), .lit (.int .i64 num), .st false (.arr JT l), .own 1000000000] [(1000000000, .row 4 .bool true sn)] (.lit (.bool false)) [(1000000000, .row 4 .bool true S1)] := by
  have hll : @List.length JT.T l = l.length := rfl
  have hlp : @List.length NT.T pf = pf.length := rfl
  have hls : @List.length Ty.bool.T sn = pf.length := hsn
  have hrd : FnAt Try.prog false 58 [.agg [I64 (pf.getD num N0).1, I64 (pf.getD num N0).2.1, I64 (pf.getD num N0).2.2.1, I64 (pf.getD num N0).2.2.2.1, I64 (pf.getD num N0).2.2.2.2.1, I64 (pf.getD num N0).2.2.2.2.2.1]] (.st true (.ifc 112 (.agg [I64 (pf.getD num N0).2.1, I64 (pf.getD num N0).2.2.1, I64 (pf.getD num N0).2.2.2.2.1, I64 (pf.getD num N0).2.2.2.2.2.1]))) [] := by
    rw [h1, hz]; exact read1_at
  have hbh := split_at (P := P) (os := os) (l0 := l0) hbd (j := (pf.getD num N0).2.1) (a := (pf.getD num N0).2.2.1) (lf := (pf.getD num N0).2.2.2.2.1) (rt := (pf.getD num N0).2.2.2.2.2.1)
  rw [decide_eq_true hq.1, decide_eq_true hq.2] at hbh
  have hbh2 : FnAt Try.prog false 76 [.agg [I64 (pf.getD num N0).2.1, I64 (pf.getD num N0).2.2.1, I64 (pf.getD num N0).2.2.2.2.1, I64 (pf.getD num N0).2.2.2.2.2.1], .agg [I64 P, .arr JT l0, .arr OT os], .arr JT l] (.lit (.bool true)) [] := hbh
  refine FnM.of_body tys_ok Try.func43 (by rfl) rfl Try.ntmps43 (by rw [Try.results43]) (by simp) ?_
  
  repeat' (first
 | refine W.seq ?_
 | refine W.block ?_
 | (refine W.resub (x := Code.region 5 _ _) (Γ' := ⟨[(1, .st false (.arr NT pf)), (2, .lit (.int .i64 (num))), (3, .st false (.arr JT l)), (4, .own 1000000000), (5, .st false (.sadr (.agg [I64 P, .arr JT l0, .arr OT os]))), (11, .st true (.ifc 112 (.agg [I64 (pf.getD num N0).2.1, I64 (pf.getD num N0).2.2.1, I64 (pf.getD num N0).2.2.2.2.1, I64 (pf.getD num N0).2.2.2.2.2.1])))], [(1000000000, .row 4 .bool true (sn.set num true))]⟩) ?_ (W.region tys_ok [] ?_); rotate_left; (conv => whnf))
 | (refine W.resub (x := Code.region 10 _ _) (Γ' := ⟨[(1, .st false (.arr NT pf)), (2, .lit (.int .i64 (num))), (3, .st false (.arr JT l)), (4, .own 1000000000), (5, .st false (.sadr (.agg [I64 P, .arr JT l0, .arr OT os]))), (12, .st true (.sadr (.agg [I64 (pf.getD num N0).2.1, I64 (pf.getD num N0).2.2.1, I64 (pf.getD num N0).2.2.2.2.1, I64 (pf.getD num N0).2.2.2.2.2.1])))], [(1000000000, .row 4 .bool true (sn.set num true))]⟩) ?_ (W.region tys_ok [] ?_); rotate_left; (conv => whnf))
 | (refine W.resub (x := Code.region 13 _ _) (Γ' := ⟨[(1, .st false (.arr NT pf)), (4, .own 1000000000), (5, .st false (.sadr (.agg [I64 P, .arr JT l0, .arr OT os]))), (12, .st true (.sadr (.agg [I64 (pf.getD num N0).2.1, I64 (pf.getD num N0).2.2.1, I64 (pf.getD num N0).2.2.2.2.1, I64 (pf.getD num N0).2.2.2.2.2.1]))), (13, .st true (.arr JT L)), (14, .st true (.arr JT R))], [(1000000000, .row 4 .bool true (sn.set num true))]⟩) ?_ (W.regionM tys_ok [] [6,14] ?_); rotate_left; (conv => whnf))
 | (refine W.region tys_ok [] ?_; conv => whnf)
 | (refine W.drawAll tys_ok [] mixed rfl ?_; conv => whnf)
 | (refine W.ret ?_; conv => whnf)
 | (refine W.skip ?_; conv => whnf)
 | (refine W.exit ?_; conv => whnf)
 | (refine call_at (al := false) (hrd) rfl rfl rfl rfl ?_; conv => whnf)
 | (refine invoke_at (al := false) (meth112_76) (hbh2) rfl rfl rfl rfl ?_; conv => whnf)
 | (refine call_at (al := false) (hpt) rfl rfl rfl rfl ?_; conv => whnf)
 | (refine callM_at (c1') ?_; clear c1'; conv => whnf)
 | (refine W.cond rfl (fun hb => ?_) (fun hb => ?_) <;> (try simp only [Int.reduceToNat, Int.reduceTDiv, Int.reduceTMod, minL, maxL, pickB, zHB, zSH] at hb) <;> (try (first | (cases hb; done) | exact absurd hb (by decide) | (exfalso; omega) | (first | exact Bool.noConfusion (hb.symm.trans hs) | (rcases hb with h9 | h9; (have h8 := of_decide_eq_true h9; omega); omega)))))
 | (refine Or.inl (And.intro ?_ ?_); (focus (first | exact trivial | exact ⟨rfl, trivial⟩ | (refine ⟨?_, trivial⟩; dsimp only; simp only [Int.reduceToNat, Int.reduceTDiv, Int.reduceTMod, minL, maxL, pickB, zHB, zSH]; omega))); (conv => whnf))
 | (refine Or.inr (And.intro ?_ ?_); (focus (intro h; have h := h.1; dsimp only at h; first | (exact Bool.noConfusion h) | (simp only [Int.reduceToNat, Int.reduceTDiv, Int.reduceTMod, minL, maxL, pickB, zHB, zSH] at h; omega))); (conv => whnf))
 | ((with_reducible refine And.intro ?_ ?_); (focus ((repeat' (first | (with_reducible rfl) | (with_reducible refine And.intro ?_ ?_) | omega | rfl | exact Or.inl rfl | exact Or.inr rfl | exact of_decide_eq_true rfl | exact Path.imp_of (of_decide_eq_true rfl) | (focus ((try simp only [Int.reduceToNat, Int.reduceTDiv, Int.reduceTMod, minL, maxL, pickB, zHB, zSH, InK, Path.imp, List.length_replicate, List.length_set, List.length_append, List.length_cons, List.length_nil] at *); omega)) | (refine app_le rfl ?_; omega))); done)); (conv => whnf))
 | ((with_reducible refine And.intro (Side.out ?_) ?_); rotate_left; (conv => whnf))
 | ((first | refine retM1 ?_ | refine retM2 ?_) <;> (conv => whnf) <;> repeat' (first
 | exact trivial
 | (with_reducible rfl)
 | ((with_reducible refine And.intro ?_ ?_) <;> conv => whnf)
 | omega
 | rfl
 | (refine congrArg (SV.arr _) ?_)
 | (refine congrArg (Value.int _) ?_)
 | (refine congrArg Value.bool ?_)))); all_goals (try unfold Side)
  all_goals try (repeat' (first | (with_reducible rfl) | (with_reducible refine And.intro ?_ ?_) | omega | rfl | exact Or.inl rfl | exact Or.inr rfl | exact of_decide_eq_true rfl | exact Path.imp_of (of_decide_eq_true rfl) | (focus ((try simp only [Int.reduceToNat, Int.reduceTDiv, Int.reduceTMod, minL, maxL, pickB, zHB, zSH, InK, Path.imp, List.length_replicate, List.length_set, List.length_append, List.length_cons, List.length_nil] at *); omega)) | (refine app_le rfl ?_; omega)))
  all_goals refine subF.ok ?_ <;> (conv => whnf) <;> repeat' (first
 | exact trivial
 | (with_reducible rfl)
 | ((with_reducible refine And.intro ?_ ?_) <;> conv => whnf)
 | omega
 | rfl
 | (refine congrArg (SV.arr _) ?_)
 | (refine congrArg (Value.int _) ?_)
 | (refine congrArg Value.bool ?_))
set_option maxHeartbeats 8000000 in
theorem provesMT_at {P : Int} {l0 : List Jb} {os : List Od} {pf : List Nd} (hP : 0 ≤ P ∧ P ≤ 100) (hpf : pf.length ≤ 100000) {k num : Nat} {l : List Jb} {sn : List Bool} (hnum : num < pf.length) (hsn : sn.length = pf.length) (hbd : Bd l) (ho : Ords os l.length) (hs : sn.getD num false = false) (h1 : (pf.getD num N0).1 = 1) (hz : (pf.getD num N0).2.2.2.1 = 0) (hq : (0 ≤ (pf.getD num N0).2.1 ∧ (pf.getD num N0).2.1 < l.length) ∧ (jf l (pf.getD num N0).2.1.toNat ≤ (pf.getD num N0).2.2.1 ∧ (pf.getD num N0).2.2.1 < jt l (pf.getD num N0).2.1.toNat - jl l (pf.getD num N0).2.1.toNat))
    (hw : ((num : Int) < (pf.getD num N0).2.2.2.2.1 ∧ (num : Int) < (pf.getD num N0).2.2.2.2.2.1) ∧ (pf.getD num N0).2.2.2.2.1 < pf.length ∧ (pf.getD num N0).2.2.2.2.2.1 < pf.length) {L R : List Jb} {S1 S2 : List Bool} {B2 : Bool} (hl1 : S1.length = pf.length) (hjn : (pf.getD num N0).2.1.toNat < l.length)
    (hpt : FnAt Try.prog false 57 [.arr JT l, I64 (pf.getD num N0).2.1, I64 (pf.getD num N0).2.2.1] (.tup [.own 0, .own 1]) [(0, .row 45 JT true L), (1, .row 45 JT true R)])
    (c1' : FnM Try.prog 43 [.st false (.agg [I64 P, .arr JT l0, .arr OT os]), .st false (.arr NT pf), .lit (.int .i64 (pf.getD num N0).2.2.2.2.1), .st false (.arr JT L), .own 1000000000] [(1000000000, .row 4 .bool true (sn.set num true))] (.lit (.bool true)) [(1000000000, .row 4 .bool true S1)])
    (c2' : FnM Try.prog 43 [.st false (.agg [I64 P, .arr JT l0, .arr OT os]), .st false (.arr NT pf), .lit (.int .i64 (pf.getD num N0).2.2.2.2.2.1), .st false (.arr JT R), .own 1000000000] [(1000000000, .row 4 .bool true S1)] (.lit (.bool B2)) [(1000000000, .row 4 .bool true S2)]) :
    FnM Try.prog 43 [.st false (.agg [I64 P, .arr JT l0, .arr OT os]), .st false (.arr NT pf), .lit (.int .i64 num), .st false (.arr JT l), .own 1000000000] [(1000000000, .row 4 .bool true sn)] (.lit (.bool B2)) [(1000000000, .row 4 .bool true S2)] := by
  have hll : @List.length JT.T l = l.length := rfl
  have hlp : @List.length NT.T pf = pf.length := rfl
  have hls : @List.length Ty.bool.T sn = pf.length := hsn
  have hrd : FnAt Try.prog false 58 [.agg [I64 (pf.getD num N0).1, I64 (pf.getD num N0).2.1, I64 (pf.getD num N0).2.2.1, I64 (pf.getD num N0).2.2.2.1, I64 (pf.getD num N0).2.2.2.2.1, I64 (pf.getD num N0).2.2.2.2.2.1]] (.st true (.ifc 112 (.agg [I64 (pf.getD num N0).2.1, I64 (pf.getD num N0).2.2.1, I64 (pf.getD num N0).2.2.2.2.1, I64 (pf.getD num N0).2.2.2.2.2.1]))) [] := by
    rw [h1, hz]; exact read1_at
  have hbh := split_at (P := P) (os := os) (l0 := l0) hbd (j := (pf.getD num N0).2.1) (a := (pf.getD num N0).2.2.1) (lf := (pf.getD num N0).2.2.2.2.1) (rt := (pf.getD num N0).2.2.2.2.2.1)
  rw [decide_eq_true hq.1, decide_eq_true hq.2] at hbh
  have hbh2 : FnAt Try.prog false 76 [.agg [I64 (pf.getD num N0).2.1, I64 (pf.getD num N0).2.2.1, I64 (pf.getD num N0).2.2.2.2.1, I64 (pf.getD num N0).2.2.2.2.2.1], .agg [I64 P, .arr JT l0, .arr OT os], .arr JT l] (.lit (.bool true)) [] := hbh
  refine FnM.of_body tys_ok Try.func43 (by rfl) rfl Try.ntmps43 (by rw [Try.results43]) (by simp) ?_
  
  repeat' (first
 | refine W.seq ?_
 | refine W.block ?_
 | (refine W.resub (x := Code.region 5 _ _) (Γ' := ⟨[(1, .st false (.arr NT pf)), (2, .lit (.int .i64 (num))), (3, .st false (.arr JT l)), (4, .own 1000000000), (5, .st false (.sadr (.agg [I64 P, .arr JT l0, .arr OT os]))), (11, .st true (.ifc 112 (.agg [I64 (pf.getD num N0).2.1, I64 (pf.getD num N0).2.2.1, I64 (pf.getD num N0).2.2.2.2.1, I64 (pf.getD num N0).2.2.2.2.2.1])))], [(1000000000, .row 4 .bool true (sn.set num true))]⟩) ?_ (W.region tys_ok [] ?_); rotate_left; (conv => whnf))
 | (refine W.resub (x := Code.region 10 _ _) (Γ' := ⟨[(1, .st false (.arr NT pf)), (2, .lit (.int .i64 (num))), (3, .st false (.arr JT l)), (4, .own 1000000000), (5, .st false (.sadr (.agg [I64 P, .arr JT l0, .arr OT os]))), (12, .st true (.sadr (.agg [I64 (pf.getD num N0).2.1, I64 (pf.getD num N0).2.2.1, I64 (pf.getD num N0).2.2.2.2.1, I64 (pf.getD num N0).2.2.2.2.2.1])))], [(1000000000, .row 4 .bool true (sn.set num true))]⟩) ?_ (W.region tys_ok [] ?_); rotate_left; (conv => whnf))
 | (refine W.resub (x := Code.region 13 _ _) (Γ' := ⟨[(1, .st false (.arr NT pf)), (4, .own 1000000000), (5, .st false (.sadr (.agg [I64 P, .arr JT l0, .arr OT os]))), (12, .st true (.sadr (.agg [I64 (pf.getD num N0).2.1, I64 (pf.getD num N0).2.2.1, I64 (pf.getD num N0).2.2.2.2.1, I64 (pf.getD num N0).2.2.2.2.2.1]))), (13, .st true (.arr JT L)), (14, .st true (.arr JT R))], [(1000000000, .row 4 .bool true (sn.set num true))]⟩) ?_ (W.regionM tys_ok [] [6,14] ?_); rotate_left; (conv => whnf))
 | (refine W.region tys_ok [] ?_; conv => whnf)
 | (refine W.drawAll tys_ok [] mixed rfl ?_; conv => whnf)
 | (refine W.ret ?_; conv => whnf)
 | (refine W.skip ?_; conv => whnf)
 | (refine W.exit ?_; conv => whnf)
 | (refine call_at (al := false) (hrd) rfl rfl rfl rfl ?_; conv => whnf)
 | (refine invoke_at (al := false) (meth112_76) (hbh2) rfl rfl rfl rfl ?_; conv => whnf)
 | (refine call_at (al := false) (hpt) rfl rfl rfl rfl ?_; conv => whnf)
 | (refine callM_at (c1') ?_; clear c1'; conv => whnf)
 | (refine callM_at (c2') ?_; conv => whnf)
 | (refine W.cond rfl (fun hb => ?_) (fun hb => ?_) <;> (try simp only [Int.reduceToNat, Int.reduceTDiv, Int.reduceTMod, minL, maxL, pickB, zHB, zSH] at hb) <;> (try (first | (cases hb; done) | exact absurd hb (by decide) | (exfalso; omega) | (first | exact Bool.noConfusion (hb.symm.trans hs) | (rcases hb with h9 | h9; (have h8 := of_decide_eq_true h9; omega); omega)))))
 | (refine Or.inl (And.intro ?_ ?_); (focus (first | exact trivial | exact ⟨rfl, trivial⟩ | (refine ⟨?_, trivial⟩; dsimp only; simp only [Int.reduceToNat, Int.reduceTDiv, Int.reduceTMod, minL, maxL, pickB, zHB, zSH]; omega))); (conv => whnf))
 | (refine Or.inr (And.intro ?_ ?_); (focus (intro h; have h := h.1; dsimp only at h; first | (exact Bool.noConfusion h) | (simp only [Int.reduceToNat, Int.reduceTDiv, Int.reduceTMod, minL, maxL, pickB, zHB, zSH] at h; omega))); (conv => whnf))
 | ((with_reducible refine And.intro ?_ ?_); (focus ((repeat' (first | (with_reducible rfl) | (with_reducible refine And.intro ?_ ?_) | omega | rfl | exact Or.inl rfl | exact Or.inr rfl | exact of_decide_eq_true rfl | exact Path.imp_of (of_decide_eq_true rfl) | (focus ((try simp only [Int.reduceToNat, Int.reduceTDiv, Int.reduceTMod, minL, maxL, pickB, zHB, zSH, InK, Path.imp, List.length_replicate, List.length_set, List.length_append, List.length_cons, List.length_nil] at *); omega)) | (refine app_le rfl ?_; omega))); done)); (conv => whnf))
 | ((with_reducible refine And.intro (Side.out ?_) ?_); rotate_left; (conv => whnf))
 | ((first | refine retM1 ?_ | refine retM2 ?_) <;> (conv => whnf) <;> repeat' (first
 | exact trivial
 | (with_reducible rfl)
 | ((with_reducible refine And.intro ?_ ?_) <;> conv => whnf)
 | omega
 | rfl
 | (refine congrArg (SV.arr _) ?_)
 | (refine congrArg (Value.int _) ?_)
 | (refine congrArg Value.bool ?_)))); all_goals (try unfold Side)
  all_goals try (repeat' (first | (with_reducible rfl) | (with_reducible refine And.intro ?_ ?_) | omega | rfl | exact Or.inl rfl | exact Or.inr rfl | exact of_decide_eq_true rfl | exact Path.imp_of (of_decide_eq_true rfl) | (focus ((try simp only [Int.reduceToNat, Int.reduceTDiv, Int.reduceTMod, minL, maxL, pickB, zHB, zSH, InK, Path.imp, List.length_replicate, List.length_set, List.length_append, List.length_cons, List.length_nil] at *); omega)) | (refine app_le rfl ?_; omega)))
  all_goals refine subF.ok ?_ <;> (conv => whnf) <;> repeat' (first
 | exact trivial
 | (with_reducible rfl)
 | ((with_reducible refine And.intro ?_ ?_) <;> conv => whnf)
 | omega
 | rfl
 | (refine congrArg (SV.arr _) ?_)
 | (refine congrArg (Value.int _) ?_)
 | (refine congrArg Value.bool ?_))
theorem provesM_at {P : Int} {l0 : List Jb} {os : List Od} {pf : List Nd} (hP : 0 ≤ P ∧ P ≤ 100) (hpf : pf.length ≤ 100000) {k num : Nat} {l : List Jb} {sn : List Bool} (hnum : num < pf.length) (hsn : sn.length = pf.length) (hbd : Bd l) (ho : Ords os l.length) (hs : sn.getD num false = false) (h1 : (pf.getD num N0).1 = 1) (hz : (pf.getD num N0).2.2.2.1 = 0) (hq : (0 ≤ (pf.getD num N0).2.1 ∧ (pf.getD num N0).2.1 < l.length) ∧ (jf l (pf.getD num N0).2.1.toNat ≤ (pf.getD num N0).2.2.1 ∧ (pf.getD num N0).2.2.1 < jt l (pf.getD num N0).2.1.toNat - jl l (pf.getD num N0).2.1.toNat))
    (hw : ((num : Int) < (pf.getD num N0).2.2.2.2.1 ∧ (num : Int) < (pf.getD num N0).2.2.2.2.2.1) ∧ (pf.getD num N0).2.2.2.2.1 < pf.length ∧ (pf.getD num N0).2.2.2.2.2.1 < pf.length)
    (ih : ∀ (n : Nat) (l' : List Jb) (sn' : List Bool), num < n → n < pf.length → sn'.length = pf.length → Bd l' → l'.length = l.length →
      FnM Try.prog 43 [.st false (.agg [I64 P, .arr JT l0, .arr OT os]), .st false (.arr NT pf), .lit (.int .i64 n), .st false (.arr JT l'), .own 1000000000] [(1000000000, .row 4 .bool true sn')] (.lit (.bool (pvT P os pf k n l' sn').1)) [(1000000000, .row 4 .bool true (pvT P os pf k n l' sn').2)]) :
    FnM Try.prog 43 [.st false (.agg [I64 P, .arr JT l0, .arr OT os]), .st false (.arr NT pf), .lit (.int .i64 num), .st false (.arr JT l), .own 1000000000] [(1000000000, .row 4 .bool true sn)] (.lit (.bool (pvT P os pf (k + 1) num l sn).1)) [(1000000000, .row 4 .bool true (pvT P os pf (k + 1) num l sn).2)] := by
  have hll : @List.length JT.T l = l.length := rfl
  have hlp : @List.length NT.T pf = pf.length := rfl
  have hls : @List.length Ty.bool.T sn = pf.length := hsn
  rw [pv_split hs h1 (split_iff.2 ⟨hz, hq.1, hq.2, hw⟩)]
  have hrj := hbd.rg (pf.getD num N0).2.1.toNat (by omega)
  have hjn : (pf.getD num N0).2.1.toNat < l.length := by omega
  obtain ⟨bL, bR, lL, lR⟩ := part_bd hbd hjn hq.2
  have hpt := parted_at hbd (j := (pf.getD num N0).2.1) (a := (pf.getD num N0).2.2.1) hq.1 (by omega)
  have hlf : (((pf.getD num N0).2.2.2.2.1.toNat : Nat) : Int) = (pf.getD num N0).2.2.2.2.1 := by omega
  have hrt : (((pf.getD num N0).2.2.2.2.2.1.toNat : Nat) : Int) = (pf.getD num N0).2.2.2.2.2.1 := by omega
  have hsl1 : (sn.set num true).length = pf.length := by rw [List.length_set]; exact hsn
  have c1 := ih (pf.getD num N0).2.2.2.2.1.toNat (partL l (pf.getD num N0).2.1.toNat (pf.getD num N0).2.2.1) (sn.set num true) (by omega) (by omega) hsl1 bL lL
  have c2 := fun sn' hsn' => ih (pf.getD num N0).2.2.2.2.2.1.toNat (partR l (pf.getD num N0).2.1.toNat (pf.getD num N0).2.2.1) sn' (by omega) (by omega) hsn' bR lR
  have hl1 := pv_len (P := P) (os := os) (pf := pf) (k := k) (num := (pf.getD num N0).2.2.2.2.1.toNat) (l := partL l (pf.getD num N0).2.1.toNat (pf.getD num N0).2.2.1) (sn := sn.set num true)
  rw [hlf] at c1
  rw [hrt] at c2
  obtain ⟨r1, hr1⟩ : ∃ r1, r1 = pvT P os pf k (pf.getD num N0).2.2.2.2.1.toNat (partL l (pf.getD num N0).2.1.toNat (pf.getD num N0).2.2.1) (sn.set num true) := ⟨_, rfl⟩
  rw [← hr1] at c1 hl1 ⊢
  obtain ⟨B1, S1⟩ := r1
  have hl1' : S1.length = pf.length := by rw [← hsl1]; exact hl1
  have c2 := c2 S1 hl1'
  obtain ⟨r2, hr2⟩ : ∃ r2, r2 = pvT P os pf k (pf.getD num N0).2.2.2.2.2.1.toNat (partR l (pf.getD num N0).2.1.toNat (pf.getD num N0).2.2.1) S1 := ⟨_, rfl⟩
  have hr2' : pvT P os pf k (pf.getD num N0).2.2.2.2.2.1.toNat (partR l (pf.getD num N0).2.1.toNat (pf.getD num N0).2.2.1) (B1, S1).2 = r2 := hr2.symm
  rw [hr2']
  rw [← hr2] at c2
  obtain ⟨B2, S2⟩ := r2
  clear hr1 hr2 hr2'
  obtain ⟨L, hL⟩ : ∃ L, L = partL l (pf.getD num N0).2.1.toNat (pf.getD num N0).2.2.1 := ⟨_, rfl⟩
  obtain ⟨R, hR⟩ : ∃ R, R = partR l (pf.getD num N0).2.1.toNat (pf.getD num N0).2.2.1 := ⟨_, rfl⟩
  rw [← hL] at c1 hpt
  rw [← hR] at c2 hpt
  clear hL hR bL bR lL lR ih
  cases B1 with
  | false =>
    dsimp only
    rw [if_neg Bool.false_ne_true]
    exact provesMF_at (k := k) (L := L) (R := R) (S1 := S1) (S2 := S1) (B2 := false) hP hpf hnum hsn hbd ho hs h1 hz hq hw hl1' hjn hpt c1
  | true =>
    rw [if_pos rfl]
    exact provesMT_at (k := k) (L := L) (R := R) (S1 := S1) (S2 := S2) (B2 := B2) hP hpf hnum hsn hbd ho hs h1 hz hq hw hl1' hjn hpt c1 c2
set_option maxHeartbeats 8000000 in
theorem proves1_at {P : Int} {l0 : List Jb} {os : List Od} {pf : List Nd} (hP : 0 ≤ P ∧ P ≤ 100) (hpf : pf.length ≤ 100000) {k num : Nat} {l : List Jb} {sn : List Bool} (hnum : num < pf.length) (hsn : sn.length = pf.length) (hbd : Bd l) (ho : Ords os l.length) (hs : sn.getD num false = false) (h1 : (pf.getD num N0).1 = 1)
    (ih : ∀ (n : Nat) (l' : List Jb) (sn' : List Bool), num < n → n < pf.length → sn'.length = pf.length → Bd l' → l'.length = l.length →
      FnM Try.prog 43 [.st false (.agg [I64 P, .arr JT l0, .arr OT os]), .st false (.arr NT pf), .lit (.int .i64 n), .st false (.arr JT l'), .own 1000000000] [(1000000000, .row 4 .bool true sn')] (.lit (.bool (pvT P os pf k n l' sn').1)) [(1000000000, .row 4 .bool true (pvT P os pf k n l' sn').2)]) :
    FnM Try.prog 43 [.st false (.agg [I64 P, .arr JT l0, .arr OT os]), .st false (.arr NT pf), .lit (.int .i64 num), .st false (.arr JT l), .own 1000000000] [(1000000000, .row 4 .bool true sn)] (.lit (.bool (pvT P os pf (k + 1) num l sn).1)) [(1000000000, .row 4 .bool true (pvT P os pf (k + 1) num l sn).2)] := by
  have hll : @List.length JT.T l = l.length := rfl
  have hlp : @List.length NT.T pf = pf.length := rfl
  have hls : @List.length Ty.bool.T sn = pf.length := hsn
  by_cases hz : (pf.getD num N0).2.2.2.1 = 0
  · have hrd : FnAt Try.prog false 58 [.agg [I64 (pf.getD num N0).1, I64 (pf.getD num N0).2.1, I64 (pf.getD num N0).2.2.1, I64 (pf.getD num N0).2.2.2.1, I64 (pf.getD num N0).2.2.2.2.1, I64 (pf.getD num N0).2.2.2.2.2.1]] (.st true (.ifc 112 (.agg [I64 (pf.getD num N0).2.1, I64 (pf.getD num N0).2.2.1, I64 (pf.getD num N0).2.2.2.2.1, I64 (pf.getD num N0).2.2.2.2.2.1]))) [] := by
      rw [h1, hz]; exact read1_at
    have hbh := split_at (P := P) (os := os) (l0 := l0) hbd (j := (pf.getD num N0).2.1) (a := (pf.getD num N0).2.2.1) (lf := (pf.getD num N0).2.2.2.2.1) (rt := (pf.getD num N0).2.2.2.2.2.1)
    by_cases hq : (0 ≤ (pf.getD num N0).2.1 ∧ (pf.getD num N0).2.1 < l.length) ∧ (jf l (pf.getD num N0).2.1.toNat ≤ (pf.getD num N0).2.2.1 ∧ (pf.getD num N0).2.2.1 < jt l (pf.getD num N0).2.1.toNat - jl l (pf.getD num N0).2.1.toNat)
    · rw [decide_eq_true hq.1, decide_eq_true hq.2] at hbh
      have hbh2 : FnAt Try.prog false 76 [.agg [I64 (pf.getD num N0).2.1, I64 (pf.getD num N0).2.2.1, I64 (pf.getD num N0).2.2.2.2.1, I64 (pf.getD num N0).2.2.2.2.2.1], .agg [I64 P, .arr JT l0, .arr OT os], .arr JT l] (.lit (.bool true)) [] := hbh
      by_cases hw : ((num : Int) < (pf.getD num N0).2.2.2.2.1 ∧ (num : Int) < (pf.getD num N0).2.2.2.2.2.1) ∧ (pf.getD num N0).2.2.2.2.1 < pf.length ∧ (pf.getD num N0).2.2.2.2.2.1 < pf.length
      · exact provesM_at hP hpf hnum hsn hbd ho hs h1 hz hq hw ih
      · rw [pv_nosplit hs h1 (by rw [Bool.eq_false_iff]; intro h; exact hw (split_iff.1 h).2.2.2)]
        refine FnM.of_body tys_ok Try.func43 (by rfl) rfl Try.ntmps43 (by rw [Try.results43]) (by simp) ?_
  
        repeat' (first
 | refine W.seq ?_
 | refine W.block ?_
 | (refine W.region tys_ok [] ?_; conv => whnf)
 | (refine W.drawAll tys_ok [] mixed rfl ?_; conv => whnf)
 | (refine W.ret ?_; conv => whnf)
 | (refine W.skip ?_; conv => whnf)
 | (refine W.exit ?_; conv => whnf)
 | (refine call_at (al := false) (hrd) rfl rfl rfl rfl ?_; conv => whnf)
 | (refine invoke_at (al := false) (meth112_76) (hbh2) rfl rfl rfl rfl ?_; conv => whnf)
 | (refine W.cond rfl (fun hb => ?_) (fun hb => ?_) <;> (try simp only [Int.reduceToNat, Int.reduceTDiv, Int.reduceTMod, minL, maxL, pickB, zHB, zSH] at hb) <;> (try (first | (cases hb; done) | exact absurd hb (by decide) | (exfalso; omega) | (first | exact Bool.noConfusion (hb.symm.trans hs) | (have h9 := of_decide_eq_false hb.1; omega)))))
 | ((with_reducible refine And.intro ?_ ?_); (focus ((repeat' (first | (with_reducible rfl) | (with_reducible refine And.intro ?_ ?_) | omega | rfl | exact Or.inl rfl | exact Or.inr rfl | exact of_decide_eq_true rfl | exact Path.imp_of (of_decide_eq_true rfl) | (focus ((try simp only [Int.reduceToNat, Int.reduceTDiv, Int.reduceTMod, minL, maxL, pickB, zHB, zSH, InK, Path.imp, List.length_replicate, List.length_set, List.length_append, List.length_cons, List.length_nil] at *); omega)) | (refine app_le rfl ?_; omega))); done)); (conv => whnf))
 | ((with_reducible refine And.intro (Side.out ?_) ?_); rotate_left; (conv => whnf))
 | ((first | refine retM1 ?_ | refine retM2 ?_) <;> (conv => whnf) <;> repeat' (first
 | exact trivial
 | (with_reducible rfl)
 | ((with_reducible refine And.intro ?_ ?_) <;> conv => whnf)
 | omega
 | rfl
 | (refine congrArg (SV.arr _) ?_)
 | (refine congrArg (Value.int _) ?_)
 | (refine congrArg Value.bool ?_)))); all_goals (try unfold Side)
        all_goals try (repeat' (first | (with_reducible rfl) | (with_reducible refine And.intro ?_ ?_) | omega | rfl | exact Or.inl rfl | exact Or.inr rfl | exact of_decide_eq_true rfl | exact Path.imp_of (of_decide_eq_true rfl) | (focus ((try simp only [Int.reduceToNat, Int.reduceTDiv, Int.reduceTMod, minL, maxL, pickB, zHB, zSH, InK, Path.imp, List.length_replicate, List.length_set, List.length_append, List.length_cons, List.length_nil] at *); omega)) | (refine app_le rfl ?_; omega)))
    · rw [pv_nosplit hs h1 (by rw [Bool.eq_false_iff]; intro h; have := (split_iff.1 h).2; exact hq ⟨this.1, this.2.1⟩)]
      have hfz : (decide (0 ≤ (pf.getD num N0).2.1 ∧ (pf.getD num N0).2.1 < l.length) && decide (jf l (pf.getD num N0).2.1.toNat ≤ (pf.getD num N0).2.2.1 ∧ (pf.getD num N0).2.2.1 < jt l (pf.getD num N0).2.1.toNat - jl l (pf.getD num N0).2.1.toNat)) = false := by
        rw [Bool.eq_false_iff]
        intro h
        simp only [Bool.and_eq_true, decide_eq_true_eq] at h
        exact hq h
      rw [hfz] at hbh
      refine FnM.of_body tys_ok Try.func43 (by rfl) rfl Try.ntmps43 (by rw [Try.results43]) (by simp) ?_
  
      repeat' (first
 | refine W.seq ?_
 | refine W.block ?_
 | (refine W.region tys_ok [] ?_; conv => whnf)
 | (refine W.drawAll tys_ok [] mixed rfl ?_; conv => whnf)
 | (refine W.ret ?_; conv => whnf)
 | (refine W.skip ?_; conv => whnf)
 | (refine W.exit ?_; conv => whnf)
 | (refine call_at (al := false) (hrd) rfl rfl rfl rfl ?_; conv => whnf)
 | (refine invoke_at (al := false) (meth112_76) (hbh) rfl rfl rfl rfl ?_; conv => whnf)
 | (refine W.cond rfl (fun hb => ?_) (fun hb => ?_) <;> (try simp only [Int.reduceToNat, Int.reduceTDiv, Int.reduceTMod, minL, maxL, pickB, zHB, zSH] at hb) <;> (try (first | (cases hb; done) | exact absurd hb (by decide) | (exfalso; omega) | (exact Bool.noConfusion (hb.symm.trans hs)))))
 | ((with_reducible refine And.intro ?_ ?_); (focus ((repeat' (first | (with_reducible rfl) | (with_reducible refine And.intro ?_ ?_) | omega | rfl | exact Or.inl rfl | exact Or.inr rfl | exact of_decide_eq_true rfl | exact Path.imp_of (of_decide_eq_true rfl) | (focus ((try simp only [Int.reduceToNat, Int.reduceTDiv, Int.reduceTMod, minL, maxL, pickB, zHB, zSH, InK, Path.imp, List.length_replicate, List.length_set, List.length_append, List.length_cons, List.length_nil] at *); omega)) | (refine app_le rfl ?_; omega))); done)); (conv => whnf))
 | ((with_reducible refine And.intro (Side.out ?_) ?_); rotate_left; (conv => whnf))
 | ((first | refine retM1 ?_ | refine retM2 ?_) <;> (conv => whnf) <;> repeat' (first
 | exact trivial
 | (with_reducible rfl)
 | ((with_reducible refine And.intro ?_ ?_) <;> conv => whnf)
 | omega
 | rfl
 | (refine congrArg (SV.arr _) ?_)
 | (refine congrArg (Value.int _) ?_)
 | (refine congrArg Value.bool ?_)))); all_goals (try unfold Side)
      all_goals try (repeat' (first | (with_reducible rfl) | (with_reducible refine And.intro ?_ ?_) | omega | rfl | exact Or.inl rfl | exact Or.inr rfl | exact of_decide_eq_true rfl | exact Path.imp_of (of_decide_eq_true rfl) | (focus ((try simp only [Int.reduceToNat, Int.reduceTDiv, Int.reduceTMod, minL, maxL, pickB, zHB, zSH, InK, Path.imp, List.length_replicate, List.length_set, List.length_append, List.length_cons, List.length_nil] at *); omega)) | (refine app_le rfl ?_; omega)))
  · have hrd : FnAt Try.prog false 58 [.agg [I64 (pf.getD num N0).1, I64 (pf.getD num N0).2.1, I64 (pf.getD num N0).2.2.1, I64 (pf.getD num N0).2.2.2.1, I64 (pf.getD num N0).2.2.2.2.1, I64 (pf.getD num N0).2.2.2.2.2.1]] (.lit .nilIface) [] := by
      rw [h1]; exact read1_no hz
    rw [pv_nosplit hs h1 (by rw [Bool.eq_false_iff]; intro h; exact hz (split_iff.1 h).1)]
    refine FnM.of_body tys_ok Try.func43 (by rfl) rfl Try.ntmps43 (by rw [Try.results43]) (by simp) ?_
  
    repeat' (first
 | refine W.seq ?_
 | refine W.block ?_
 | (refine W.region tys_ok [] ?_; conv => whnf)
 | (refine W.drawAll tys_ok [] mixed rfl ?_; conv => whnf)
 | (refine W.ret ?_; conv => whnf)
 | (refine W.skip ?_; conv => whnf)
 | (refine W.exit ?_; conv => whnf)
 | (refine call_at (al := false) (hrd) rfl rfl rfl rfl ?_; conv => whnf)
 | (refine W.cond rfl (fun hb => ?_) (fun hb => ?_) <;> (try simp only [Int.reduceToNat, Int.reduceTDiv, Int.reduceTMod, minL, maxL, pickB, zHB, zSH] at hb) <;> (try (first | (cases hb; done) | exact absurd hb (by decide) | (exfalso; omega) | (exact Bool.noConfusion (hb.symm.trans hs)))))
 | ((with_reducible refine And.intro ?_ ?_); (focus ((repeat' (first | (with_reducible rfl) | (with_reducible refine And.intro ?_ ?_) | omega | rfl | exact Or.inl rfl | exact Or.inr rfl | exact of_decide_eq_true rfl | exact Path.imp_of (of_decide_eq_true rfl) | (focus ((try simp only [Int.reduceToNat, Int.reduceTDiv, Int.reduceTMod, minL, maxL, pickB, zHB, zSH, InK, Path.imp, List.length_replicate, List.length_set, List.length_append, List.length_cons, List.length_nil] at *); omega)) | (refine app_le rfl ?_; omega))); done)); (conv => whnf))
 | ((with_reducible refine And.intro (Side.out ?_) ?_); rotate_left; (conv => whnf))
 | ((first | refine retM1 ?_ | refine retM2 ?_) <;> (conv => whnf) <;> repeat' (first
 | exact trivial
 | (with_reducible rfl)
 | ((with_reducible refine And.intro ?_ ?_) <;> conv => whnf)
 | omega
 | rfl
 | (refine congrArg (SV.arr _) ?_)
 | (refine congrArg (Value.int _) ?_)
 | (refine congrArg Value.bool ?_)))); all_goals (try unfold Side)
    all_goals try (repeat' (first | (with_reducible rfl) | (with_reducible refine And.intro ?_ ?_) | omega | rfl | exact Or.inl rfl | exact Or.inr rfl | exact of_decide_eq_true rfl | exact Path.imp_of (of_decide_eq_true rfl) | (focus ((try simp only [Int.reduceToNat, Int.reduceTDiv, Int.reduceTMod, minL, maxL, pickB, zHB, zSH, InK, Path.imp, List.length_replicate, List.length_set, List.length_append, List.length_cons, List.length_nil] at *); omega)) | (refine app_le rfl ?_; omega)))
theorem proves_at {P : Int} {l0 : List Jb} {os : List Od} {pf : List Nd} (hP : 0 ≤ P ∧ P ≤ 100) (hpf : pf.length ≤ 100000) : ∀ {k num : Nat} {l : List Jb} {sn : List Bool}, num < pf.length → pf.length ≤ num + k → sn.length = pf.length → Bd l → Ords os l.length →
    FnM Try.prog 43 [.st false (.agg [I64 P, .arr JT l0, .arr OT os]), .st false (.arr NT pf), .lit (.int .i64 num), .st false (.arr JT l), .own 1000000000] [(1000000000, .row 4 .bool true sn)] (.lit (.bool (pvT P os pf k num l sn).1)) [(1000000000, .row 4 .bool true (pvT P os pf k num l sn).2)]
  | 0, num, l, sn, h1, h2, _, _, _ => by omega
  | k + 1, num, l, sn, hnum, hk, hsn, hbd, ho => by
    have ih : ∀ (n : Nat) (l' : List Jb) (sn' : List Bool), num < n → n < pf.length → sn'.length = pf.length → Bd l' → l'.length = l.length →
      FnM Try.prog 43 [.st false (.agg [I64 P, .arr JT l0, .arr OT os]), .st false (.arr NT pf), .lit (.int .i64 n), .st false (.arr JT l'), .own 1000000000] [(1000000000, .row 4 .bool true sn')] (.lit (.bool (pvT P os pf k n l' sn').1)) [(1000000000, .row 4 .bool true (pvT P os pf k n l' sn').2)] :=
      fun n l' sn' h1 h2 h3 h4 h5 => proves_at hP hpf h2 (by omega) h3 h4 (by rw [h5]; exact ho)
    cases hs : sn.getD num false with
    | true => exact proves0_at hP hpf hnum hsn hbd ho hs
    | false =>
      by_cases h1 : (pf.getD num N0).1 = 1
      · exact proves1_at hP hpf hnum hsn hbd ho hs h1 ih
      · by_cases h2 : (pf.getD num N0).1 = 2
        · exact proves2_at hP hpf hnum hsn hbd ho hs h2
        · by_cases h3 : (pf.getD num N0).1 = 3
          · exact proves3_at hP hpf hnum hsn hbd ho hs h3
          · exact provesE_at hP hpf hnum hsn hbd ho hs h1 h2 h3
end Go.Proofs.Ytmfholchenihaaa
namespace Go.Proofs.Ytmfholchenihaaa
open Go Go.Vc Go.Sh
set_option linter.unusedVariables false
set_option linter.unusedSimpArgs false
def provesB (P : Int) (l : List Jb) (os : List Od) (pf : List Nd) : Bool := decide (0 < pf.length) && (pvT P os pf pf.length 0 l (List.replicate pf.length false)).1
theorem Proves_no {P : Int} {l : List Jb} {os : List Od} {pf : List Nd} (hl : l.length ≤ 1000) (ho : os.length ≤ 1000) (h : ¬ VS P l os) : FnAt Try.prog false 26 [.agg [I64 P, .arr JT l, .arr OT os], .arr NT pf] (.tup [.lit (.bool false), .lit (.int .i64 1)]) [] := by
  have hv := valid_at (P := P) hl ho
  rw [validB_no h] at hv
  refine FnAt.of_body tys_ok Try.func26 (by rfl) rfl Try.ntmps26 (by rw [Try.results26]) (by simp) ?_
  
  repeat' (first
 | refine W.seq ?_
 | refine W.block ?_
 | (refine W.region tys_ok [] ?_; conv => whnf)
 | (refine W.drawAll tys_ok [] mixed rfl ?_; conv => whnf)
 | (refine W.ret ?_; conv => whnf)
 | (refine W.skip ?_; conv => whnf)
 | (refine W.exit ?_; conv => whnf)
 | (refine call_at (al := false) (hv) rfl rfl rfl rfl ?_; conv => whnf)
 | (refine W.cond rfl (fun hb => ?_) (fun hb => ?_) <;> (try simp only [Int.reduceToNat, Int.reduceTDiv, Int.reduceTMod, minL, maxL, pickB, zHB, zSH] at hb) <;> (try (first | (cases hb; done) | exact absurd hb (by decide) | (exfalso; omega))))
 | ((with_reducible refine And.intro ?_ ?_); (focus ((repeat' (first | (with_reducible rfl) | (with_reducible refine And.intro ?_ ?_) | omega | rfl | exact Or.inl rfl | exact Or.inr rfl | exact of_decide_eq_true rfl | exact Path.imp_of (of_decide_eq_true rfl) | (focus ((try simp only [Int.reduceToNat, Int.reduceTDiv, Int.reduceTMod, minL, maxL, pickB, zHB, zSH, InK, Path.imp, List.length_replicate, List.length_set, List.length_append, List.length_cons, List.length_nil] at *); omega)) | (refine app_le rfl ?_; omega))); done)); (conv => whnf))
 | ((with_reducible refine And.intro (Side.out ?_) ?_); rotate_left; (conv => whnf))
 | ((first | refine retF1 ?_ | refine retF2 ?_) <;> (conv => whnf) <;> repeat' (first
 | exact trivial
 | (with_reducible rfl)
 | ((with_reducible refine And.intro ?_ ?_) <;> conv => whnf)
 | omega
 | rfl
 | (refine congrArg (SV.arr _) ?_)
 | (refine congrArg (Value.int _) ?_)
 | (refine congrArg Value.bool ?_)))); all_goals (try unfold Side)
  all_goals try (repeat' (first | (with_reducible rfl) | (with_reducible refine And.intro ?_ ?_) | omega | rfl | exact Or.inl rfl | exact Or.inr rfl | exact of_decide_eq_true rfl | exact Path.imp_of (of_decide_eq_true rfl) | (focus ((try simp only [Int.reduceToNat, Int.reduceTDiv, Int.reduceTMod, minL, maxL, pickB, zHB, zSH, InK, Path.imp, List.length_replicate, List.length_set, List.length_append, List.length_cons, List.length_nil] at *); omega)) | (refine app_le rfl ?_; omega)))
theorem Proves_long {P : Int} {l : List Jb} {os : List Od} {pf : List Nd} (h : VS P l os) (hp : 20000 < pf.length) : FnAt Try.prog false 26 [.agg [I64 P, .arr JT l, .arr OT os], .arr NT pf] (.tup [.lit (.bool false), .lit (.int .i64 3)]) [] := by
  have hv := valid_at (P := P) (l := l) (os := os) (by have := h.ln; omega) (by have := h.lo; omega)
  rw [validB_yes h] at hv
  have hlp : @List.length NT.T pf = pf.length := rfl
  refine FnAt.of_body tys_ok Try.func26 (by rfl) rfl Try.ntmps26 (by rw [Try.results26]) (by simp) ?_
  
  repeat' (first
 | refine W.seq ?_
 | refine W.block ?_
 | (refine W.region tys_ok [] ?_; conv => whnf)
 | (refine W.drawAll tys_ok [] mixed rfl ?_; conv => whnf)
 | (refine W.ret ?_; conv => whnf)
 | (refine W.skip ?_; conv => whnf)
 | (refine W.exit ?_; conv => whnf)
 | (refine call_at (al := false) (hv) rfl rfl rfl rfl ?_; conv => whnf)
 | (refine W.cond rfl (fun hb => ?_) (fun hb => ?_) <;> (try simp only [Int.reduceToNat, Int.reduceTDiv, Int.reduceTMod, minL, maxL, pickB, zHB, zSH] at hb) <;> (try (first | (cases hb; done) | exact absurd hb (by decide) | (exfalso; omega) | (omega))))
 | ((with_reducible refine And.intro ?_ ?_); (focus ((repeat' (first | (with_reducible rfl) | (with_reducible refine And.intro ?_ ?_) | omega | rfl | exact Or.inl rfl | exact Or.inr rfl | exact of_decide_eq_true rfl | exact Path.imp_of (of_decide_eq_true rfl) | (focus ((try simp only [Int.reduceToNat, Int.reduceTDiv, Int.reduceTMod, minL, maxL, pickB, zHB, zSH, InK, Path.imp, List.length_replicate, List.length_set, List.length_append, List.length_cons, List.length_nil] at *); omega)) | (refine app_le rfl ?_; omega))); done)); (conv => whnf))
 | ((with_reducible refine And.intro (Side.out ?_) ?_); rotate_left; (conv => whnf))
 | ((first | refine retF1 ?_ | refine retF2 ?_) <;> (conv => whnf) <;> repeat' (first
 | exact trivial
 | (with_reducible rfl)
 | ((with_reducible refine And.intro ?_ ?_) <;> conv => whnf)
 | omega
 | rfl
 | (refine congrArg (SV.arr _) ?_)
 | (refine congrArg (Value.int _) ?_)
 | (refine congrArg Value.bool ?_)))); all_goals (try unfold Side)
  all_goals try (repeat' (first | (with_reducible rfl) | (with_reducible refine And.intro ?_ ?_) | omega | rfl | exact Or.inl rfl | exact Or.inr rfl | exact of_decide_eq_true rfl | exact Path.imp_of (of_decide_eq_true rfl) | (focus ((try simp only [Int.reduceToNat, Int.reduceTDiv, Int.reduceTMod, minL, maxL, pickB, zHB, zSH, InK, Path.imp, List.length_replicate, List.length_set, List.length_append, List.length_cons, List.length_nil] at *); omega)) | (refine app_le rfl ?_; omega)))
set_option maxHeartbeats 4000000 in
theorem Proves_ok {P : Int} {l : List Jb} {os : List Od} {pf : List Nd} (h : VS P l os) (hp : pf.length ≤ 20000) : FnAt Try.prog false 26 [.agg [I64 P, .arr JT l, .arr OT os], .arr NT pf] (.tup [.lit (.bool (provesB P l os pf)), .lit (.int .i64 0)]) [] := by
  have hv := valid_at (P := P) (l := l) (os := os) (by have := h.ln; omega) (by have := h.lo; omega)
  rw [validB_yes h] at hv
  have hlp : @List.length NT.T pf = pf.length := rfl
  by_cases hz : 0 < pf.length
  · have hc := proves_at (P := P) (l0 := l) (os := os) (pf := pf) (k := pf.length) (num := 0) (l := l) (sn := List.replicate pf.length false) (by have := h.pw; omega) (by omega) hz (by omega) (by simp) (bd_of h) (ords_of h)
    have hB : provesB P l os pf = (pvT P os pf pf.length 0 l (List.replicate pf.length false)).1 := by unfold provesB; rw [decide_eq_true hz, Bool.true_and]
    rw [hB]
    obtain ⟨r, hr⟩ : ∃ r, r = pvT P os pf pf.length 0 l (List.replicate pf.length false) := ⟨_, rfl⟩
    rw [← hr] at hc ⊢
    clear hr hB
    have hs : List.replicate ((pf.length : Nat) : Int).toNat false = List.replicate pf.length false := by rw [Int.toNat_natCast]
    refine FnAt.of_body tys_ok Try.func26 (by rfl) rfl Try.ntmps26 (by rw [Try.results26]) (by simp) ?_
  
    have hfin : ∀ b : Bool, pickB (decide (0 < (pf.length : Int))) (Operand.tmp 25) (Operand.const (Value.bool false)) b false = b := fun b => by
      rw [decide_eq_true (by omega)]; rfl
    repeat' (first
 | refine W.seq ?_
 | refine W.block ?_
 | (refine W.resub (x := Code.region 5 _ _) (Γ' := ⟨[(1, .st false (.arr NT pf)), (2, .st false (.sadr (.agg [I64 P, .arr JT l, .arr OT os])))], []⟩) ?_ (W.drawM (id := 5) tys_ok [] [10, 11] mixed [0, 1, 2, 4, 8, 8, 8, 72, 8, 264, 520, 1208, 2056, 8191, 16383] [([0, 1, 2, 3, 4, 5, 6, 7, 8, 9], 1, 2047), ([], 1, 4095), ([12, 13, 14], 0, 32767)] (by decide +kernel) ?_); rotate_left; (conv => whnf))
 | (refine W.region tys_ok [] ?_; conv => whnf)
 | (refine W.drawAll tys_ok [] mixed rfl ?_; conv => whnf)
 | (refine W.ret ?_; conv => whnf)
 | (refine W.skip ?_; conv => whnf)
 | (refine W.exit ?_; conv => whnf)
 | (refine call_at (al := false) (hv) rfl rfl rfl rfl ?_; conv => whnf)
 | (refine callM_at (hc) ?_; conv => whnf)
 | (refine Both.mk ?_ ?_ <;> (conv => whnf))
 | (refine W.cond rfl (fun hb => ?_) (fun hb => ?_) <;> (try simp only [Int.reduceToNat, Int.reduceTDiv, Int.reduceTMod, minL, maxL, pickB, zHB, zSH] at hb) <;> (try (first | (cases hb; done) | exact absurd hb (by decide) | (exfalso; omega) | (omega))))
 | (refine Or.inl (And.intro ?_ ?_); (focus (first | exact trivial | exact ⟨rfl, trivial⟩ | (refine ⟨?_, trivial⟩; dsimp only; simp only [Int.reduceToNat, Int.reduceTDiv, Int.reduceTMod, minL, maxL, pickB, zHB, zSH]; omega))); (conv => whnf))
 | (refine Or.inr (And.intro ?_ ?_); (focus (intro h; have h := h.1; dsimp only at h; first | (exact Bool.noConfusion h) | (simp only [Int.reduceToNat, Int.reduceTDiv, Int.reduceTMod, minL, maxL, pickB, zHB, zSH] at h; omega))); (conv => whnf))
 | ((with_reducible refine And.intro ?_ ?_); (focus ((repeat' (first | (with_reducible rfl) | (with_reducible refine And.intro ?_ ?_) | omega | rfl | exact Or.inl rfl | exact Or.inr rfl | exact of_decide_eq_true rfl | exact Path.imp_of (of_decide_eq_true rfl) | (focus ((try simp only [Int.reduceToNat, Int.reduceTDiv, Int.reduceTMod, minL, maxL, pickB, zHB, zSH, InK, Path.imp, List.length_replicate, List.length_set, List.length_append, List.length_cons, List.length_nil] at *); omega)) | (refine app_le rfl ?_; omega))); done)); (conv => whnf))
 | ((with_reducible refine And.intro (Side.out ?_) ?_); rotate_left; (conv => whnf))
 | ((first | refine retF1 ?_ | refine retF2 ?_ | refine subF.leaf ?_ | refine subF.side ?_) <;> (conv => whnf) <;> repeat' (first
 | exact trivial
 | (with_reducible rfl)
 | ((with_reducible refine And.intro ?_ ?_) <;> conv => whnf)
 | omega
 | rfl
 | (refine congrArg (SV.arr _) ?_)
 | (refine congrArg (Value.int _) ?_)
 | (refine congrArg Value.bool ?_)))); all_goals (try unfold Side)
    all_goals try (repeat' (first | (with_reducible rfl) | (with_reducible refine And.intro ?_ ?_) | omega | rfl | exact Or.inl rfl | exact Or.inr rfl | exact of_decide_eq_true rfl | exact Path.imp_of (of_decide_eq_true rfl) | (focus ((try simp only [Int.reduceToNat, Int.reduceTDiv, Int.reduceTMod, minL, maxL, pickB, zHB, zSH, InK, Path.imp, List.length_replicate, List.length_set, List.length_append, List.length_cons, List.length_nil] at *); omega)) | (refine app_le rfl ?_; omega)))
    all_goals exact hfin _
  · have hB : provesB P l os pf = false := by unfold provesB; rw [decide_eq_false hz, Bool.false_and]
    rw [hB]
    refine FnAt.of_body tys_ok Try.func26 (by rfl) rfl Try.ntmps26 (by rw [Try.results26]) (by simp) ?_
  
    have hfin : pickB (decide (0 < (pf.length : Int))) (Operand.tmp 25) (Operand.const (Value.bool false)) false false = false := by
      rw [decide_eq_false (by omega)]; rfl
    repeat' (first
 | refine W.seq ?_
 | refine W.block ?_
 | (refine W.resub (x := Code.region 5 _ _) (Γ' := ⟨[(1, .st false (.arr NT pf)), (2, .st false (.sadr (.agg [I64 P, .arr JT l, .arr OT os])))], []⟩) ?_ (W.drawM (id := 5) tys_ok [] [10, 11] mixed [0, 1, 2, 4, 8, 8, 8, 72, 8, 264, 520, 1208, 2056, 8191, 16383] [([0, 1, 2, 3, 4, 5, 6, 7, 8, 9], 1, 2047), ([], 1, 4095), ([12, 13, 14], 0, 32767)] (by decide +kernel) ?_); rotate_left; (conv => whnf))
 | (refine W.region tys_ok [] ?_; conv => whnf)
 | (refine W.drawAll tys_ok [] mixed rfl ?_; conv => whnf)
 | (refine W.ret ?_; conv => whnf)
 | (refine W.skip ?_; conv => whnf)
 | (refine W.exit ?_; conv => whnf)
 | (refine call_at (al := false) (hv) rfl rfl rfl rfl ?_; conv => whnf)
 | (refine Both.mk ?_ ?_ <;> (conv => whnf))
 | (refine W.cond rfl (fun hb => ?_) (fun hb => ?_) <;> (try simp only [Int.reduceToNat, Int.reduceTDiv, Int.reduceTMod, minL, maxL, pickB, zHB, zSH] at hb) <;> (try (first | (cases hb; done) | exact absurd hb (by decide) | (exfalso; omega) | (omega))))
 | (refine Or.inl (And.intro ?_ ?_); (focus (first | exact trivial | exact ⟨rfl, trivial⟩ | (refine ⟨?_, trivial⟩; dsimp only; simp only [Int.reduceToNat, Int.reduceTDiv, Int.reduceTMod, minL, maxL, pickB, zHB, zSH]; omega))); (conv => whnf))
 | (refine Or.inr (And.intro ?_ ?_); (focus (intro h; have h := h.1; dsimp only at h; first | (exact Bool.noConfusion h) | (simp only [Int.reduceToNat, Int.reduceTDiv, Int.reduceTMod, minL, maxL, pickB, zHB, zSH] at h; omega))); (conv => whnf))
 | ((with_reducible refine And.intro ?_ ?_); (focus ((repeat' (first | (with_reducible rfl) | (with_reducible refine And.intro ?_ ?_) | omega | rfl | exact Or.inl rfl | exact Or.inr rfl | exact of_decide_eq_true rfl | exact Path.imp_of (of_decide_eq_true rfl) | (focus ((try simp only [Int.reduceToNat, Int.reduceTDiv, Int.reduceTMod, minL, maxL, pickB, zHB, zSH, InK, Path.imp, List.length_replicate, List.length_set, List.length_append, List.length_cons, List.length_nil] at *); omega)) | (refine app_le rfl ?_; omega))); done)); (conv => whnf))
 | ((with_reducible refine And.intro (Side.out ?_) ?_); rotate_left; (conv => whnf))
 | ((first | refine retF1 ?_ | refine retF2 ?_ | refine subF.leaf ?_ | refine subF.side ?_) <;> (conv => whnf) <;> repeat' (first
 | exact trivial
 | (with_reducible rfl)
 | ((with_reducible refine And.intro ?_ ?_) <;> conv => whnf)
 | omega
 | rfl
 | (refine congrArg (SV.arr _) ?_)
 | (refine congrArg (Value.int _) ?_)
 | (refine congrArg Value.bool ?_)))); all_goals (try unfold Side)
    all_goals try (repeat' (first | (with_reducible rfl) | (with_reducible refine And.intro ?_ ?_) | omega | rfl | exact Or.inl rfl | exact Or.inr rfl | exact of_decide_eq_true rfl | exact Path.imp_of (of_decide_eq_true rfl) | (focus ((try simp only [Int.reduceToNat, Int.reduceTDiv, Int.reduceTMod, minL, maxL, pickB, zHB, zSH, InK, Path.imp, List.length_replicate, List.length_set, List.length_append, List.length_cons, List.length_nil] at *); omega)) | (refine app_le rfl ?_; omega)))
    all_goals exact hfin
end Go.Proofs.Ytmfholchenihaaa
namespace Go.Proofs.Ytmfholchenihaaa
open Go Go.Vc Go.Sh
set_option linter.unusedVariables false
set_option linter.unusedSimpArgs false
theorem fix_bd {l : List Jb} {os : List Od} {i : Nat} {x : Int} (h : Bd l) (hi : i < l.length) (h0 : jf l i ≤ x) (h1 : x ≤ jt l i - jl l i) : Bd (fixT l i x) := by
  refine ⟨by rw [fix_len]; exact h.len, fun m hm => ?_⟩
  rw [fix_len] at hm
  have h2 := h.rg i hi
  have h3 := h.rg m hm
  rw [fix_f hi, fix_t hi, fix_l hi, fix_p hi]
  by_cases e : m = i
  · subst e; rw [if_pos rfl, if_pos rfl]; omega
  · rw [if_neg e, if_neg e]; exact h3
theorem growT_len {P : Int} {os : List Od} {k : Nat} {l : List Jb} {i : Nat} (hk : k + i = l.length) (hp : Pre l os i) {r : List Int} (h : growT P os k l i = some r) : r.length = l.length := by
  have := growT_ok (P := P) hk hp
  rw [h] at this
  exact this.1.len
def grB (P : Int) (l0 : List Jb) (os : List Od) : List (Nat × Ob) :=
  [(1000000000, .box [.lit (.int .i64 P), .st true (.arr JT l0), .st true (.arr OT os)]), (1000000001, .box1 (.fn 50 [.padr 1000000000 0, .padr 1000000001 0]))]
set_option maxHeartbeats 4000000 in
theorem grow0_at {P : Int} {l0 : List Jb} {os : List Od} (hP : 0 ≤ P ∧ P ≤ 100) {l : List Jb} {i : Nat} (hk : i = l.length) (h1 : 1 ≤ l.length) (hb : Bd l) (ho : Ords os l.length) :
    FnM Try.prog 50 [.st false (.arr JT l), .lit (.int .i64 i), .padr 1000000000 0, .padr 1000000001 0] [(1000000000, .box [.lit (.int .i64 P), .st true (.arr JT l0), .st true (.arr OT os)]), (1000000001, .box1 (.fn 50 [.padr 1000000000 0, .padr 1000000001 0]))]
      (.st true (.narr (.int .i64) ((growT P os 0 l i).getD [] : List Int))) [(1000000000, .box [.lit (.int .i64 P), .st true (.arr JT l0), .st true (.arr OT os)]), (1000000001, .box1 (.fn 50 [.padr 1000000000 0, .padr 1000000001 0]))] := by
  have hov := overfull_at hP hb
  have hany := anyLate_at hb ho
  have hll : @List.length JT.T l = l.length := rfl
  have hbad : badB P l os = (ovB P l || os.any (lateT l)) := by rw [ovB_over]; rfl
  have hg : growT P os 0 l i = if badB P l os = true then none else some (l.map (·.1)) := rfl
  have hlen := hb.len
  cases e1 : ovB P l with
  | true =>
    rw [e1] at hov hbad
    rw [hg, if_pos (by rw [hbad]; rfl)]
    refine FnM.of_body tys_ok Try.func50 (by rfl) rfl Try.ntmps50 (by rw [Try.results50]) (by simp) ?_
  
    repeat' (first
 | refine W.seq ?_
 | refine W.block ?_
 | (refine W.region tys_ok [] ?_; conv => whnf)
 | (refine W.drawAll tys_ok [] mixed rfl ?_; conv => whnf)
 | (refine W.ret ?_; conv => whnf)
 | (refine W.skip ?_; conv => whnf)
 | (refine W.exit ?_; conv => whnf)
 | (refine call_at (al := false) (hov) rfl rfl rfl rfl ?_; conv => whnf)
 | (refine call_at (al := false) (hany) rfl rfl rfl rfl ?_; conv => whnf)
 | (refine W.cond rfl (fun hb => ?_) (fun hb => ?_) <;> (try simp only [Int.reduceToNat, Int.reduceTDiv, Int.reduceTMod, minL, maxL, pickB, zHB, zSH] at hb) <;> (try (first | (cases hb; done) | exact absurd hb (by decide) | (exfalso; omega))))
 | ((with_reducible refine And.intro ?_ ?_); (focus ((repeat' (first | (with_reducible rfl) | (with_reducible refine And.intro ?_ ?_) | omega | rfl | exact Or.inl rfl | exact Or.inr rfl | exact of_decide_eq_true rfl | exact Path.imp_of (of_decide_eq_true rfl) | (focus ((try simp only [Int.reduceToNat, Int.reduceTDiv, Int.reduceTMod, minL, maxL, pickB, zHB, zSH, InK, Path.imp, List.length_replicate, List.length_set, List.length_append, List.length_cons, List.length_nil] at *); omega)) | (refine app_le rfl ?_; omega))); done)); (conv => whnf))
 | ((with_reducible refine And.intro (Side.out ?_) ?_); rotate_left; (conv => whnf))
 | ((first | refine retM1 ?_ | refine retM2 ?_) <;> (conv => whnf) <;> repeat' (first
 | exact trivial
 | (with_reducible rfl)
 | ((with_reducible refine And.intro ?_ ?_) <;> conv => whnf)
 | omega
 | rfl
 | (refine congrArg (SV.arr _) ?_)
 | (refine congrArg (Value.int _) ?_)
 | (refine congrArg Value.bool ?_)))); all_goals (try unfold Side)
    all_goals try (repeat' (first | (with_reducible rfl) | (with_reducible refine And.intro ?_ ?_) | omega | rfl | exact Or.inl rfl | exact Or.inr rfl | exact of_decide_eq_true rfl | exact Path.imp_of (of_decide_eq_true rfl) | (focus ((try simp only [Int.reduceToNat, Int.reduceTDiv, Int.reduceTMod, minL, maxL, pickB, zHB, zSH, InK, Path.imp, List.length_replicate, List.length_set, List.length_append, List.length_cons, List.length_nil] at *); omega)) | (refine app_le rfl ?_; omega)))
  | false =>
    rw [e1] at hov hbad
    cases e2 : os.any (lateT l) with
    | true =>
      rw [e2] at hany hbad
      rw [hg, if_pos (by rw [hbad]; rfl)]
      refine FnM.of_body tys_ok Try.func50 (by rfl) rfl Try.ntmps50 (by rw [Try.results50]) (by simp) ?_
  
      repeat' (first
 | refine W.seq ?_
 | refine W.block ?_
 | (refine W.region tys_ok [] ?_; conv => whnf)
 | (refine W.drawAll tys_ok [] mixed rfl ?_; conv => whnf)
 | (refine W.ret ?_; conv => whnf)
 | (refine W.skip ?_; conv => whnf)
 | (refine W.exit ?_; conv => whnf)
 | (refine call_at (al := false) (hov) rfl rfl rfl rfl ?_; conv => whnf)
 | (refine call_at (al := false) (hany) rfl rfl rfl rfl ?_; conv => whnf)
 | (refine W.cond rfl (fun hb => ?_) (fun hb => ?_) <;> (try simp only [Int.reduceToNat, Int.reduceTDiv, Int.reduceTMod, minL, maxL, pickB, zHB, zSH] at hb) <;> (try (first | (cases hb; done) | exact absurd hb (by decide) | (exfalso; omega))))
 | ((with_reducible refine And.intro ?_ ?_); (focus ((repeat' (first | (with_reducible rfl) | (with_reducible refine And.intro ?_ ?_) | omega | rfl | exact Or.inl rfl | exact Or.inr rfl | exact of_decide_eq_true rfl | exact Path.imp_of (of_decide_eq_true rfl) | (focus ((try simp only [Int.reduceToNat, Int.reduceTDiv, Int.reduceTMod, minL, maxL, pickB, zHB, zSH, InK, Path.imp, List.length_replicate, List.length_set, List.length_append, List.length_cons, List.length_nil] at *); omega)) | (refine app_le rfl ?_; omega))); done)); (conv => whnf))
 | ((with_reducible refine And.intro (Side.out ?_) ?_); rotate_left; (conv => whnf))
 | ((first | refine retM1 ?_ | refine retM2 ?_) <;> (conv => whnf) <;> repeat' (first
 | exact trivial
 | (with_reducible rfl)
 | ((with_reducible refine And.intro ?_ ?_) <;> conv => whnf)
 | omega
 | rfl
 | (refine congrArg (SV.arr _) ?_)
 | (refine congrArg (Value.int _) ?_)
 | (refine congrArg Value.bool ?_)))); all_goals (try unfold Side)
      all_goals try (repeat' (first | (with_reducible rfl) | (with_reducible refine And.intro ?_ ?_) | omega | rfl | exact Or.inl rfl | exact Or.inr rfl | exact of_decide_eq_true rfl | exact Path.imp_of (of_decide_eq_true rfl) | (focus ((try simp only [Int.reduceToNat, Int.reduceTDiv, Int.reduceTMod, minL, maxL, pickB, zHB, zSH, InK, Path.imp, List.length_replicate, List.length_set, List.length_append, List.length_cons, List.length_nil] at *); omega)) | (refine app_le rfl ?_; omega)))
    | false =>
      rw [e2] at hany hbad
      rw [hg, if_neg (by rw [hbad]; decide)]
      obtain ⟨M, hM⟩ : ∃ M : Nat → List Int, M = fun j => (l.take j).map (·.1) := ⟨_, rfl⟩
      have hM0 : M 0 = [] := by rw [hM]; rfl
      have hMl : ∀ j, j ≤ l.length → (M j).length = j := fun j hj => by rw [hM]; simp; omega
      have hMs : ∀ j, j < l.length → M j ++ [(l.getD j J0).1] = M (j + 1) := fun j hj => by
        rw [hM]
        show (l.take j).map (·.1) ++ [(l.getD j J0).1] = (l.take (j + 1)).map (·.1)
        rw [List.take_succ_eq_append_getElem hj, List.map_append, List.getD_eq_getElem?_getD, List.getElem?_eq_getElem hj]
        rfl
      have hMn : M l.length = l.map (·.1) := by rw [hM]; show (l.take l.length).map (·.1) = _; rw [List.take_length]
      have hMne : M l.length ≠ [] := fun e => by have := hMl l.length (Nat.le_refl _); rw [e] at this; simp at this; omega
      rw [show ((some (l.map (·.1))).getD [] : List Int) = M l.length from hMn.symm]
      refine FnM.of_body tys_ok Try.func50 (by rfl) rfl Try.ntmps50 (by rw [Try.results50]) (by simp) ?_
  
      repeat' (first
 | refine W.seq ?_
 | refine W.block ?_
 | (refine W.region tys_ok [] ?_; conv => whnf)
 | (refine W.drawAll tys_ok [] mixed rfl ?_; conv => whnf)
 | (refine W.ret ?_; conv => whnf)
 | (refine W.skip ?_; conv => whnf)
 | (refine W.exit ?_; conv => whnf)
 | (refine call_at (al := false) (hov) rfl rfl rfl rfl ?_; conv => whnf)
 | (refine call_at (al := false) (hany) rfl rfl rfl rfl ?_; conv => whnf)
 | (refine W.cond rfl (fun hb => ?_) (fun hb => ?_) <;> (try simp only [Int.reduceToNat, Int.reduceTDiv, Int.reduceTMod, minL, maxL, pickB, zHB, zSH] at hb) <;> (try (first | (cases hb; done) | exact absurd hb (by decide) | (exfalso; omega) | (omega))))
 | ((with_reducible refine And.intro ?_ ?_); (focus ((repeat' (first | (with_reducible rfl) | (with_reducible refine And.intro ?_ ?_) | omega | rfl | exact Or.inl rfl | exact Or.inr rfl | exact of_decide_eq_true rfl | exact Path.imp_of (of_decide_eq_true rfl) | (focus ((try simp only [Int.reduceToNat, Int.reduceTDiv, Int.reduceTMod, minL, maxL, pickB, zHB, zSH, InK, Path.imp, List.length_replicate, List.length_set, List.length_append, List.length_cons, List.length_nil] at *); omega)) | (refine app_le rfl ?_; omega))); done)); (conv => whnf))
 | ((with_reducible refine And.intro (Side.out ?_) ?_); rotate_left; (conv => whnf))
 | ((first | refine retM1 ?_ | refine retM2 ?_) <;> (conv => whnf) <;> repeat' (first
 | exact trivial
 | (with_reducible rfl)
 | ((with_reducible refine And.intro ?_ ?_) <;> conv => whnf)
 | omega
 | rfl
 | (refine congrArg (SV.arr _) ?_)
 | (refine congrArg (Value.int _) ?_)
 | (refine congrArg Value.bool ?_)))); all_goals (try unfold Side)
      all_goals try (repeat' (first | (with_reducible rfl) | (with_reducible refine And.intro ?_ ?_) | omega | rfl | exact Or.inl rfl | exact Or.inr rfl | exact of_decide_eq_true rfl | exact Path.imp_of (of_decide_eq_true rfl) | (focus ((try simp only [Int.reduceToNat, Int.reduceTDiv, Int.reduceTMod, minL, maxL, pickB, zHB, zSH, InK, Path.imp, List.length_replicate, List.length_set, List.length_append, List.length_cons, List.length_nil] at *); omega)) | (refine app_le rfl ?_; omega)))
      refine W.loop (fun j : Nat => ⟨[(2, .padr 1000000000 0), (3, .padr 1000000001 0), (10, .own 5000), (35, .st false (.arr JT l)), (36, .lit (.int .i64 ((l.length : Int)))), (37, .lit (.int .i64 (j)))], [(5000, .row 3 (.int .i64) true ((M j) : List Int)), (1000000000, .box [.lit (.int .i64 P), .st true (.arr JT l0), .st true (.arr OT os)]), (1000000001, .box1 (.fn 50 [.padr 1000000000 0, .padr 1000000001 0]))]⟩) (fun j => j ≤ l.length) (fun j => l.length - j) (0) ?_ ?_
      · refine ⟨Nat.zero_le _, ?_⟩
        refine subF.ok ?_ <;> (conv => whnf) <;> repeat' (first
 | exact trivial
 | (with_reducible rfl)
 | ((with_reducible refine And.intro ?_ ?_) <;> conv => whnf)
 | omega
 | rfl
 | (refine congrArg (SV.arr _) ?_)
 | (refine congrArg (Value.int _) ?_)
 | (refine congrArg Value.bool ?_))
        all_goals exact hM0
      · intro j hj
        have hl := hMl j hj
        by_cases hjl : j < l.length
        · have hs := hMs j hjl
          repeat' (first
 | refine W.seq ?_
 | refine W.block ?_
 | (refine W.region tys_ok [] ?_; conv => whnf)
 | (refine W.drawAll tys_ok [] mixed rfl ?_; conv => whnf)
 | (refine W.ret ?_; conv => whnf)
 | (refine W.skip ?_; conv => whnf)
 | (refine W.exit ?_; conv => whnf)
 | (refine W.cond rfl (fun hb => ?_) (fun hb => ?_) <;> (try simp only [Int.reduceToNat, Int.reduceTDiv, Int.reduceTMod, minL, maxL, pickB, zHB, zSH] at hb) <;> (try (first | (cases hb; done) | exact absurd hb (by decide) | (exfalso; omega))))
 | ((with_reducible refine And.intro ?_ ?_); (focus ((repeat' (first | (with_reducible rfl) | (with_reducible refine And.intro ?_ ?_) | omega | rfl | exact Or.inl rfl | exact Or.inr rfl | exact of_decide_eq_true rfl | exact Path.imp_of (of_decide_eq_true rfl) | (focus ((try simp only [Int.reduceToNat, Int.reduceTDiv, Int.reduceTMod, minL, maxL, pickB, zHB, zSH, InK, Path.imp, List.length_replicate, List.length_set, List.length_append, List.length_cons, List.length_nil] at *); omega)) | (refine app_le rfl ?_; omega))); done)); (conv => whnf))
 | ((with_reducible refine And.intro (Side.out ?_) ?_); rotate_left; (conv => whnf))
 | ((first | refine retM1 ?_ | refine retM2 ?_) <;> (conv => whnf) <;> repeat' (first
 | exact trivial
 | (with_reducible rfl)
 | ((with_reducible refine And.intro ?_ ?_) <;> conv => whnf)
 | omega
 | rfl
 | (refine congrArg (SV.arr _) ?_)
 | (refine congrArg (Value.int _) ?_)
 | (refine congrArg Value.bool ?_)))); all_goals (try unfold Side)
          all_goals try (repeat' (first | (with_reducible rfl) | (with_reducible refine And.intro ?_ ?_) | omega | rfl | exact Or.inl rfl | exact Or.inr rfl | exact of_decide_eq_true rfl | exact Path.imp_of (of_decide_eq_true rfl) | (focus ((try simp only [Int.reduceToNat, Int.reduceTDiv, Int.reduceTMod, minL, maxL, pickB, zHB, zSH, InK, Path.imp, List.length_replicate, List.length_set, List.length_append, List.length_cons, List.length_nil] at *); omega)) | (refine app_le rfl ?_; omega)))
          refine ⟨j + 1, ⟨by omega, by omega⟩, ?_⟩
          refine subF.ok ?_ <;> (conv => whnf) <;> repeat' (first
 | exact trivial
 | (with_reducible rfl)
 | ((with_reducible refine And.intro ?_ ?_) <;> conv => whnf)
 | omega
 | rfl
 | (refine congrArg (SV.arr _) ?_)
 | (refine congrArg (Value.int _) ?_)
 | (refine congrArg Value.bool ?_))
          all_goals exact hs
        · have hje : l.length = j := by omega
          subst hje
          repeat' (first
 | refine W.seq ?_
 | refine W.block ?_
 | (refine W.region tys_ok [] ?_; conv => whnf)
 | (refine W.drawAll tys_ok [] mixed rfl ?_; conv => whnf)
 | (refine W.ret ?_; conv => whnf)
 | (refine W.skip ?_; conv => whnf)
 | (refine W.exit ?_; conv => whnf)
 | (refine W.cond rfl (fun hb => ?_) (fun hb => ?_) <;> (try simp only [Int.reduceToNat, Int.reduceTDiv, Int.reduceTMod, minL, maxL, pickB, zHB, zSH] at hb) <;> (try (first | (cases hb; done) | exact absurd hb (by decide) | (exfalso; omega))))
 | ((with_reducible refine And.intro ?_ ?_); (focus ((repeat' (first | (with_reducible rfl) | (with_reducible refine And.intro ?_ ?_) | omega | rfl | exact Or.inl rfl | exact Or.inr rfl | exact of_decide_eq_true rfl | exact Path.imp_of (of_decide_eq_true rfl) | (focus ((try simp only [Int.reduceToNat, Int.reduceTDiv, Int.reduceTMod, minL, maxL, pickB, zHB, zSH, InK, Path.imp, List.length_replicate, List.length_set, List.length_append, List.length_cons, List.length_nil] at *); omega)) | (refine app_le rfl ?_; omega))); done)); (conv => whnf))
 | ((with_reducible refine And.intro (Side.out ?_) ?_); rotate_left; (conv => whnf))
 | ((first | refine retM1 ?_ | refine retM2 ?_) <;> (conv => whnf) <;> repeat' (first
 | exact trivial
 | (with_reducible rfl)
 | ((with_reducible refine And.intro ?_ ?_) <;> conv => whnf)
 | omega
 | rfl
 | (refine congrArg (SV.arr _) ?_)
 | (refine congrArg (Value.int _) ?_)
 | (refine congrArg Value.bool ?_)))); all_goals (try unfold Side)
          all_goals try (repeat' (first | (with_reducible rfl) | (with_reducible refine And.intro ?_ ?_) | omega | rfl | exact Or.inl rfl | exact Or.inr rfl | exact of_decide_eq_true rfl | exact Path.imp_of (of_decide_eq_true rfl) | (focus ((try simp only [Int.reduceToNat, Int.reduceTDiv, Int.reduceTMod, minL, maxL, pickB, zHB, zSH, InK, Path.imp, List.length_replicate, List.length_set, List.length_append, List.length_cons, List.length_nil] at *); omega)) | (refine app_le rfl ?_; omega)))
          all_goals exact hMne
end Go.Proofs.Ytmfholchenihaaa
namespace Go.Proofs.Ytmfholchenihaaa
open Go Go.Vc Go.Sh
set_option linter.unusedVariables false
set_option linter.unusedSimpArgs false
theorem fix_two {l : List Jb} {i : Nat} {x : Int} (hi : i < l.length) : (l.set i (x, (l.getD i J0).2)).set i (((l.set i (x, (l.getD i J0).2)).getD i J0).1, x + (l.getD i J0).2.2.1, ((l.set i (x, (l.getD i J0).2)).getD i J0).2.2) = fixT l i x := by
  have e : (l.set i (x, (l.getD i J0).2)).getD i J0 = (x, (l.getD i J0).2) := by
    rw [List.getD_eq_getElem?_getD, List.getElem?_set]; simp [hi]
  rw [e, List.set_set]
  rfl
set_option maxHeartbeats 4000000 in
theorem growS_at {P : Int} {l0 : List Jb} {os : List Od} (hP : 0 ≤ P ∧ P ≤ 100) {k : Nat} {l : List Jb} {i : Nat} (hk : k + 1 + i = l.length) (hp : Pre l os i) (hb : Bd l) (ho : Ords os l.length)
    (ih : ∀ d : Nat, jf l i + d ≤ jt l i - jl l i → FnM Try.prog 50 [.st false (.arr JT (fixT l i (jf l i + d))), .lit (.int .i64 ((i + 1 : Nat) : Int)), .padr 1000000000 0, .padr 1000000001 0] [(1000000000, .box [.lit (.int .i64 P), .st true (.arr JT l0), .st true (.arr OT os)]), (1000000001, .box1 (.fn 50 [.padr 1000000000 0, .padr 1000000001 0]))]
      (.st true (.narr (.int .i64) ((growT P os k (fixT l i (jf l i + d)) (i + 1)).getD [] : List Int))) [(1000000000, .box [.lit (.int .i64 P), .st true (.arr JT l0), .st true (.arr OT os)]), (1000000001, .box1 (.fn 50 [.padr 1000000000 0, .padr 1000000001 0]))]) :
    FnM Try.prog 50 [.st false (.arr JT l), .lit (.int .i64 i), .padr 1000000000 0, .padr 1000000001 0] [(1000000000, .box [.lit (.int .i64 P), .st true (.arr JT l0), .st true (.arr OT os)]), (1000000001, .box1 (.fn 50 [.padr 1000000000 0, .padr 1000000001 0]))]
      (.st true (.narr (.int .i64) ((growT P os (k + 1) l i).getD [] : List Int))) [(1000000000, .box [.lit (.int .i64 P), .st true (.arr JT l0), .st true (.arr OT os)]), (1000000001, .box1 (.fn 50 [.padr 1000000000 0, .padr 1000000001 0]))] := by
  have hov := overfull_at hP hb
  have hany := anyLate_at hb ho
  have hll : @List.length JT.T l = l.length := rfl
  have hbad : badB P l os = (ovB P l || os.any (lateT l)) := by rw [ovB_over]; rfl
  have hg : growT P os (k + 1) l i = if badB P l os = true then none else tryK (fun d => growT P os k (fixT l i (jf l i + d)) (i + 1)) (jt l i - jl l i - jf l i + 1).toNat := rfl
  have hlen := hb.len
  have hil : i < l.length := by omega
  have hrg := hp.rg i hil
  have hcl := clone_at (l := l) (by omega) (by omega)
  cases e1 : ovB P l with
  | true =>
    rw [e1] at hov hbad
    rw [hg, if_pos (by rw [hbad]; rfl)]
    refine FnM.of_body tys_ok Try.func50 (by rfl) rfl Try.ntmps50 (by rw [Try.results50]) (by simp) ?_
  
    repeat' (first
 | refine W.seq ?_
 | refine W.block ?_
 | (refine W.region tys_ok [] ?_; conv => whnf)
 | (refine W.drawAll tys_ok [] mixed rfl ?_; conv => whnf)
 | (refine W.ret ?_; conv => whnf)
 | (refine W.skip ?_; conv => whnf)
 | (refine W.exit ?_; conv => whnf)
 | (refine call_at (al := false) (hov) rfl rfl rfl rfl ?_; conv => whnf)
 | (refine call_at (al := false) (hany) rfl rfl rfl rfl ?_; conv => whnf)
 | (refine W.cond rfl (fun hb => ?_) (fun hb => ?_) <;> (try simp only [Int.reduceToNat, Int.reduceTDiv, Int.reduceTMod, minL, maxL, pickB, zHB, zSH] at hb) <;> (try (first | (cases hb; done) | exact absurd hb (by decide) | (exfalso; omega))))
 | ((with_reducible refine And.intro ?_ ?_); (focus ((repeat' (first | (with_reducible rfl) | (with_reducible refine And.intro ?_ ?_) | omega | rfl | exact Or.inl rfl | exact Or.inr rfl | exact of_decide_eq_true rfl | exact Path.imp_of (of_decide_eq_true rfl) | (focus ((try simp only [Int.reduceToNat, Int.reduceTDiv, Int.reduceTMod, minL, maxL, pickB, zHB, zSH, InK, Path.imp, List.length_replicate, List.length_set, List.length_append, List.length_cons, List.length_nil] at *); omega)) | (refine app_le rfl ?_; omega))); done)); (conv => whnf))
 | ((with_reducible refine And.intro (Side.out ?_) ?_); rotate_left; (conv => whnf))
 | ((first | refine retM1 ?_ | refine retM2 ?_) <;> (conv => whnf) <;> repeat' (first
 | exact trivial
 | (with_reducible rfl)
 | ((with_reducible refine And.intro ?_ ?_) <;> conv => whnf)
 | omega
 | rfl
 | (refine congrArg (SV.arr _) ?_)
 | (refine congrArg (Value.int _) ?_)
 | (refine congrArg Value.bool ?_)))); all_goals (try unfold Side)
    all_goals try (repeat' (first | (with_reducible rfl) | (with_reducible refine And.intro ?_ ?_) | omega | rfl | exact Or.inl rfl | exact Or.inr rfl | exact of_decide_eq_true rfl | exact Path.imp_of (of_decide_eq_true rfl) | (focus ((try simp only [Int.reduceToNat, Int.reduceTDiv, Int.reduceTMod, minL, maxL, pickB, zHB, zSH, InK, Path.imp, List.length_replicate, List.length_set, List.length_append, List.length_cons, List.length_nil] at *); omega)) | (refine app_le rfl ?_; omega)))
  | false =>
    rw [e1] at hov hbad
    cases e2 : os.any (lateT l) with
    | true =>
      rw [e2] at hany hbad
      rw [hg, if_pos (by rw [hbad]; rfl)]
      refine FnM.of_body tys_ok Try.func50 (by rfl) rfl Try.ntmps50 (by rw [Try.results50]) (by simp) ?_
  
      repeat' (first
 | refine W.seq ?_
 | refine W.block ?_
 | (refine W.region tys_ok [] ?_; conv => whnf)
 | (refine W.drawAll tys_ok [] mixed rfl ?_; conv => whnf)
 | (refine W.ret ?_; conv => whnf)
 | (refine W.skip ?_; conv => whnf)
 | (refine W.exit ?_; conv => whnf)
 | (refine call_at (al := false) (hov) rfl rfl rfl rfl ?_; conv => whnf)
 | (refine call_at (al := false) (hany) rfl rfl rfl rfl ?_; conv => whnf)
 | (refine W.cond rfl (fun hb => ?_) (fun hb => ?_) <;> (try simp only [Int.reduceToNat, Int.reduceTDiv, Int.reduceTMod, minL, maxL, pickB, zHB, zSH] at hb) <;> (try (first | (cases hb; done) | exact absurd hb (by decide) | (exfalso; omega))))
 | ((with_reducible refine And.intro ?_ ?_); (focus ((repeat' (first | (with_reducible rfl) | (with_reducible refine And.intro ?_ ?_) | omega | rfl | exact Or.inl rfl | exact Or.inr rfl | exact of_decide_eq_true rfl | exact Path.imp_of (of_decide_eq_true rfl) | (focus ((try simp only [Int.reduceToNat, Int.reduceTDiv, Int.reduceTMod, minL, maxL, pickB, zHB, zSH, InK, Path.imp, List.length_replicate, List.length_set, List.length_append, List.length_cons, List.length_nil] at *); omega)) | (refine app_le rfl ?_; omega))); done)); (conv => whnf))
 | ((with_reducible refine And.intro (Side.out ?_) ?_); rotate_left; (conv => whnf))
 | ((first | refine retM1 ?_ | refine retM2 ?_) <;> (conv => whnf) <;> repeat' (first
 | exact trivial
 | (with_reducible rfl)
 | ((with_reducible refine And.intro ?_ ?_) <;> conv => whnf)
 | omega
 | rfl
 | (refine congrArg (SV.arr _) ?_)
 | (refine congrArg (Value.int _) ?_)
 | (refine congrArg Value.bool ?_)))); all_goals (try unfold Side)
      all_goals try (repeat' (first | (with_reducible rfl) | (with_reducible refine And.intro ?_ ?_) | omega | rfl | exact Or.inl rfl | exact Or.inr rfl | exact of_decide_eq_true rfl | exact Path.imp_of (of_decide_eq_true rfl) | (focus ((try simp only [Int.reduceToNat, Int.reduceTDiv, Int.reduceTMod, minL, maxL, pickB, zHB, zSH, InK, Path.imp, List.length_replicate, List.length_set, List.length_append, List.length_cons, List.length_nil] at *); omega)) | (refine app_le rfl ?_; omega)))
    | false =>
      rw [e2] at hany hbad
      rw [hg, if_neg (by rw [hbad]; decide)]
      have hlens : ∀ d : Nat, jf l i + d ≤ jt l i - jl l i → ∀ r, growT P os k (fixT l i (jf l i + d)) (i + 1) = some r → r ≠ [] := fun d hd r hr e => by
        have := growT_len (P := P) (by rw [fix_len]; omega) (fix_pre hp hil (by omega) hd) hr
        rw [fix_len, e] at this
        simp at this
        omega
      obtain ⟨G, hG⟩ : ∃ G : Nat → Option (List Int), G = fun d : Nat => growT P os k (fixT l i (jf l i + (d : Int))) (i + 1) := ⟨_, rfl⟩
      have ih' : ∀ d : Nat, jf l i + d ≤ jt l i - jl l i → FnM Try.prog 50 [.st false (.arr JT (fixT l i (jf l i + d))), .lit (.int .i64 ((i + 1 : Nat) : Int)), .padr 1000000000 0, .padr 1000000001 0] [(1000000000, .box [.lit (.int .i64 P), .st true (.arr JT l0), .st true (.arr OT os)]), (1000000001, .box1 (.fn 50 [.padr 1000000000 0, .padr 1000000001 0]))]
        (.st true (.narr (.int .i64) ((G d).getD [] : List Int))) [(1000000000, .box [.lit (.int .i64 P), .st true (.arr JT l0), .st true (.arr OT os)]), (1000000001, .box1 (.fn 50 [.padr 1000000000 0, .padr 1000000001 0]))] := by rw [hG]; exact ih
      have hlens' : ∀ d : Nat, jf l i + d ≤ jt l i - jl l i → ∀ r, G d = some r → r ≠ [] := by rw [hG]; exact hlens
      rw [← hG]
      clear hG ih hlens hg
      have hnat : ((jt l i - jl l i - jf l i + 1).toNat : Int) = jt l i - jl l i - jf l i + 1 := by omega
      obtain ⟨n, hn⟩ : ∃ n, n = (jt l i - jl l i - jf l i + 1).toNat := ⟨_, rfl⟩
      rw [← hn] at hnat ⊢
      have hfx : ∀ x, fixT l i x = l.set i (x, x + jl l i, jl l i, jp l i, ()) := fun x => rfl
      obtain ⟨F, hF⟩ : ∃ F, F = jf l i := ⟨_, rfl⟩
      obtain ⟨T, hT⟩ : ∃ T, T = jt l i := ⟨_, rfl⟩
      obtain ⟨Ln, hLn⟩ : ∃ Ln, Ln = jl l i := ⟨_, rfl⟩
      have hF' : (l.getD i J0).1 = F := hF.symm
      have hT' : (l.getD i J0).2.1 = T := hT.symm
      have hLn' : (l.getD i J0).2.2.1 = Ln := hLn.symm
      rw [← hF, ← hT, ← hLn] at hrg hnat ih' hlens'
      rw [← hLn] at hfx
      have hsl : ∀ y : Jb, ((i : Int)).toNat < (List.set l ((i : Int)).toNat y).length := fun y => by rw [List.length_set]; omega
      have hft0 : ∀ x, (l.set i (x, (l.getD i J0).2)).set i (((l.set i (x, (l.getD i J0).2)).getD i J0).1, x + (l.getD i J0).2.2.1, ((l.set i (x, (l.getD i J0).2)).getD i J0).2.2) = fixT l i x := fun x => fix_two hil
      refine FnM.of_body tys_ok Try.func50 (by rfl) rfl Try.ntmps50 (by rw [Try.results50]) (by simp) ?_
  
      repeat' (first
 | refine W.seq ?_
 | refine W.block ?_
 | (refine W.region tys_ok [] ?_; conv => whnf)
 | (refine W.drawAll tys_ok [] mixed rfl ?_; conv => whnf)
 | (refine W.ret ?_; conv => whnf)
 | (refine W.skip ?_; conv => whnf)
 | (refine W.exit ?_; conv => whnf)
 | (refine call_at (al := false) (hov) rfl rfl rfl rfl ?_; conv => whnf)
 | (refine call_at (al := false) (hany) rfl rfl rfl rfl ?_; conv => whnf)
 | (refine W.cond rfl (fun hb => ?_) (fun hb => ?_) <;> (try simp only [Int.reduceToNat, Int.reduceTDiv, Int.reduceTMod, minL, maxL, pickB, zHB, zSH] at hb) <;> (try (first | (cases hb; done) | exact absurd hb (by decide) | (exfalso; omega) | (omega))))
 | ((with_reducible refine And.intro ?_ ?_); (focus ((repeat' (first | (with_reducible rfl) | (with_reducible refine And.intro ?_ ?_) | omega | rfl | exact Or.inl rfl | exact Or.inr rfl | exact of_decide_eq_true rfl | exact Path.imp_of (of_decide_eq_true rfl) | (focus ((try simp only [Int.reduceToNat, Int.reduceTDiv, Int.reduceTMod, minL, maxL, pickB, zHB, zSH, InK, Path.imp, List.length_replicate, List.length_set, List.length_append, List.length_cons, List.length_nil] at *); omega)) | (refine app_le rfl ?_; omega))); done)); (conv => whnf))
 | ((with_reducible refine And.intro (Side.out ?_) ?_); rotate_left; (conv => whnf))
 | ((first | refine retM1 ?_ | refine retM2 ?_) <;> (conv => whnf) <;> repeat' (first
 | exact trivial
 | (with_reducible rfl)
 | ((with_reducible refine And.intro ?_ ?_) <;> conv => whnf)
 | omega
 | rfl
 | (refine congrArg (SV.arr _) ?_)
 | (refine congrArg (Value.int _) ?_)
 | (refine congrArg Value.bool ?_)))); all_goals (try unfold Side)
      all_goals try (repeat' (first | (with_reducible rfl) | (with_reducible refine And.intro ?_ ?_) | omega | rfl | exact Or.inl rfl | exact Or.inr rfl | exact of_decide_eq_true rfl | exact Path.imp_of (of_decide_eq_true rfl) | (focus ((try simp only [Int.reduceToNat, Int.reduceTDiv, Int.reduceTMod, minL, maxL, pickB, zHB, zSH, InK, Path.imp, List.length_replicate, List.length_set, List.length_append, List.length_cons, List.length_nil] at *); omega)) | (refine app_le rfl ?_; omega)))
      refine W.loop (fun d : Nat => ⟨[(1, .lit (.int .i64 (i))), (2, .padr 1000000000 0), (3, .padr 1000000001 0), (4, .st false (.sadr (.arr JT l))), (13, .lit (.int .i64 ((F + (d : Int)))))], [(1000000000, .box [.lit (.int .i64 P), .st true (.arr JT l0), .st true (.arr OT os)]), (1000000001, .box1 (.fn 50 [.padr 1000000000 0, .padr 1000000001 0]))]⟩) (fun d => d ≤ n ∧ (∀ e, e < d → G e = none)) (fun d => n - d) (0) ?_ ?_
      · refine ⟨⟨Nat.zero_le _, by omega⟩, ?_⟩
        refine subF.ok ?_ <;> (conv => whnf) <;> repeat' (first
 | exact trivial
 | (with_reducible rfl)
 | ((with_reducible refine And.intro ?_ ?_) <;> conv => whnf)
 | omega
 | rfl
 | (refine congrArg (SV.arr _) ?_)
 | (refine congrArg (Value.int _) ?_)
 | (refine congrArg Value.bool ?_))
        all_goals (simp only [Int.reduceToNat, Int.reduceTDiv, Int.reduceTMod, minL, maxL, pickB, zHB, zSH]; omega)
      · rintro d ⟨hd, hno⟩
        by_cases hdl : d < n
        · have hi := ih' d (by omega)
          have hl := hlens' d (by omega)
          have hft := hft0 (F + d)
          cases e : G d with
          | none =>
            rw [e] at hi
            have hi2 : FnM Try.prog 50 [.st false (.arr JT (fixT l i (F + d))), .lit (.int .i64 ((i + 1 : Nat) : Int)), .padr 1000000000 0, .padr 1000000001 0] [(1000000000, .box [.lit (.int .i64 P), .st true (.arr JT l0), .st true (.arr OT os)]), (1000000001, .box1 (.fn 50 [.padr 1000000000 0, .padr 1000000001 0]))]
              (.st true (.narr (.int .i64) ([] : List Int))) [(1000000000, .box [.lit (.int .i64 P), .st true (.arr JT l0), .st true (.arr OT os)]), (1000000001, .box1 (.fn 50 [.padr 1000000000 0, .padr 1000000001 0]))] := hi
            repeat' (first
 | refine W.seq ?_
 | refine W.block ?_
 | (refine W.resub (x := Code.region 17 _ _) (Γ' := ⟨[(1, .lit (.int .i64 (i))), (2, .padr 1000000000 0), (3, .padr 1000000001 0), (4, .st false (.sadr (.arr JT l))), (13, .lit (.int .i64 ((F + (d : Int))))), (14, .st true (.arr JT (fixT l i (F + (d : Int)))))], [(1000000000, .box [.lit (.int .i64 P), .st true (.arr JT l0), .st true (.arr OT os)]), (1000000001, .box1 (.fn 50 [.padr 1000000000 0, .padr 1000000001 0]))]⟩) ?_ (W.regionM tys_ok [] [4] ?_); rotate_left; (conv => whnf))
 | (refine W.drawPh (id := 13) tys_ok [] mixed [0, 0, 0, 6, 8, 16, 0, 0, 192, 256, 512, 1056, 2049] [([0, 1, 2, 3, 4, 5, 6, 7, 8, 9, 10, 11, 12], 0, 8191)] (by decide +kernel) ?_; conv => whnf)
 | (refine W.region tys_ok [] ?_; conv => whnf)
 | (refine W.drawAll tys_ok [] mixed rfl ?_; conv => whnf)
 | (refine W.ret ?_; conv => whnf)
 | (refine W.skip ?_; conv => whnf)
 | (refine W.exit ?_; conv => whnf)
 | (refine call_at (al := false) (hcl) rfl rfl rfl rfl ?_; conv => whnf)
 | (refine callM_at (hi2) ?_; conv => whnf)
 | (refine Both.mk ?_ ?_ <;> (conv => whnf))
 | (refine W.cond rfl (fun hb => ?_) (fun hb => ?_) <;> (try simp only [Int.reduceToNat, Int.reduceTDiv, Int.reduceTMod, minL, maxL, pickB, zHB, zSH] at hb) <;> (try (first | (cases hb; done) | exact absurd hb (by decide) | (exfalso; omega) | (omega))))
 | (refine Or.inl (And.intro ?_ ?_); (focus (first | exact trivial | exact ⟨rfl, trivial⟩ | (refine ⟨?_, trivial⟩; dsimp only; simp only [Int.reduceToNat, Int.reduceTDiv, Int.reduceTMod, minL, maxL, pickB, zHB, zSH]; omega))); (conv => whnf))
 | (refine Or.inr (And.intro ?_ ?_); (focus (intro h; have h := h.1; dsimp only at h; first | (exact Bool.noConfusion h) | (simp only [Int.reduceToNat, Int.reduceTDiv, Int.reduceTMod, minL, maxL, pickB, zHB, zSH] at h; omega))); (conv => whnf))
 | ((with_reducible refine And.intro ?_ ?_); (focus ((repeat' (first | (with_reducible rfl) | (with_reducible refine And.intro ?_ ?_) | omega | rfl | exact Or.inl rfl | exact Or.inr rfl | exact of_decide_eq_true rfl | exact Path.imp_of (of_decide_eq_true rfl) | (focus ((try simp only [Int.reduceToNat, Int.reduceTDiv, Int.reduceTMod, minL, maxL, pickB, zHB, zSH, InK, Path.imp, List.length_replicate, List.length_set, List.length_append, List.length_cons, List.length_nil] at *); omega)) | (refine app_le rfl ?_; omega))); done)); (conv => whnf))
 | ((with_reducible refine And.intro (Side.out ?_) ?_); rotate_left; (conv => whnf))
 | ((first | refine retM1 ?_ | refine retM2 ?_ | refine subF.leaf ?_ | refine subF.side ?_) <;> (conv => whnf) <;> repeat' (first
 | exact trivial
 | (with_reducible rfl)
 | ((with_reducible refine And.intro ?_ ?_) <;> conv => whnf)
 | omega
 | rfl
 | (refine congrArg (SV.arr _) ?_)
 | (refine congrArg (Value.int _) ?_)
 | (refine congrArg Value.bool ?_)))); all_goals (try unfold Side)
            all_goals try (repeat' (first | (with_reducible rfl) | (with_reducible refine And.intro ?_ ?_) | omega | rfl | exact Or.inl rfl | exact Or.inr rfl | exact of_decide_eq_true rfl | exact Path.imp_of (of_decide_eq_true rfl) | (focus ((try simp only [Int.reduceToNat, Int.reduceTDiv, Int.reduceTMod, minL, maxL, pickB, zHB, zSH, InK, Path.imp, List.length_replicate, List.length_set, List.length_append, List.length_cons, List.length_nil] at *); omega)) | (refine app_le rfl ?_; omega)))
            all_goals try (first | exact hsl _ | exact Path.imp_of ⟨by omega, hsl _⟩ | exact hft)
            refine ⟨d + 1, ⟨⟨by omega, fun m hm => ?_⟩, by omega⟩, ?_⟩
            · by_cases e2 : m = d
              · subst e2; exact e
              · exact hno m (by omega)
            · refine subF.ok ?_ <;> (conv => whnf) <;> repeat' (first
 | exact trivial
 | (with_reducible rfl)
 | ((with_reducible refine And.intro ?_ ?_) <;> conv => whnf)
 | omega
 | rfl
 | (refine congrArg (SV.arr _) ?_)
 | (refine congrArg (Value.int _) ?_)
 | (refine congrArg Value.bool ?_))
              all_goals omega
          | some r =>
            rw [e] at hi
            have hr := hl r e
            have hre : r.isEmpty = false := by cases r with | nil => exact absurd rfl hr | cons => rfl
            rw [tryK_hit e hno hdl]
            have hi2 : FnM Try.prog 50 [.st false (.arr JT (fixT l i (F + d))), .lit (.int .i64 ((i + 1 : Nat) : Int)), .padr 1000000000 0, .padr 1000000001 0] [(1000000000, .box [.lit (.int .i64 P), .st true (.arr JT l0), .st true (.arr OT os)]), (1000000001, .box1 (.fn 50 [.padr 1000000000 0, .padr 1000000001 0]))]
              (.st true (.narr (.int .i64) (r : List Int))) [(1000000000, .box [.lit (.int .i64 P), .st true (.arr JT l0), .st true (.arr OT os)]), (1000000001, .box1 (.fn 50 [.padr 1000000000 0, .padr 1000000001 0]))] := hi
            repeat' (first
 | refine W.seq ?_
 | refine W.block ?_
 | (refine W.resub (x := Code.region 17 _ _) (Γ' := ⟨[(1, .lit (.int .i64 (i))), (2, .padr 1000000000 0), (3, .padr 1000000001 0), (4, .st false (.sadr (.arr JT l))), (13, .lit (.int .i64 ((F + (d : Int))))), (14, .st true (.arr JT (fixT l i (F + (d : Int)))))], [(1000000000, .box [.lit (.int .i64 P), .st true (.arr JT l0), .st true (.arr OT os)]), (1000000001, .box1 (.fn 50 [.padr 1000000000 0, .padr 1000000001 0]))]⟩) ?_ (W.regionM tys_ok [] [4] ?_); rotate_left; (conv => whnf))
 | (refine W.drawPh (id := 13) tys_ok [] mixed [0, 0, 0, 6, 8, 16, 0, 0, 192, 256, 512, 1056, 2049] [([0, 1, 2, 3, 4, 5, 6, 7, 8, 9, 10, 11, 12], 0, 8191)] (by decide +kernel) ?_; conv => whnf)
 | (refine W.region tys_ok [] ?_; conv => whnf)
 | (refine W.drawAll tys_ok [] mixed rfl ?_; conv => whnf)
 | (refine W.ret ?_; conv => whnf)
 | (refine W.skip ?_; conv => whnf)
 | (refine W.exit ?_; conv => whnf)
 | (refine call_at (al := false) (hcl) rfl rfl rfl rfl ?_; conv => whnf)
 | (refine callM_at (hi2) ?_; conv => whnf)
 | (refine Both.mk ?_ ?_ <;> (conv => whnf))
 | (refine W.cond rfl (fun hb => ?_) (fun hb => ?_) <;> (try simp only [Int.reduceToNat, Int.reduceTDiv, Int.reduceTMod, minL, maxL, pickB, zHB, zSH] at hb) <;> (try (first | (cases hb; done) | exact absurd hb (by decide) | (exfalso; omega) | (first | omega | exact Bool.noConfusion (hb.symm.trans hre)))))
 | (refine Or.inl (And.intro ?_ ?_); (focus (first | exact trivial | exact ⟨rfl, trivial⟩ | (refine ⟨?_, trivial⟩; dsimp only; simp only [Int.reduceToNat, Int.reduceTDiv, Int.reduceTMod, minL, maxL, pickB, zHB, zSH]; omega))); (conv => whnf))
 | (refine Or.inr (And.intro ?_ ?_); (focus (intro h; have h := h.1; dsimp only at h; first | (exact Bool.noConfusion h) | (simp only [Int.reduceToNat, Int.reduceTDiv, Int.reduceTMod, minL, maxL, pickB, zHB, zSH] at h; omega))); (conv => whnf))
 | ((with_reducible refine And.intro ?_ ?_); (focus ((repeat' (first | (with_reducible rfl) | (with_reducible refine And.intro ?_ ?_) | omega | rfl | exact Or.inl rfl | exact Or.inr rfl | exact of_decide_eq_true rfl | exact Path.imp_of (of_decide_eq_true rfl) | (focus ((try simp only [Int.reduceToNat, Int.reduceTDiv, Int.reduceTMod, minL, maxL, pickB, zHB, zSH, InK, Path.imp, List.length_replicate, List.length_set, List.length_append, List.length_cons, List.length_nil] at *); omega)) | (refine app_le rfl ?_; omega))); done)); (conv => whnf))
 | ((with_reducible refine And.intro (Side.out ?_) ?_); rotate_left; (conv => whnf))
 | ((first | refine retM1 ?_ | refine retM2 ?_ | refine subF.leaf ?_ | refine subF.side ?_) <;> (conv => whnf) <;> repeat' (first
 | exact trivial
 | (with_reducible rfl)
 | ((with_reducible refine And.intro ?_ ?_) <;> conv => whnf)
 | omega
 | rfl
 | (refine congrArg (SV.arr _) ?_)
 | (refine congrArg (Value.int _) ?_)
 | (refine congrArg Value.bool ?_)))); all_goals (try unfold Side)
            all_goals try (repeat' (first | (with_reducible rfl) | (with_reducible refine And.intro ?_ ?_) | omega | rfl | exact Or.inl rfl | exact Or.inr rfl | exact of_decide_eq_true rfl | exact Path.imp_of (of_decide_eq_true rfl) | (focus ((try simp only [Int.reduceToNat, Int.reduceTDiv, Int.reduceTMod, minL, maxL, pickB, zHB, zSH, InK, Path.imp, List.length_replicate, List.length_set, List.length_append, List.length_cons, List.length_nil] at *); omega)) | (refine app_le rfl ?_; omega)))
            all_goals try (first | exact hsl _ | exact Path.imp_of ⟨by omega, hsl _⟩ | exact hft)
        · have hde : n = d := by omega
          subst hde
          rw [tryK_of hno]
          repeat' (first
 | refine W.seq ?_
 | refine W.block ?_
 | (refine W.drawPh (id := 13) tys_ok [] mixed [0, 0, 0, 6, 8, 16, 0, 0, 192, 256, 512, 1056, 2049] [([0, 1, 2, 3, 4, 5, 6, 7, 8, 9, 10, 11, 12], 0, 8191)] (by decide +kernel) ?_; conv => whnf)
 | (refine W.region tys_ok [] ?_; conv => whnf)
 | (refine W.drawAll tys_ok [] mixed rfl ?_; conv => whnf)
 | (refine W.ret ?_; conv => whnf)
 | (refine W.skip ?_; conv => whnf)
 | (refine W.exit ?_; conv => whnf)
 | (refine Both.mk ?_ ?_ <;> (conv => whnf))
 | (refine W.cond rfl (fun hb => ?_) (fun hb => ?_) <;> (try simp only [Int.reduceToNat, Int.reduceTDiv, Int.reduceTMod, minL, maxL, pickB, zHB, zSH] at hb) <;> (try (first | (cases hb; done) | exact absurd hb (by decide) | (exfalso; omega) | (omega))))
 | ((with_reducible refine And.intro ?_ ?_); (focus ((repeat' (first | (with_reducible rfl) | (with_reducible refine And.intro ?_ ?_) | omega | rfl | exact Or.inl rfl | exact Or.inr rfl | exact of_decide_eq_true rfl | exact Path.imp_of (of_decide_eq_true rfl) | (focus ((try simp only [Int.reduceToNat, Int.reduceTDiv, Int.reduceTMod, minL, maxL, pickB, zHB, zSH, InK, Path.imp, List.length_replicate, List.length_set, List.length_append, List.length_cons, List.length_nil] at *); omega)) | (refine app_le rfl ?_; omega))); done)); (conv => whnf))
 | ((with_reducible refine And.intro (Side.out ?_) ?_); rotate_left; (conv => whnf))
 | ((first | refine retM1 ?_ | refine retM2 ?_ | refine subF.leaf ?_ | refine subF.side ?_) <;> (conv => whnf) <;> repeat' (first
 | exact trivial
 | (with_reducible rfl)
 | ((with_reducible refine And.intro ?_ ?_) <;> conv => whnf)
 | omega
 | rfl
 | (refine congrArg (SV.arr _) ?_)
 | (refine congrArg (Value.int _) ?_)
 | (refine congrArg Value.bool ?_)))); all_goals (try unfold Side)
          all_goals try (repeat' (first | (with_reducible rfl) | (with_reducible refine And.intro ?_ ?_) | omega | rfl | exact Or.inl rfl | exact Or.inr rfl | exact of_decide_eq_true rfl | exact Path.imp_of (of_decide_eq_true rfl) | (focus ((try simp only [Int.reduceToNat, Int.reduceTDiv, Int.reduceTMod, minL, maxL, pickB, zHB, zSH, InK, Path.imp, List.length_replicate, List.length_set, List.length_append, List.length_cons, List.length_nil] at *); omega)) | (refine app_le rfl ?_; omega)))
theorem grow_at {P : Int} {l0 : List Jb} {os : List Od} (hP : 0 ≤ P ∧ P ≤ 100) : ∀ {k : Nat} {l : List Jb} {i : Nat}, k + i = l.length → 1 ≤ l.length → Pre l os i → Bd l → Ords os l.length →
    FnM Try.prog 50 [.st false (.arr JT l), .lit (.int .i64 i), .padr 1000000000 0, .padr 1000000001 0] [(1000000000, .box [.lit (.int .i64 P), .st true (.arr JT l0), .st true (.arr OT os)]), (1000000001, .box1 (.fn 50 [.padr 1000000000 0, .padr 1000000001 0]))]
      (.st true (.narr (.int .i64) ((growT P os k l i).getD [] : List Int))) [(1000000000, .box [.lit (.int .i64 P), .st true (.arr JT l0), .st true (.arr OT os)]), (1000000001, .box1 (.fn 50 [.padr 1000000000 0, .padr 1000000001 0]))]
  | 0, l, i, hk, h1, hp, hb, ho => grow0_at hP (by omega) h1 hb ho
  | k + 1, l, i, hk, h1, hp, hb, ho => by
    have hi : i < l.length := by omega
    have hr := hp.rg i hi
    exact growS_at hP (by omega) hp hb ho fun d hd => grow_at hP (k := k) (l := fixT l i (jf l i + d)) (i := i + 1) (by rw [fix_len]; omega) (by rw [fix_len]; exact h1) (fix_pre hp hi (by omega) hd) (fix_bd (os := os) hb hi (by omega) hd) (by rw [fix_len]; exact ho)
def firstT (P : Int) (l : List Jb) (os : List Od) : List Int := (growT P os l.length l 0).getD []
theorem first_at {P : Int} {l : List Jb} {os : List Od} (h : VS P l os) : FnAt Try.prog true 39 [.agg [I64 P, .arr JT l, .arr OT os]] (.st true (.narr (.int .i64) (firstT P l os : List Int))) [] := by
  have hg := grow_at (P := P) (l0 := l) (os := os) (k := l.length) (l := l) (i := 0) (by have := h.pw; omega) rfl h.ln.1 h.pre (bd_of h) (ords_of h)
  refine FnAt.of_body tys_ok Try.func39 (by rfl) rfl Try.ntmps39 (by rw [Try.results39]) (by simp) ?_
  
  repeat' (first
 | refine W.seq ?_
 | refine W.block ?_
 | (refine W.regionM (id := 3) tys_ok [] [3] ?_; conv => whnf)
 | (refine W.region tys_ok [] ?_; conv => whnf)
 | (refine W.drawAll tys_ok [] mixed rfl ?_; conv => whnf)
 | (refine W.ret ?_; conv => whnf)
 | (refine W.skip ?_; conv => whnf)
 | (refine W.exit ?_; conv => whnf)
 | (refine callM_at (hg) ?_; conv => whnf)
 | (refine W.cond rfl (fun hb => ?_) (fun hb => ?_) <;> (try simp only [Int.reduceToNat, Int.reduceTDiv, Int.reduceTMod, minL, maxL, pickB, zHB, zSH] at hb) <;> (try (first | (cases hb; done) | exact absurd hb (by decide) | (exfalso; omega))))
 | (refine Or.inl (And.intro ?_ ?_); (focus (first | exact trivial | exact ⟨rfl, trivial⟩ | (refine ⟨?_, trivial⟩; dsimp only; simp only [Int.reduceToNat, Int.reduceTDiv, Int.reduceTMod, minL, maxL, pickB, zHB, zSH]; omega))); (conv => whnf))
 | (refine Or.inr (And.intro ?_ ?_); (focus (intro h; have h := h.1; dsimp only at h; first | (exact Bool.noConfusion h) | (simp only [Int.reduceToNat, Int.reduceTDiv, Int.reduceTMod, minL, maxL, pickB, zHB, zSH] at h; omega))); (conv => whnf))
 | ((with_reducible refine And.intro ?_ ?_); (focus ((repeat' (first | (with_reducible rfl) | (with_reducible refine And.intro ?_ ?_) | omega | rfl | exact Or.inl rfl | exact Or.inr rfl | exact of_decide_eq_true rfl | exact Path.imp_of (of_decide_eq_true rfl) | (focus ((try simp only [Int.reduceToNat, Int.reduceTDiv, Int.reduceTMod, minL, maxL, pickB, zHB, zSH, InK, Path.imp, List.length_replicate, List.length_set, List.length_append, List.length_cons, List.length_nil] at *); omega)) | (refine app_le rfl ?_; omega))); done)); (conv => whnf))
 | ((with_reducible refine And.intro (Side.out ?_) ?_); rotate_left; (conv => whnf))
 | ((first | refine retF1 ?_ | refine retF2 ?_) <;> (conv => whnf) <;> repeat' (first
 | exact trivial
 | (with_reducible rfl)
 | ((with_reducible refine And.intro ?_ ?_) <;> conv => whnf)
 | omega
 | rfl
 | (refine congrArg (SV.arr _) ?_)
 | (refine congrArg (Value.int _) ?_)
 | (refine congrArg Value.bool ?_)))); all_goals (try unfold Side)
  all_goals try (repeat' (first | (with_reducible rfl) | (with_reducible refine And.intro ?_ ?_) | omega | rfl | exact Or.inl rfl | exact Or.inr rfl | exact of_decide_eq_true rfl | exact Path.imp_of (of_decide_eq_true rfl) | (focus ((try simp only [Int.reduceToNat, Int.reduceTDiv, Int.reduceTMod, minL, maxL, pickB, zHB, zSH, InK, Path.imp, List.length_replicate, List.length_set, List.length_append, List.length_cons, List.length_nil] at *); omega)) | (refine app_le rfl ?_; omega)))
end Go.Proofs.Ytmfholchenihaaa
namespace Go.Proofs.Ytmfholchenihaaa
open Go Go.Vc Go.Sh
set_option linter.unusedVariables false
set_option linter.unusedSimpArgs false
theorem ne_isEmpty {α : Type} {r : List α} (h : r ≠ []) : r.isEmpty = false := by cases r with | nil => exact absurd rfl h | cons => rfl
theorem First_no {P : Int} {l : List Jb} {os : List Od} (hl : l.length ≤ 1000) (ho : os.length ≤ 1000) (h : ¬ VS P l os) : FnAt Try.prog true 19 [.agg [I64 P, .arr JT l, .arr OT os]] (.tup [.st true (.narr (.int .i64) ([] : List Int)), .lit (.int .i64 1)]) [] := by
  have hv := valid_at (P := P) hl ho
  rw [validB_no h] at hv
  refine FnAt.of_body tys_ok Try.func19 (by rfl) rfl Try.ntmps19 (by rw [Try.results19]) (by simp) ?_
  
  repeat' (first
 | refine W.seq ?_
 | refine W.block ?_
 | (refine W.region tys_ok [] ?_; conv => whnf)
 | (refine W.drawAll tys_ok [] mixed rfl ?_; conv => whnf)
 | (refine W.ret ?_; conv => whnf)
 | (refine W.skip ?_; conv => whnf)
 | (refine W.exit ?_; conv => whnf)
 | (refine call_at (al := false) (hv) rfl rfl rfl rfl ?_; conv => whnf)
 | (refine W.cond rfl (fun hb => ?_) (fun hb => ?_) <;> (try simp only [Int.reduceToNat, Int.reduceTDiv, Int.reduceTMod, minL, maxL, pickB, zHB, zSH] at hb) <;> (try (first | (cases hb; done) | exact absurd hb (by decide) | (exfalso; omega))))
 | ((with_reducible refine And.intro ?_ ?_); (focus ((repeat' (first | (with_reducible rfl) | (with_reducible refine And.intro ?_ ?_) | omega | rfl | exact Or.inl rfl | exact Or.inr rfl | exact of_decide_eq_true rfl | exact Path.imp_of (of_decide_eq_true rfl) | (focus ((try simp only [Int.reduceToNat, Int.reduceTDiv, Int.reduceTMod, minL, maxL, pickB, zHB, zSH, InK, Path.imp, List.length_replicate, List.length_set, List.length_append, List.length_cons, List.length_nil] at *); omega)) | (refine app_le rfl ?_; omega))); done)); (conv => whnf))
 | ((with_reducible refine And.intro (Side.out ?_) ?_); rotate_left; (conv => whnf))
 | ((first | refine retF1 ?_ | refine retF2 ?_) <;> (conv => whnf) <;> repeat' (first
 | exact trivial
 | (with_reducible rfl)
 | ((with_reducible refine And.intro ?_ ?_) <;> conv => whnf)
 | omega
 | rfl
 | (refine congrArg (SV.arr _) ?_)
 | (refine congrArg (Value.int _) ?_)
 | (refine congrArg Value.bool ?_)))); all_goals (try unfold Side)
  all_goals try (repeat' (first | (with_reducible rfl) | (with_reducible refine And.intro ?_ ?_) | omega | rfl | exact Or.inl rfl | exact Or.inr rfl | exact of_decide_eq_true rfl | exact Path.imp_of (of_decide_eq_true rfl) | (focus ((try simp only [Int.reduceToNat, Int.reduceTDiv, Int.reduceTMod, minL, maxL, pickB, zHB, zSH, InK, Path.imp, List.length_replicate, List.length_set, List.length_append, List.length_cons, List.length_nil] at *); omega)) | (refine app_le rfl ?_; omega)))
theorem First_none {P : Int} {l : List Jb} {os : List Od} (h : VS P l os) (hf : firstT P l os = []) : FnAt Try.prog true 19 [.agg [I64 P, .arr JT l, .arr OT os]] (.tup [.st true (.narr (.int .i64) ([] : List Int)), .lit (.int .i64 5)]) [] := by
  have hv := valid_at (P := P) (l := l) (os := os) (by have := h.ln; omega) (by have := h.lo; omega)
  rw [validB_yes h] at hv
  have hr := first_at h
  rw [hf] at hr
  refine FnAt.of_body tys_ok Try.func19 (by rfl) rfl Try.ntmps19 (by rw [Try.results19]) (by simp) ?_
  
  repeat' (first
 | refine W.seq ?_
 | refine W.block ?_
 | (refine W.region tys_ok [] ?_; conv => whnf)
 | (refine W.drawAll tys_ok [] mixed rfl ?_; conv => whnf)
 | (refine W.ret ?_; conv => whnf)
 | (refine W.skip ?_; conv => whnf)
 | (refine W.exit ?_; conv => whnf)
 | (refine call_at (al := false) (hv) rfl rfl rfl rfl ?_; conv => whnf)
 | (refine call_at (al := true) (hr) rfl rfl rfl rfl ?_; conv => whnf)
 | (refine W.cond rfl (fun hb => ?_) (fun hb => ?_) <;> (try simp only [Int.reduceToNat, Int.reduceTDiv, Int.reduceTMod, minL, maxL, pickB, zHB, zSH] at hb) <;> (try (first | (cases hb; done) | exact absurd hb (by decide) | (exfalso; omega))))
 | ((with_reducible refine And.intro ?_ ?_); (focus ((repeat' (first | (with_reducible rfl) | (with_reducible refine And.intro ?_ ?_) | omega | rfl | exact Or.inl rfl | exact Or.inr rfl | exact of_decide_eq_true rfl | exact Path.imp_of (of_decide_eq_true rfl) | (focus ((try simp only [Int.reduceToNat, Int.reduceTDiv, Int.reduceTMod, minL, maxL, pickB, zHB, zSH, InK, Path.imp, List.length_replicate, List.length_set, List.length_append, List.length_cons, List.length_nil] at *); omega)) | (refine app_le rfl ?_; omega))); done)); (conv => whnf))
 | ((with_reducible refine And.intro (Side.out ?_) ?_); rotate_left; (conv => whnf))
 | ((first | refine retF1 ?_ | refine retF2 ?_) <;> (conv => whnf) <;> repeat' (first
 | exact trivial
 | (with_reducible rfl)
 | ((with_reducible refine And.intro ?_ ?_) <;> conv => whnf)
 | omega
 | rfl
 | (refine congrArg (SV.arr _) ?_)
 | (refine congrArg (Value.int _) ?_)
 | (refine congrArg Value.bool ?_)))); all_goals (try unfold Side)
  all_goals try (repeat' (first | (with_reducible rfl) | (with_reducible refine And.intro ?_ ?_) | omega | rfl | exact Or.inl rfl | exact Or.inr rfl | exact of_decide_eq_true rfl | exact Path.imp_of (of_decide_eq_true rfl) | (focus ((try simp only [Int.reduceToNat, Int.reduceTDiv, Int.reduceTMod, minL, maxL, pickB, zHB, zSH, InK, Path.imp, List.length_replicate, List.length_set, List.length_append, List.length_cons, List.length_nil] at *); omega)) | (refine app_le rfl ?_; omega)))
theorem First_ok {P : Int} {l : List Jb} {os : List Od} (h : VS P l os) {r : List Int} (hf : firstT P l os = r) (hn : r ≠ []) : FnAt Try.prog true 19 [.agg [I64 P, .arr JT l, .arr OT os]] (.tup [.st true (.narr (.int .i64) r), .lit (.int .i64 0)]) [] := by
  have hv := valid_at (P := P) (l := l) (os := os) (by have := h.ln; omega) (by have := h.lo; omega)
  rw [validB_yes h] at hv
  have hr := first_at h
  rw [hf] at hr
  have he := ne_isEmpty hn
  refine FnAt.of_body tys_ok Try.func19 (by rfl) rfl Try.ntmps19 (by rw [Try.results19]) (by simp) ?_
  
  repeat' (first
 | refine W.seq ?_
 | refine W.block ?_
 | (refine W.region tys_ok [] ?_; conv => whnf)
 | (refine W.drawAll tys_ok [] mixed rfl ?_; conv => whnf)
 | (refine W.ret ?_; conv => whnf)
 | (refine W.skip ?_; conv => whnf)
 | (refine W.exit ?_; conv => whnf)
 | (refine call_at (al := false) (hv) rfl rfl rfl rfl ?_; conv => whnf)
 | (refine call_at (al := true) (hr) rfl rfl rfl rfl ?_; conv => whnf)
 | (refine W.cond rfl (fun hb => ?_) (fun hb => ?_) <;> (try simp only [Int.reduceToNat, Int.reduceTDiv, Int.reduceTMod, minL, maxL, pickB, zHB, zSH] at hb) <;> (try (first | (cases hb; done) | exact absurd hb (by decide) | (exfalso; omega) | (exact Bool.noConfusion (hb.symm.trans he)))))
 | ((with_reducible refine And.intro ?_ ?_); (focus ((repeat' (first | (with_reducible rfl) | (with_reducible refine And.intro ?_ ?_) | omega | rfl | exact Or.inl rfl | exact Or.inr rfl | exact of_decide_eq_true rfl | exact Path.imp_of (of_decide_eq_true rfl) | (focus ((try simp only [Int.reduceToNat, Int.reduceTDiv, Int.reduceTMod, minL, maxL, pickB, zHB, zSH, InK, Path.imp, List.length_replicate, List.length_set, List.length_append, List.length_cons, List.length_nil] at *); omega)) | (refine app_le rfl ?_; omega))); done)); (conv => whnf))
 | ((with_reducible refine And.intro (Side.out ?_) ?_); rotate_left; (conv => whnf))
 | ((first | refine retF1 ?_ | refine retF2 ?_) <;> (conv => whnf) <;> repeat' (first
 | exact trivial
 | (with_reducible rfl)
 | ((with_reducible refine And.intro ?_ ?_) <;> conv => whnf)
 | omega
 | rfl
 | (refine congrArg (SV.arr _) ?_)
 | (refine congrArg (Value.int _) ?_)
 | (refine congrArg Value.bool ?_)))); all_goals (try unfold Side)
  all_goals try (repeat' (first | (with_reducible rfl) | (with_reducible refine And.intro ?_ ?_) | omega | rfl | exact Or.inl rfl | exact Or.inr rfl | exact of_decide_eq_true rfl | exact Path.imp_of (of_decide_eq_true rfl) | (focus ((try simp only [Int.reduceToNat, Int.reduceTDiv, Int.reduceTMod, minL, maxL, pickB, zHB, zSH, InK, Path.imp, List.length_replicate, List.length_set, List.length_append, List.length_cons, List.length_nil] at *); omega)) | (refine app_le rfl ?_; omega)))
theorem Short_no {P : Int} {l : List Jb} {os : List Od} (hl : l.length ≤ 1000) (ho : os.length ≤ 1000) (h : ¬ VS P l os) : FnAt Try.prog true 20 [.agg [I64 P, .arr JT l, .arr OT os]] (.tup [.st true (.narr (.int .i64) ([] : List Int)), .lit (.int .i64 0), .lit (.int .i64 1)]) [] := by
  have hv := valid_at (P := P) hl ho
  rw [validB_no h] at hv
  refine FnAt.of_body tys_ok Try.func20 (by rfl) rfl Try.ntmps20 (by rw [Try.results20]) (by simp) ?_
  
  repeat' (first
 | refine W.seq ?_
 | refine W.block ?_
 | (refine W.region tys_ok [] ?_; conv => whnf)
 | (refine W.drawAll tys_ok [] mixed rfl ?_; conv => whnf)
 | (refine W.ret ?_; conv => whnf)
 | (refine W.skip ?_; conv => whnf)
 | (refine W.exit ?_; conv => whnf)
 | (refine call_at (al := false) (hv) rfl rfl rfl rfl ?_; conv => whnf)
 | (refine W.cond rfl (fun hb => ?_) (fun hb => ?_) <;> (try simp only [Int.reduceToNat, Int.reduceTDiv, Int.reduceTMod, minL, maxL, pickB, zHB, zSH] at hb) <;> (try (first | (cases hb; done) | exact absurd hb (by decide) | (exfalso; omega))))
 | ((with_reducible refine And.intro ?_ ?_); (focus ((repeat' (first | (with_reducible rfl) | (with_reducible refine And.intro ?_ ?_) | omega | rfl | exact Or.inl rfl | exact Or.inr rfl | exact of_decide_eq_true rfl | exact Path.imp_of (of_decide_eq_true rfl) | (focus ((try simp only [Int.reduceToNat, Int.reduceTDiv, Int.reduceTMod, minL, maxL, pickB, zHB, zSH, InK, Path.imp, List.length_replicate, List.length_set, List.length_append, List.length_cons, List.length_nil] at *); omega)) | (refine app_le rfl ?_; omega))); done)); (conv => whnf))
 | ((with_reducible refine And.intro (Side.out ?_) ?_); rotate_left; (conv => whnf))
 | ((first | refine retF1 ?_ | refine retF2 ?_) <;> (conv => whnf) <;> repeat' (first
 | exact trivial
 | (with_reducible rfl)
 | ((with_reducible refine And.intro ?_ ?_) <;> conv => whnf)
 | omega
 | rfl
 | (refine congrArg (SV.arr _) ?_)
 | (refine congrArg (Value.int _) ?_)
 | (refine congrArg Value.bool ?_)))); all_goals (try unfold Side)
  all_goals try (repeat' (first | (with_reducible rfl) | (with_reducible refine And.intro ?_ ?_) | omega | rfl | exact Or.inl rfl | exact Or.inr rfl | exact of_decide_eq_true rfl | exact Path.imp_of (of_decide_eq_true rfl) | (focus ((try simp only [Int.reduceToNat, Int.reduceTDiv, Int.reduceTMod, minL, maxL, pickB, zHB, zSH, InK, Path.imp, List.length_replicate, List.length_set, List.length_append, List.length_cons, List.length_nil] at *); omega)) | (refine app_le rfl ?_; omega)))
theorem firstT_cut {P : Int} {l : List Jb} {os : List Od} {e : Int} (he : okE l e) : firstT P (cutT l e) os = (atE P l os e).getD [] := by
  rw [atE_ok he]; unfold firstT; rw [cut_len]
theorem atE_ne {P : Int} {l : List Jb} {os : List Od} {e : Int} (h : VS P l os) (he : 0 ≤ e) {r : List Int} (hr : atE P l os e = some r) : r ≠ [] := fun hn => by
  have := atE_spec (P := P) (e := e) h.pre he
  rw [hr] at this
  have h1 := this.1.len
  have := h.ln
  rw [hn] at h1
  simp at h1
  omega
set_option maxHeartbeats 8000000 in
theorem Short_at {P : Int} {l : List Jb} {os : List Od} (h : VS P l os) : FnAt Try.prog true 20 [.agg [I64 P, .arr JT l, .arr OT os]]
    (.tup [.st true (.narr (.int .i64) (shT P l os : List Int)), .lit (.int .i64 (shE P l os)), .lit (.int .i64 (if shT P l os = [] then 5 else 0))]) [] := by
  have hv := valid_at (P := P) (l := l) (os := os) (by have := h.ln; omega) (by have := h.lo; omega)
  rw [validB_yes h] at hv
  have hln := h.ln
  have hcl := clone_at (l := l) hln.1 (by omega)
  have hrg := fun m (hm : m < l.length) => h.pre.rg m hm
  have hhit : ∀ k r, k < 24 → shortK P l os k = none → atE P l os ((k + 1 : Nat) : Int) = some r → r ≠ [] ∧ r.isEmpty = false ∧ shT P l os = r ∧ shE P l os = (k : Int) + 1 ∧ (if shT P l os = [] then (5 : Int) else 0) = 0 := fun k r hk h0 h1 => by
    have h2 := shortK_hit h0 h1 hk
    have h3 := atE_ne h (by omega) h1
    have h4 : shT P l os = r := by unfold shT; rw [h2]
    refine ⟨h3, ne_isEmpty h3, h4, by unfold shE; rw [h2]; rfl, by rw [h4, if_neg h3]⟩
  have hmiss : shortK P l os 24 = none → shT P l os = [] ∧ shE P l os = 0 ∧ (if shT P l os = [] then (5 : Int) else 0) = 5 := fun h0 => by
    have h4 : shT P l os = [] := by unfold shT; rw [h0]
    exact ⟨h4, by unfold shE; rw [h0], by rw [if_pos h4]⟩
  obtain ⟨R, hR⟩ : ∃ R, R = shT P l os := ⟨_, rfl⟩
  obtain ⟨E, hE⟩ : ∃ E, E = shE P l os := ⟨_, rfl⟩
  obtain ⟨X, hX⟩ : ∃ X : Int, X = if shT P l os = [] then 5 else 0 := ⟨_, rfl⟩
  rw [← hX, ← hR, ← hE] at hhit hmiss
  rw [← hX, ← hR, ← hE]
  clear hX hR hE
  have hll : @List.length JT.T l = l.length := rfl
  have hkl : ∀ (e : Int) i, @List.length JT.T (cutK l e i) = l.length := fun e i => cutK_len
  refine FnAt.of_body tys_ok Try.func20 (by rfl) rfl Try.ntmps20 (by rw [Try.results20]) (by simp) ?_
  
  repeat' (first
 | refine W.seq ?_
 | refine W.block ?_
 | (refine W.region tys_ok [] ?_; conv => whnf)
 | (refine W.drawAll tys_ok [] mixed rfl ?_; conv => whnf)
 | (refine W.ret ?_; conv => whnf)
 | (refine W.skip ?_; conv => whnf)
 | (refine W.exit ?_; conv => whnf)
 | (refine call_at (al := false) (hv) rfl rfl rfl rfl ?_; conv => whnf)
 | (refine W.cond rfl (fun hb => ?_) (fun hb => ?_) <;> (try simp only [Int.reduceToNat, Int.reduceTDiv, Int.reduceTMod, minL, maxL, pickB, zHB, zSH] at hb) <;> (try (first | (cases hb; done) | exact absurd hb (by decide) | (exfalso; omega))))
 | ((with_reducible refine And.intro ?_ ?_); (focus ((repeat' (first | (with_reducible rfl) | (with_reducible refine And.intro ?_ ?_) | omega | rfl | exact Or.inl rfl | exact Or.inr rfl | exact of_decide_eq_true rfl | exact Path.imp_of (of_decide_eq_true rfl) | (focus ((try simp only [Int.reduceToNat, Int.reduceTDiv, Int.reduceTMod, minL, maxL, pickB, zHB, zSH, InK, Path.imp, List.length_replicate, List.length_set, List.length_append, List.length_cons, List.length_nil] at *); omega)) | (refine app_le rfl ?_; omega))); done)); (conv => whnf))
 | ((with_reducible refine And.intro (Side.out ?_) ?_); rotate_left; (conv => whnf))
 | ((first | refine retF1 ?_ | refine retF2 ?_) <;> (conv => whnf) <;> repeat' (first
 | exact trivial
 | (with_reducible rfl)
 | ((with_reducible refine And.intro ?_ ?_) <;> conv => whnf)
 | omega
 | rfl
 | (refine congrArg (SV.arr _) ?_)
 | (refine congrArg (Value.int _) ?_)
 | (refine congrArg Value.bool ?_)))); all_goals (try unfold Side)
  all_goals try (repeat' (first | (with_reducible rfl) | (with_reducible refine And.intro ?_ ?_) | omega | rfl | exact Or.inl rfl | exact Or.inr rfl | exact of_decide_eq_true rfl | exact Path.imp_of (of_decide_eq_true rfl) | (focus ((try simp only [Int.reduceToNat, Int.reduceTDiv, Int.reduceTMod, minL, maxL, pickB, zHB, zSH, InK, Path.imp, List.length_replicate, List.length_set, List.length_append, List.length_cons, List.length_nil] at *); omega)) | (refine app_le rfl ?_; omega)))
  refine W.loop (fun k : Nat => ⟨[(1, .st true (.sadr (.agg [I64 P, .arr JT l, .arr OT os]))), (5, .lit (.int .i64 (((k : Int) + 1))))], []⟩) (fun k => k ≤ 24 ∧ shortK P l os k = none) (fun k => 24 - k) (0) ?_ ?_
  · refine ⟨⟨Nat.zero_le _, rfl⟩, ?_⟩
    refine subF.ok ?_ <;> (conv => whnf) <;> repeat' (first
 | exact trivial
 | (with_reducible rfl)
 | ((with_reducible refine And.intro ?_ ?_) <;> conv => whnf)
 | omega
 | rfl
 | (refine congrArg (SV.arr _) ?_)
 | (refine congrArg (Value.int _) ?_)
 | (refine congrArg Value.bool ?_))
  · rintro k ⟨hk, hno⟩
    by_cases hkl2 : k < 24
    · repeat' (first
 | refine W.seq ?_
 | refine W.block ?_
 | (refine W.region tys_ok [] ?_; conv => whnf)
 | (refine W.drawAll tys_ok [] mixed rfl ?_; conv => whnf)
 | (refine W.ret ?_; conv => whnf)
 | (refine W.skip ?_; conv => whnf)
 | (refine W.exit ?_; conv => whnf)
 | (refine call_at (al := false) (hcl) rfl rfl rfl rfl ?_; conv => whnf)
 | (refine W.cond rfl (fun hb => ?_) (fun hb => ?_) <;> (try simp only [Int.reduceToNat, Int.reduceTDiv, Int.reduceTMod, minL, maxL, pickB, zHB, zSH] at hb) <;> (try (first | (cases hb; done) | exact absurd hb (by decide) | (exfalso; omega))))
 | ((with_reducible refine And.intro ?_ ?_); (focus ((repeat' (first | (with_reducible rfl) | (with_reducible refine And.intro ?_ ?_) | omega | rfl | exact Or.inl rfl | exact Or.inr rfl | exact of_decide_eq_true rfl | exact Path.imp_of (of_decide_eq_true rfl) | (focus ((try simp only [Int.reduceToNat, Int.reduceTDiv, Int.reduceTMod, minL, maxL, pickB, zHB, zSH, InK, Path.imp, List.length_replicate, List.length_set, List.length_append, List.length_cons, List.length_nil] at *); omega)) | (refine app_le rfl ?_; omega))); done)); (conv => whnf))
 | ((with_reducible refine And.intro (Side.out ?_) ?_); rotate_left; (conv => whnf))
 | ((first | refine retF1 ?_ | refine retF2 ?_) <;> (conv => whnf) <;> repeat' (first
 | exact trivial
 | (with_reducible rfl)
 | ((with_reducible refine And.intro ?_ ?_) <;> conv => whnf)
 | omega
 | rfl
 | (refine congrArg (SV.arr _) ?_)
 | (refine congrArg (Value.int _) ?_)
 | (refine congrArg Value.bool ?_)))); all_goals (try unfold Side)
      all_goals try (repeat' (first | (with_reducible rfl) | (with_reducible refine And.intro ?_ ?_) | omega | rfl | exact Or.inl rfl | exact Or.inr rfl | exact of_decide_eq_true rfl | exact Path.imp_of (of_decide_eq_true rfl) | (focus ((try simp only [Int.reduceToNat, Int.reduceTDiv, Int.reduceTMod, minL, maxL, pickB, zHB, zSH, InK, Path.imp, List.length_replicate, List.length_set, List.length_append, List.length_cons, List.length_nil] at *); omega)) | (refine app_le rfl ?_; omega)))
      refine W.loop (fun i : Nat => ⟨[(1, .st true (.sadr (.agg [I64 P, .arr JT l, .arr OT os]))), (5, .lit (.int .i64 (((k : Int) + 1)))), (6, .padr 7000 0), (7, .lit (.bool ((okK l ((k : Int) + 1) i)))), (25, .lit (.int .i64 ((l.length : Int)))), (26, .lit (.int .i64 (i)))], [(7000, .box [.lit (.int .i64 P), .own 22000, .st true (.arr OT os)]), (22000, .row 45 JT true (cutK l ((k : Int) + 1) i))]⟩) (fun i => i ≤ l.length) (fun i => l.length - i) (0) ?_ ?_
      · refine ⟨Nat.zero_le _, ?_⟩
        refine subF.ok ?_ <;> (conv => whnf) <;> repeat' (first
 | exact trivial
 | (with_reducible rfl)
 | ((with_reducible refine And.intro ?_ ?_) <;> conv => whnf)
 | omega
 | rfl
 | (refine congrArg (SV.arr _) ?_)
 | (refine congrArg (Value.int _) ?_)
 | (refine congrArg Value.bool ?_))
        all_goals first | exact okK_zero.symm | exact cutK_zero.symm
      · intro i hi
        have hc1 := hkl ((k : Int) + 1) i
        by_cases hil : i < l.length
        · have hr := hrg i hil
          have hg := cutK_get (e := (k : Int) + 1) hil
          have hs := cutK_step (e := (k : Int) + 1) hil
          have ho := okK_step (l := l) (e := (k : Int) + 1) (i := i)
          have hS : (cutK l ((k : Int) + 1) i).set ((i : Int)).toNat (((cutK l ((k : Int) + 1) i).getD ((i : Int)).toNat J0).1, min ((cutK l ((k : Int) + 1) i).getD ((i : Int)).toNat J0).2.1 ((k : Int) + 1), ((cutK l ((k : Int) + 1) i).getD ((i : Int)).toNat J0).2.2) = cutK l ((k : Int) + 1) (i + 1) := by
            rw [Int.toNat_natCast, hg, ← hs]; rfl
          have hlt : ∀ y : Jb, ((i : Int)).toNat < ((cutK l ((k : Int) + 1) i).set ((i : Int)).toNat y).length := fun y => by
            rw [List.length_set, cutK_len]; omega
          have hgn : (cutK l ((k : Int) + 1) (i + 1)).getD i J0 = cutJ ((k : Int) + 1) (l.getD i J0) := by
            rw [← hs, List.getD_eq_getElem?_getD, List.getElem?_set]; simp [cutK_len, hil]
          have hI : ∀ S : List Jb, S = cutK l ((k : Int) + 1) (i + 1) → InK .i64 ((S.getD ((i : Int)).toNat J0).1 + (S.getD ((i : Int)).toNat J0).2.2.1) := fun S hSe => by
            rw [hSe, Int.toNat_natCast, hgn]
            unfold jf jt jl jp at hr
            simp only [InK, cutJ]; omega
          have hPk : ∀ S : List Jb, S = cutK l ((k : Int) + 1) (i + 1) → pickB (okK l ((k : Int) + 1) i) (Operand.tmp 57) (Operand.const (Value.bool false)) (decide ((S.getD ((i : Int)).toNat J0).1 + (S.getD ((i : Int)).toNat J0).2.2.1 ≤ (S.getD ((i : Int)).toNat J0).2.1)) false = okK l ((k : Int) + 1) (i + 1) := fun S hSe => by
            rw [hSe, Int.toNat_natCast, hgn, ho]
            cases okK l ((k : Int) + 1) i <;> rfl
          repeat' (first
 | refine W.seq ?_
 | refine W.block ?_
 | (refine W.drawPhTo (id := 14) tys_ok [] mixed [0, 1, 2, 6, 10, 18, 2, 66, 130, 258, 546, 2, 2050, 4098, 8194, 17410, 32770, 131071] [([0, 1, 2, 3, 4, 6, 7, 8, 11, 12, 13], 4, 32767), ([15, 16, 17], 0, 262143)] ⟨[(1, .st true (.sadr (.agg [I64 P, .arr JT l, .arr OT os]))), (5, .lit (.int .i64 (((k : Int) + 1)))), (6, .padr 7000 0), (7, .lit (.bool ((okK l ((k : Int) + 1) (i + 1))))), (25, .lit (.int .i64 ((l.length : Int)))), (26, .lit (.int .i64 (i)))], [(7000, .box [.lit (.int .i64 P), .own 22000, .st true (.arr OT os)]), (22000, .row 45 JT true (cutK l ((k : Int) + 1) (i + 1)))]⟩ (by decide +kernel) ?_ ?_ <;> (conv => whnf))
 | (refine W.region tys_ok [] ?_; conv => whnf)
 | (refine W.drawAll tys_ok [] mixed rfl ?_; conv => whnf)
 | (refine W.ret ?_; conv => whnf)
 | (refine W.skip ?_; conv => whnf)
 | (refine W.exit ?_; conv => whnf)
 | (refine Both.mk ?_ ?_ <;> (conv => whnf))
 | (refine W.cond rfl (fun hb => ?_) (fun hb => ?_) <;> (try simp only [Int.reduceToNat, Int.reduceTDiv, Int.reduceTMod, minL, maxL, pickB, zHB, zSH] at hb) <;> (try (first | (cases hb; done) | exact absurd hb (by decide) | (exfalso; omega))))
 | ((with_reducible refine And.intro ?_ ?_); (focus ((repeat' (first | (with_reducible rfl) | (with_reducible refine And.intro ?_ ?_) | omega | rfl | exact Or.inl rfl | exact Or.inr rfl | exact of_decide_eq_true rfl | exact Path.imp_of (of_decide_eq_true rfl) | (focus ((try simp only [Int.reduceToNat, Int.reduceTDiv, Int.reduceTMod, minL, maxL, pickB, zHB, zSH, InK, Path.imp, List.length_replicate, List.length_set, List.length_append, List.length_cons, List.length_nil] at *); omega)) | (refine app_le rfl ?_; omega))); done)); (conv => whnf))
 | ((with_reducible refine And.intro (Side.out ?_) ?_); rotate_left; (conv => whnf))
 | ((first | refine retF1 ?_ | refine retF2 ?_ | refine subF.leaf ?_ | refine subF.side ?_) <;> (conv => whnf) <;> repeat' (first
 | exact trivial
 | (with_reducible rfl)
 | ((with_reducible refine And.intro ?_ ?_) <;> conv => whnf)
 | omega
 | rfl
 | (refine congrArg (SV.arr _) ?_)
 | (refine congrArg (Value.int _) ?_)
 | (refine congrArg Value.bool ?_)))); all_goals (try unfold Side)
          all_goals try (repeat' (first | (with_reducible rfl) | (with_reducible refine And.intro ?_ ?_) | omega | rfl | exact Or.inl rfl | exact Or.inr rfl | exact of_decide_eq_true rfl | exact Path.imp_of (of_decide_eq_true rfl) | (focus ((try simp only [Int.reduceToNat, Int.reduceTDiv, Int.reduceTMod, minL, maxL, pickB, zHB, zSH, InK, Path.imp, List.length_replicate, List.length_set, List.length_append, List.length_cons, List.length_nil] at *); omega)) | (refine app_le rfl ?_; omega)))
          all_goals try (first | exact hS | exact Path.imp_of (hlt _) | exact Path.imp_of (hI _ hS) | exact hPk _ hS)
          refine ⟨i + 1, ⟨by omega, by omega⟩, ?_⟩
          refine subF.ok ?_ <;> (conv => whnf) <;> repeat' (first
 | exact trivial
 | (with_reducible rfl)
 | ((with_reducible refine And.intro ?_ ?_) <;> conv => whnf)
 | omega
 | rfl
 | (refine congrArg (SV.arr _) ?_)
 | (refine congrArg (Value.int _) ?_)
 | (refine congrArg Value.bool ?_))
        · have hie : l.length = i := by omega
          subst hie
          have hce := cutK_end (l := l) (e := (k : Int) + 1)
          have hcast : ((k + 1 : Nat) : Int) = (k : Int) + 1 := by omega
          by_cases hok : okE l ((k : Int) + 1)
          · have hokb : okK l ((k : Int) + 1) l.length = true := okK_end.2 hok
            have hfa := first_at (cut_vs h hok)
            rw [firstT_cut hok] at hfa
            have hh := fun r => hhit k r hkl2 hno
            have hm := shortK_miss hno
            rw [hcast] at hh hm
            rw [hokb]
            cases hat : atE P l os ((k : Int) + 1) with
            | none =>
              rw [hat] at hfa
              have hfb : FnAt Try.prog true 39 [.agg [I64 P, .arr JT (cutT l ((k : Int) + 1)), .arr OT os]] (.st true (.narr (.int .i64) ([] : List Int))) [] := hfa
              repeat' (first
 | refine W.seq ?_
 | refine W.block ?_
 | (refine W.resub (x := Code.region 17 _ _) (Γ' := ⟨[(1, .st true (.sadr (.agg [I64 P, .arr JT l, .arr OT os]))), (5, .lit (.int .i64 (((k : Int) + 1)))), (6, .st true (.sadr (.agg [I64 P, .arr JT (cutT l ((k : Int) + 1)), .arr OT os])))], []⟩) ?_ (W.region tys_ok [] ?_); rotate_left; (conv => whnf))
 | (refine W.region tys_ok [] ?_; conv => whnf)
 | (refine W.drawAll tys_ok [] mixed rfl ?_; conv => whnf)
 | (refine W.ret ?_; conv => whnf)
 | (refine W.skip ?_; conv => whnf)
 | (refine W.exit ?_; conv => whnf)
 | (refine call_at (al := true) (hfb) rfl rfl rfl rfl ?_; conv => whnf)
 | (refine W.cond rfl (fun hb => ?_) (fun hb => ?_) <;> (try simp only [Int.reduceToNat, Int.reduceTDiv, Int.reduceTMod, minL, maxL, pickB, zHB, zSH] at hb) <;> (try (first | (cases hb; done) | exact absurd hb (by decide) | (exfalso; omega))))
 | ((with_reducible refine And.intro ?_ ?_); (focus ((repeat' (first | (with_reducible rfl) | (with_reducible refine And.intro ?_ ?_) | omega | rfl | exact Or.inl rfl | exact Or.inr rfl | exact of_decide_eq_true rfl | exact Path.imp_of (of_decide_eq_true rfl) | (focus ((try simp only [Int.reduceToNat, Int.reduceTDiv, Int.reduceTMod, minL, maxL, pickB, zHB, zSH, InK, Path.imp, List.length_replicate, List.length_set, List.length_append, List.length_cons, List.length_nil] at *); omega)) | (refine app_le rfl ?_; omega))); done)); (conv => whnf))
 | ((with_reducible refine And.intro (Side.out ?_) ?_); rotate_left; (conv => whnf))
 | ((first | refine retF1 ?_ | refine retF2 ?_) <;> (conv => whnf) <;> repeat' (first
 | exact trivial
 | (with_reducible rfl)
 | ((with_reducible refine And.intro ?_ ?_) <;> conv => whnf)
 | omega
 | rfl
 | (refine congrArg (SV.arr _) ?_)
 | (refine congrArg (Value.int _) ?_)
 | (refine congrArg Value.bool ?_)))); all_goals (try unfold Side)
              all_goals try (repeat' (first | (with_reducible rfl) | (with_reducible refine And.intro ?_ ?_) | omega | rfl | exact Or.inl rfl | exact Or.inr rfl | exact of_decide_eq_true rfl | exact Path.imp_of (of_decide_eq_true rfl) | (focus ((try simp only [Int.reduceToNat, Int.reduceTDiv, Int.reduceTMod, minL, maxL, pickB, zHB, zSH, InK, Path.imp, List.length_replicate, List.length_set, List.length_append, List.length_cons, List.length_nil] at *); omega)) | (refine app_le rfl ?_; omega)))
              · refine ⟨k + 1, ⟨⟨by omega, hm hat⟩, by omega⟩, ?_⟩
                refine subF.ok ?_ <;> (conv => whnf) <;> repeat' (first
 | exact trivial
 | (with_reducible rfl)
 | ((with_reducible refine And.intro ?_ ?_) <;> conv => whnf)
 | omega
 | rfl
 | (refine congrArg (SV.arr _) ?_)
 | (refine congrArg (Value.int _) ?_)
 | (refine congrArg Value.bool ?_))
              · refine subF.ok ?_ <;> (conv => whnf) <;> repeat' (first
 | exact trivial
 | (with_reducible rfl)
 | ((with_reducible refine And.intro ?_ ?_) <;> conv => whnf)
 | omega
 | rfl
 | (refine congrArg (SV.arr _) ?_)
 | (refine congrArg (Value.int _) ?_)
 | (refine congrArg Value.bool ?_))
                all_goals exact hce
            | some r =>
              rw [hat] at hfa
              have hfb : FnAt Try.prog true 39 [.agg [I64 P, .arr JT (cutT l ((k : Int) + 1)), .arr OT os]] (.st true (.narr (.int .i64) (r : List Int))) [] := hfa
              obtain ⟨h1, h2, h3, h4, h5⟩ := hh r hat
              repeat' (first
 | refine W.seq ?_
 | refine W.block ?_
 | (refine W.resub (x := Code.region 17 _ _) (Γ' := ⟨[(1, .st true (.sadr (.agg [I64 P, .arr JT l, .arr OT os]))), (5, .lit (.int .i64 (((k : Int) + 1)))), (6, .st true (.sadr (.agg [I64 P, .arr JT (cutT l ((k : Int) + 1)), .arr OT os])))], []⟩) ?_ (W.region tys_ok [] ?_); rotate_left; (conv => whnf))
 | (refine W.region tys_ok [] ?_; conv => whnf)
 | (refine W.drawAll tys_ok [] mixed rfl ?_; conv => whnf)
 | (refine W.ret ?_; conv => whnf)
 | (refine W.skip ?_; conv => whnf)
 | (refine W.exit ?_; conv => whnf)
 | (refine call_at (al := true) (hfb) rfl rfl rfl rfl ?_; conv => whnf)
 | (refine W.cond rfl (fun hb => ?_) (fun hb => ?_) <;> (try simp only [Int.reduceToNat, Int.reduceTDiv, Int.reduceTMod, minL, maxL, pickB, zHB, zSH] at hb) <;> (try (first | (cases hb; done) | exact absurd hb (by decide) | (exfalso; omega) | (exact Bool.noConfusion (hb.symm.trans h2)))))
 | ((with_reducible refine And.intro ?_ ?_); (focus ((repeat' (first | (with_reducible rfl) | (with_reducible refine And.intro ?_ ?_) | omega | rfl | exact Or.inl rfl | exact Or.inr rfl | exact of_decide_eq_true rfl | exact Path.imp_of (of_decide_eq_true rfl) | (focus ((try simp only [Int.reduceToNat, Int.reduceTDiv, Int.reduceTMod, minL, maxL, pickB, zHB, zSH, InK, Path.imp, List.length_replicate, List.length_set, List.length_append, List.length_cons, List.length_nil] at *); omega)) | (refine app_le rfl ?_; omega))); done)); (conv => whnf))
 | ((with_reducible refine And.intro (Side.out ?_) ?_); rotate_left; (conv => whnf))
 | ((first | refine retF1 ?_ | refine retF2 ?_) <;> (conv => whnf) <;> repeat' (first
 | exact trivial
 | (with_reducible rfl)
 | ((with_reducible refine And.intro ?_ ?_) <;> conv => whnf)
 | omega
 | rfl
 | (refine congrArg (SV.arr _) ?_)
 | (refine congrArg (Value.int _) ?_)
 | (refine congrArg Value.bool ?_)))); all_goals (try unfold Side)
              all_goals try (repeat' (first | (with_reducible rfl) | (with_reducible refine And.intro ?_ ?_) | omega | rfl | exact Or.inl rfl | exact Or.inr rfl | exact of_decide_eq_true rfl | exact Path.imp_of (of_decide_eq_true rfl) | (focus ((try simp only [Int.reduceToNat, Int.reduceTDiv, Int.reduceTMod, minL, maxL, pickB, zHB, zSH, InK, Path.imp, List.length_replicate, List.length_set, List.length_append, List.length_cons, List.length_nil] at *); omega)) | (refine app_le rfl ?_; omega)))
              all_goals try (first | exact congrArg (SV.narr _) h3.symm | exact h3.symm | exact h4.symm | exact h5.symm)
              · refine subF.ok ?_ <;> (conv => whnf) <;> repeat' (first
 | exact trivial
 | (with_reducible rfl)
 | ((with_reducible refine And.intro ?_ ?_) <;> conv => whnf)
 | omega
 | rfl
 | (refine congrArg (SV.arr _) ?_)
 | (refine congrArg (Value.int _) ?_)
 | (refine congrArg Value.bool ?_))
                all_goals exact hce
          · have hokb : okK l ((k : Int) + 1) l.length = false := by
              cases e : okK l ((k : Int) + 1) l.length with
              | false => rfl
              | true => exact absurd (okK_end.1 e) hok
            have hm := shortK_miss hno (by rw [hcast]; exact atE_no hok)
            rw [hokb]
            repeat' (first
 | refine W.seq ?_
 | refine W.block ?_
 | (refine W.region tys_ok [] ?_; conv => whnf)
 | (refine W.drawAll tys_ok [] mixed rfl ?_; conv => whnf)
 | (refine W.ret ?_; conv => whnf)
 | (refine W.skip ?_; conv => whnf)
 | (refine W.exit ?_; conv => whnf)
 | (refine W.cond rfl (fun hb => ?_) (fun hb => ?_) <;> (try simp only [Int.reduceToNat, Int.reduceTDiv, Int.reduceTMod, minL, maxL, pickB, zHB, zSH] at hb) <;> (try (first | (cases hb; done) | exact absurd hb (by decide) | (exfalso; omega))))
 | ((with_reducible refine And.intro ?_ ?_); (focus ((repeat' (first | (with_reducible rfl) | (with_reducible refine And.intro ?_ ?_) | omega | rfl | exact Or.inl rfl | exact Or.inr rfl | exact of_decide_eq_true rfl | exact Path.imp_of (of_decide_eq_true rfl) | (focus ((try simp only [Int.reduceToNat, Int.reduceTDiv, Int.reduceTMod, minL, maxL, pickB, zHB, zSH, InK, Path.imp, List.length_replicate, List.length_set, List.length_append, List.length_cons, List.length_nil] at *); omega)) | (refine app_le rfl ?_; omega))); done)); (conv => whnf))
 | ((with_reducible refine And.intro (Side.out ?_) ?_); rotate_left; (conv => whnf))
 | ((first | refine retF1 ?_ | refine retF2 ?_) <;> (conv => whnf) <;> repeat' (first
 | exact trivial
 | (with_reducible rfl)
 | ((with_reducible refine And.intro ?_ ?_) <;> conv => whnf)
 | omega
 | rfl
 | (refine congrArg (SV.arr _) ?_)
 | (refine congrArg (Value.int _) ?_)
 | (refine congrArg Value.bool ?_)))); all_goals (try unfold Side)
            all_goals try (repeat' (first | (with_reducible rfl) | (with_reducible refine And.intro ?_ ?_) | omega | rfl | exact Or.inl rfl | exact Or.inr rfl | exact of_decide_eq_true rfl | exact Path.imp_of (of_decide_eq_true rfl) | (focus ((try simp only [Int.reduceToNat, Int.reduceTDiv, Int.reduceTMod, minL, maxL, pickB, zHB, zSH, InK, Path.imp, List.length_replicate, List.length_set, List.length_append, List.length_cons, List.length_nil] at *); omega)) | (refine app_le rfl ?_; omega)))
            refine ⟨k + 1, ⟨⟨by omega, hm⟩, by omega⟩, ?_⟩
            refine subF.ok ?_ <;> (conv => whnf) <;> repeat' (first
 | exact trivial
 | (with_reducible rfl)
 | ((with_reducible refine And.intro ?_ ?_) <;> conv => whnf)
 | omega
 | rfl
 | (refine congrArg (SV.arr _) ?_)
 | (refine congrArg (Value.int _) ?_)
 | (refine congrArg Value.bool ?_))
    · have hke : k = 24 := by omega
      subst hke
      obtain ⟨e1, e2, e3⟩ := hmiss hno
      repeat' (first
 | refine W.seq ?_
 | refine W.block ?_
 | (refine W.region tys_ok [] ?_; conv => whnf)
 | (refine W.drawAll tys_ok [] mixed rfl ?_; conv => whnf)
 | (refine W.ret ?_; conv => whnf)
 | (refine W.skip ?_; conv => whnf)
 | (refine W.exit ?_; conv => whnf)
 | (refine W.cond rfl (fun hb => ?_) (fun hb => ?_) <;> (try simp only [Int.reduceToNat, Int.reduceTDiv, Int.reduceTMod, minL, maxL, pickB, zHB, zSH] at hb) <;> (try (first | (cases hb; done) | exact absurd hb (by decide) | (exfalso; omega))))
 | ((with_reducible refine And.intro ?_ ?_); (focus ((repeat' (first | (with_reducible rfl) | (with_reducible refine And.intro ?_ ?_) | omega | rfl | exact Or.inl rfl | exact Or.inr rfl | exact of_decide_eq_true rfl | exact Path.imp_of (of_decide_eq_true rfl) | (focus ((try simp only [Int.reduceToNat, Int.reduceTDiv, Int.reduceTMod, minL, maxL, pickB, zHB, zSH, InK, Path.imp, List.length_replicate, List.length_set, List.length_append, List.length_cons, List.length_nil] at *); omega)) | (refine app_le rfl ?_; omega))); done)); (conv => whnf))
 | ((with_reducible refine And.intro (Side.out ?_) ?_); rotate_left; (conv => whnf))
 | ((first | refine retF1 ?_ | refine retF2 ?_) <;> (conv => whnf) <;> repeat' (first
 | exact trivial
 | (with_reducible rfl)
 | ((with_reducible refine And.intro ?_ ?_) <;> conv => whnf)
 | omega
 | rfl
 | (refine congrArg (SV.arr _) ?_)
 | (refine congrArg (Value.int _) ?_)
 | (refine congrArg Value.bool ?_)))); all_goals (try unfold Side)
      all_goals try (repeat' (first | (with_reducible rfl) | (with_reducible refine And.intro ?_ ?_) | omega | rfl | exact Or.inl rfl | exact Or.inr rfl | exact of_decide_eq_true rfl | exact Path.imp_of (of_decide_eq_true rfl) | (focus ((try simp only [Int.reduceToNat, Int.reduceTDiv, Int.reduceTMod, minL, maxL, pickB, zHB, zSH, InK, Path.imp, List.length_replicate, List.length_set, List.length_append, List.length_cons, List.length_nil] at *); omega)) | (refine app_le rfl ?_; omega)))
      all_goals first | exact e1 | exact e1.symm | exact e2.symm | exact e3.symm
end Go.Proofs.Ytmfholchenihaaa
namespace Go.Proofs.Ytmfholchenihaaa
open Go Go.Vc Go.Sh
set_option linter.unusedVariables false
set_option linter.unusedSimpArgs false
theorem refGrow_at {P : Int} {l0 : List Jb} {os : List Od} (hP : 0 ≤ P ∧ P ≤ 100) : ∀ {k : Nat} {l : List Jb} {N : List Nd}, Pre l os 0 → waysT l ≤ k → Bd l → Ords os l.length → 1 ≤ l.length → N.length ≤ 20000 →
    FnM Try.prog 41 [.padr 1000000000 0, .st false (.arr JT l)] [(1000000000, .box [.lit (.int .i64 P), .st true (.arr JT l0), .st true (.arr OT os), .own 5]), (5, .row 57 NT true N)] (.tup [.lit (.int .i64 (if (growR P os k l N).1 = true then (N.length : Int) else 0)), .lit (.bool (growR P os k l N).1)]) [(1000000000, .box [.lit (.int .i64 P), .st true (.arr JT l0), .st true (.arr OT os), .own 5]), (5, .row 57 NT true (growR P os k l N).2)]
  | 0, l, N, hp, hk, _, _, _, _ => by have := ways_pos hp; omega
  | k + 1, l, N, hp, hk, hbd, ho, h1, hN => by
    by_cases hlong : 20000 ≤ N.length
    · rw [gr_long hlong]
      exact growA_at hP hbd ho h1 hN hlong
    · cases hi : lateI os l with
      | some i =>
        rw [gr_late hlong hi]
        exact growB_at hP hbd ho h1 hN hlong (by unfold ixT; rw [hi])
      | none =>
        cases hf : overF P l with
        | some ab =>
          obtain ⟨a, b⟩ := ab
          rw [gr_over hlong hi hf]
          exact growC_at hP hbd ho h1 hN hlong hi hf
        | none =>
          cases hj : pickK l l.length with
          | none =>
            rw [gr_none hlong hi hf hj]
            exact growD_at hP hbd ho h1 hN hlong hi hf (by unfold pkI; rw [hj])
          | some j =>
            obtain ⟨hjl, hfr⟩ := pickK_some hj
            have hpk : pkI l l.length = (j : Int) := by unfold pkI; rw [hj]
            have hw := ways_part hjl hfr
            have pL := part_L hp hjl hfr
            have pR := part_R hp hjl hfr
            have wL := ways_pos pL
            have wR := ways_pos pR
            have hmid := mid_rg hfr
            obtain ⟨bL, bR, lL, lR⟩ := part_bd hbd hjl hmid
            have hN1 : (N ++ [N0]).length ≤ 20000 := by simp; omega
            have hlen1 := growR_len (P := P) (os := os) (k := k) (l := partL l j (midT l j)) hN1
            have cL := refGrow_at (l0 := l0) hP (k := k) (l := partL l j (midT l j)) (N := N ++ [N0]) pL (by omega) bL (by rw [lL]; exact ho) (by rw [lL]; exact h1) hN1
            have cR := refGrow_at (l0 := l0) hP (k := k) (l := partR l j (midT l j)) (N := (growR P os k (partL l j (midT l j)) (N ++ [N0])).2) pR (by omega) bR (by rw [lR]; exact ho) (by rw [lR]; exact h1) hlen1.2
            have hlen2 := growR_len (P := P) (os := os) (k := k) (l := partR l j (midT l j)) hlen1.2
            rw [gr_pick hlong hi hf hj]
            obtain ⟨r1, hr1⟩ : ∃ r1, r1 = growR P os k (partL l j (midT l j)) (N ++ [N0]) := ⟨_, rfl⟩
            rw [← hr1] at cL cR hlen1 hlen2 ⊢
            obtain ⟨b1, N2⟩ := r1
            obtain ⟨r2, hr2⟩ : ∃ r2, r2 = growR P os k (partR l j (midT l j)) (b1, N2).2 := ⟨_, rfl⟩
            rw [← hr2] at cR hlen2 ⊢
            obtain ⟨b2, N3⟩ := r2
            dsimp only at cL cR hlen1 hlen2 ⊢
            simp only [List.length_append, List.length_cons, List.length_nil] at hlen1
            cases b1 with
            | false => exact growE_at (N3 := N3) hP hbd ho h1 hN hlong hi hf hjl hfr hpk rfl rfl cL
            | true =>
              have e1 : (((N ++ [N0]).length : Nat) : Int) = (N.length : Int) + 1 := by simp
              rw [if_pos rfl, e1] at cL
              cases b2 with
              | false => exact growF_at hP hbd ho h1 hN hlong hi hf hjl hfr hpk rfl rfl hlen1.2 cL cR
              | true =>
                rw [if_pos rfl] at cR
                exact growG_at hP hbd ho h1 hN hlong hi hf hjl hfr hpk rfl rfl hlen1.2 hlen2.2 (by omega) cL cR
def refT (P : Int) (l : List Jb) (os : List Od) : Bool × List Nd := growR P os (waysT l) l []
theorem Refuse_no {P : Int} {l : List Jb} {os : List Od} (hl : l.length ≤ 1000) (ho : os.length ≤ 1000) (h : ¬ VS P l os) : FnAt Try.prog true 24 [.agg [I64 P, .arr JT l, .arr OT os]] (.tup [.st true (.arr NT []), .lit (.int .i64 1)]) [] := by
  have hv := valid_at (P := P) hl ho
  rw [validB_no h] at hv
  refine FnAt.of_body tys_ok Try.func24 (by rfl) rfl Try.ntmps24 (by rw [Try.results24]) (by simp) ?_
  
  repeat' (first
 | refine W.seq ?_
 | refine W.block ?_
 | (refine W.region tys_ok [] ?_; conv => whnf)
 | (refine W.drawAll tys_ok [] mixed rfl ?_; conv => whnf)
 | (refine W.ret ?_; conv => whnf)
 | (refine W.skip ?_; conv => whnf)
 | (refine W.exit ?_; conv => whnf)
 | (refine call_at (al := false) (hv) rfl rfl rfl rfl ?_; conv => whnf)
 | (refine W.cond rfl (fun hb => ?_) (fun hb => ?_) <;> (try simp only [Int.reduceToNat, Int.reduceTDiv, Int.reduceTMod, minL, maxL, pickB, zHB, zSH] at hb) <;> (try (first | (cases hb; done) | exact absurd hb (by decide) | (exfalso; omega))))
 | ((with_reducible refine And.intro ?_ ?_); (focus ((repeat' (first | (with_reducible rfl) | (with_reducible refine And.intro ?_ ?_) | omega | rfl | exact Or.inl rfl | exact Or.inr rfl | exact of_decide_eq_true rfl | exact Path.imp_of (of_decide_eq_true rfl) | (focus ((try simp only [Int.reduceToNat, Int.reduceTDiv, Int.reduceTMod, minL, maxL, pickB, zHB, zSH, InK, Path.imp, List.length_replicate, List.length_set, List.length_append, List.length_cons, List.length_nil] at *); omega)) | (refine app_le rfl ?_; omega))); done)); (conv => whnf))
 | ((with_reducible refine And.intro (Side.out ?_) ?_); rotate_left; (conv => whnf))
 | ((first | refine retF1 ?_ | refine retF2 ?_) <;> (conv => whnf) <;> repeat' (first
 | exact trivial
 | (with_reducible rfl)
 | ((with_reducible refine And.intro ?_ ?_) <;> conv => whnf)
 | omega
 | rfl
 | (refine congrArg (SV.arr _) ?_)
 | (refine congrArg (Value.int _) ?_)
 | (refine congrArg Value.bool ?_)))); all_goals (try unfold Side)
  all_goals try (repeat' (first | (with_reducible rfl) | (with_reducible refine And.intro ?_ ?_) | omega | rfl | exact Or.inl rfl | exact Or.inr rfl | exact of_decide_eq_true rfl | exact Path.imp_of (of_decide_eq_true rfl) | (focus ((try simp only [Int.reduceToNat, Int.reduceTDiv, Int.reduceTMod, minL, maxL, pickB, zHB, zSH, InK, Path.imp, List.length_replicate, List.length_set, List.length_append, List.length_cons, List.length_nil] at *); omega)) | (refine app_le rfl ?_; omega)))
theorem Refuse_none {P : Int} {l : List Jb} {os : List Od} (h : VS P l os) (hf : firstT P l os ≠ []) : FnAt Try.prog true 24 [.agg [I64 P, .arr JT l, .arr OT os]] (.tup [.st true (.arr NT []), .lit (.int .i64 5)]) [] := by
  have hv := valid_at (P := P) (l := l) (os := os) (by have := h.ln; omega) (by have := h.lo; omega)
  rw [validB_yes h] at hv
  have hr := first_at h
  have he := ne_isEmpty hf
  refine FnAt.of_body tys_ok Try.func24 (by rfl) rfl Try.ntmps24 (by rw [Try.results24]) (by simp) ?_
  
  repeat' (first
 | refine W.seq ?_
 | refine W.block ?_
 | (refine W.region tys_ok [] ?_; conv => whnf)
 | (refine W.drawAll tys_ok [] mixed rfl ?_; conv => whnf)
 | (refine W.ret ?_; conv => whnf)
 | (refine W.skip ?_; conv => whnf)
 | (refine W.exit ?_; conv => whnf)
 | (refine call_at (al := false) (hv) rfl rfl rfl rfl ?_; conv => whnf)
 | (refine call_at (al := true) (hr) rfl rfl rfl rfl ?_; conv => whnf)
 | (refine W.cond rfl (fun hb => ?_) (fun hb => ?_) <;> (try simp only [Int.reduceToNat, Int.reduceTDiv, Int.reduceTMod, minL, maxL, pickB, zHB, zSH] at hb) <;> (try (first | (cases hb; done) | exact absurd hb (by decide) | (exfalso; omega) | (exact Bool.noConfusion (hb.symm.trans he)))))
 | ((with_reducible refine And.intro ?_ ?_); (focus ((repeat' (first | (with_reducible rfl) | (with_reducible refine And.intro ?_ ?_) | omega | rfl | exact Or.inl rfl | exact Or.inr rfl | exact of_decide_eq_true rfl | exact Path.imp_of (of_decide_eq_true rfl) | (focus ((try simp only [Int.reduceToNat, Int.reduceTDiv, Int.reduceTMod, minL, maxL, pickB, zHB, zSH, InK, Path.imp, List.length_replicate, List.length_set, List.length_append, List.length_cons, List.length_nil] at *); omega)) | (refine app_le rfl ?_; omega))); done)); (conv => whnf))
 | ((with_reducible refine And.intro (Side.out ?_) ?_); rotate_left; (conv => whnf))
 | ((first | refine retF1 ?_ | refine retF2 ?_) <;> (conv => whnf) <;> repeat' (first
 | exact trivial
 | (with_reducible rfl)
 | ((with_reducible refine And.intro ?_ ?_) <;> conv => whnf)
 | omega
 | rfl
 | (refine congrArg (SV.arr _) ?_)
 | (refine congrArg (Value.int _) ?_)
 | (refine congrArg Value.bool ?_)))); all_goals (try unfold Side)
  all_goals try (repeat' (first | (with_reducible rfl) | (with_reducible refine And.intro ?_ ?_) | omega | rfl | exact Or.inl rfl | exact Or.inr rfl | exact of_decide_eq_true rfl | exact Path.imp_of (of_decide_eq_true rfl) | (focus ((try simp only [Int.reduceToNat, Int.reduceTDiv, Int.reduceTMod, minL, maxL, pickB, zHB, zSH, InK, Path.imp, List.length_replicate, List.length_set, List.length_append, List.length_cons, List.length_nil] at *); omega)) | (refine app_le rfl ?_; omega)))
set_option maxHeartbeats 4000000 in
theorem Refuse_full {P : Int} {l : List Jb} {os : List Od} (h : VS P l os) (hf : firstT P l os = []) (hg : (refT P l os).1 = false) : FnAt Try.prog true 24 [.agg [I64 P, .arr JT l, .arr OT os]] (.tup [.st true (.arr NT []), .lit (.int .i64 4)]) [] := by
  have hv := valid_at (P := P) (l := l) (os := os) (by have := h.ln; omega) (by have := h.lo; omega)
  rw [validB_yes h] at hv
  have hr := first_at h
  rw [hf] at hr
  have hc := refGrow_at (P := P) (l0 := l) (os := os) (k := waysT l) (l := l) (N := []) (by have := h.pw; omega) h.pre (Nat.le_refl _) (bd_of h) (ords_of h) h.ln.1 (by simp)
  have hg2 : (growR P os (waysT l) l []).1 = false := hg
  rw [hg2, if_neg (by decide)] at hc
  obtain ⟨M, hM⟩ : ∃ M, M = (growR P os (waysT l) l []).2 := ⟨_, rfl⟩
  rw [← hM] at hc
  refine FnAt.of_body tys_ok Try.func24 (by rfl) rfl Try.ntmps24 (by rw [Try.results24]) (by simp) ?_
  
  repeat' (first
 | refine W.seq ?_
 | refine W.block ?_
 | (refine W.regionM (id := 6) tys_ok [] [3] ?_; conv => whnf)
 | (refine W.region tys_ok [] ?_; conv => whnf)
 | (refine W.drawAll tys_ok [] mixed rfl ?_; conv => whnf)
 | (refine W.ret ?_; conv => whnf)
 | (refine W.skip ?_; conv => whnf)
 | (refine W.exit ?_; conv => whnf)
 | (refine call_at (al := false) (hv) rfl rfl rfl rfl ?_; conv => whnf)
 | (refine call_at (al := true) (hr) rfl rfl rfl rfl ?_; conv => whnf)
 | (refine callM_at (hc) ?_; conv => whnf)
 | (refine W.cond rfl (fun hb => ?_) (fun hb => ?_) <;> (try simp only [Int.reduceToNat, Int.reduceTDiv, Int.reduceTMod, minL, maxL, pickB, zHB, zSH] at hb) <;> (try (first | (cases hb; done) | exact absurd hb (by decide) | (exfalso; omega))))
 | (refine Or.inl (And.intro ?_ ?_); (focus (first | exact trivial | exact ⟨rfl, trivial⟩ | (refine ⟨?_, trivial⟩; dsimp only; simp only [Int.reduceToNat, Int.reduceTDiv, Int.reduceTMod, minL, maxL, pickB, zHB, zSH]; omega))); (conv => whnf))
 | (refine Or.inr (And.intro ?_ ?_); (focus (intro h; have h := h.1; dsimp only at h; first | (exact Bool.noConfusion h) | (simp only [Int.reduceToNat, Int.reduceTDiv, Int.reduceTMod, minL, maxL, pickB, zHB, zSH] at h; omega))); (conv => whnf))
 | ((with_reducible refine And.intro ?_ ?_); (focus ((repeat' (first | (with_reducible rfl) | (with_reducible refine And.intro ?_ ?_) | omega | rfl | exact Or.inl rfl | exact Or.inr rfl | exact of_decide_eq_true rfl | exact Path.imp_of (of_decide_eq_true rfl) | (focus ((try simp only [Int.reduceToNat, Int.reduceTDiv, Int.reduceTMod, minL, maxL, pickB, zHB, zSH, InK, Path.imp, List.length_replicate, List.length_set, List.length_append, List.length_cons, List.length_nil] at *); omega)) | (refine app_le rfl ?_; omega))); done)); (conv => whnf))
 | ((with_reducible refine And.intro (Side.out ?_) ?_); rotate_left; (conv => whnf))
 | ((first | refine retF1 ?_ | refine retF2 ?_) <;> (conv => whnf) <;> repeat' (first
 | exact trivial
 | (with_reducible rfl)
 | ((with_reducible refine And.intro ?_ ?_) <;> conv => whnf)
 | omega
 | rfl
 | (refine congrArg (SV.arr _) ?_)
 | (refine congrArg (Value.int _) ?_)
 | (refine congrArg Value.bool ?_)))); all_goals (try unfold Side)
  all_goals try (repeat' (first | (with_reducible rfl) | (with_reducible refine And.intro ?_ ?_) | omega | rfl | exact Or.inl rfl | exact Or.inr rfl | exact of_decide_eq_true rfl | exact Path.imp_of (of_decide_eq_true rfl) | (focus ((try simp only [Int.reduceToNat, Int.reduceTDiv, Int.reduceTMod, minL, maxL, pickB, zHB, zSH, InK, Path.imp, List.length_replicate, List.length_set, List.length_append, List.length_cons, List.length_nil] at *); omega)) | (refine app_le rfl ?_; omega)))
set_option maxHeartbeats 4000000 in
theorem Refuse_ok {P : Int} {l : List Jb} {os : List Od} (h : VS P l os) (hf : firstT P l os = []) (hg : (refT P l os).1 = true) : FnAt Try.prog true 24 [.agg [I64 P, .arr JT l, .arr OT os]] (.tup [.own 0, .lit (.int .i64 0)]) [(0, .row 57 NT true (refT P l os).2)] := by
  have hv := valid_at (P := P) (l := l) (os := os) (by have := h.ln; omega) (by have := h.lo; omega)
  rw [validB_yes h] at hv
  have hr := first_at h
  rw [hf] at hr
  have hc := refGrow_at (P := P) (l0 := l) (os := os) (k := waysT l) (l := l) (N := []) (by have := h.pw; omega) h.pre (Nat.le_refl _) (bd_of h) (ords_of h) h.ln.1 (by simp)
  have hg2 : (growR P os (waysT l) l []).1 = true := hg
  rw [hg2, if_pos rfl] at hc
  have hM : (refT P l os).2 = (growR P os (waysT l) l []).2 := rfl
  rw [← hM] at hc
  refine FnAt.of_body tys_ok Try.func24 (by rfl) rfl Try.ntmps24 (by rw [Try.results24]) (by simp) ?_
  
  repeat' (first
 | refine W.seq ?_
 | refine W.block ?_
 | (refine W.regionM (id := 6) tys_ok [] [3] ?_; conv => whnf)
 | (refine W.region tys_ok [] ?_; conv => whnf)
 | (refine W.drawAll tys_ok [] mixed rfl ?_; conv => whnf)
 | (refine W.ret ?_; conv => whnf)
 | (refine W.skip ?_; conv => whnf)
 | (refine W.exit ?_; conv => whnf)
 | (refine call_at (al := false) (hv) rfl rfl rfl rfl ?_; conv => whnf)
 | (refine call_at (al := true) (hr) rfl rfl rfl rfl ?_; conv => whnf)
 | (refine callM_at (hc) ?_; conv => whnf)
 | (refine W.cond rfl (fun hb => ?_) (fun hb => ?_) <;> (try simp only [Int.reduceToNat, Int.reduceTDiv, Int.reduceTMod, minL, maxL, pickB, zHB, zSH] at hb) <;> (try (first | (cases hb; done) | exact absurd hb (by decide) | (exfalso; omega))))
 | (refine Or.inl (And.intro ?_ ?_); (focus (first | exact trivial | exact ⟨rfl, trivial⟩ | (refine ⟨?_, trivial⟩; dsimp only; simp only [Int.reduceToNat, Int.reduceTDiv, Int.reduceTMod, minL, maxL, pickB, zHB, zSH]; omega))); (conv => whnf))
 | (refine Or.inr (And.intro ?_ ?_); (focus (intro h; have h := h.1; dsimp only at h; first | (exact Bool.noConfusion h) | (simp only [Int.reduceToNat, Int.reduceTDiv, Int.reduceTMod, minL, maxL, pickB, zHB, zSH] at h; omega))); (conv => whnf))
 | ((with_reducible refine And.intro ?_ ?_); (focus ((repeat' (first | (with_reducible rfl) | (with_reducible refine And.intro ?_ ?_) | omega | rfl | exact Or.inl rfl | exact Or.inr rfl | exact of_decide_eq_true rfl | exact Path.imp_of (of_decide_eq_true rfl) | (focus ((try simp only [Int.reduceToNat, Int.reduceTDiv, Int.reduceTMod, minL, maxL, pickB, zHB, zSH, InK, Path.imp, List.length_replicate, List.length_set, List.length_append, List.length_cons, List.length_nil] at *); omega)) | (refine app_le rfl ?_; omega))); done)); (conv => whnf))
 | ((with_reducible refine And.intro (Side.out ?_) ?_); rotate_left; (conv => whnf))
 | ((first | refine retF1 ?_ | refine retF2 ?_) <;> (conv => whnf) <;> repeat' (first
 | exact trivial
 | (with_reducible rfl)
 | ((with_reducible refine And.intro ?_ ?_) <;> conv => whnf)
 | omega
 | rfl
 | (refine congrArg (SV.arr _) ?_)
 | (refine congrArg (Value.int _) ?_)
 | (refine congrArg Value.bool ?_)))); all_goals (try unfold Side)
  all_goals try (repeat' (first | (with_reducible rfl) | (with_reducible refine And.intro ?_ ?_) | omega | rfl | exact Or.inl rfl | exact Or.inr rfl | exact of_decide_eq_true rfl | exact Path.imp_of (of_decide_eq_true rfl) | (focus ((try simp only [Int.reduceToNat, Int.reduceTDiv, Int.reduceTMod, minL, maxL, pickB, zHB, zSH, InK, Path.imp, List.length_replicate, List.length_set, List.length_append, List.length_cons, List.length_nil] at *); omega)) | (refine app_le rfl ?_; omega)))
end Go.Proofs.Ytmfholchenihaaa
namespace Go.Proofs.Ytmfholchenihaaa
open Go Go.Vc Go.Sh
set_option linter.unusedVariables false
set_option linter.unusedSimpArgs false
def lv1 : List Jb := [(0, 4, 2, 2, ()), (0, 4, 2, 2, ())]
def lv2 : List Jb := [(0, 2, 2, 1, ()), (0, 4, 2, 1, ())]
def lo2 : List Od := [(1, 0, ())]
theorem lv1_vs : VS 2 lv1 [] := by
  refine ⟨by decide, by decide, by decide, fun m hm => ?_, fun m hm => by simp at hm⟩
  match m, hm with
  | 0, _ => unfold JobOk lv1; decide
  | 1, _ => unfold JobOk lv1; decide
  | m + 2, hm => simp [lv1] at hm; omega
theorem lv2_vs : VS 1 lv2 lo2 := by
  refine ⟨by decide, by decide, by decide, fun m hm => ?_, fun m hm => ?_⟩
  · match m, hm with
    | 0, _ => unfold JobOk lv2; decide
    | 1, _ => unfold JobOk lv2; decide
    | m + 2, hm => simp [lv2] at hm; omega
  · match m, hm with
    | 0, _ => unfold OrdOk lo2 lv2; decide
    | m + 1, hm => simp [lo2] at hm
theorem lv1_first : firstT 2 lv1 [] = [0, 2] := by decide +kernel
theorem lv2_first : firstT 1 lv2 lo2 = [] := by decide +kernel
theorem lv2_ref : refT 1 lv2 lo2 = (true, [(3, 0, 0, 0, 0, 0, ())]) := by kernel_rfl
theorem lv2_proves : provesB 1 lv2 lo2 [(3, 0, 0, 0, 0, 0, ())] = true := by decide +kernel
theorem lv1_short : shortK 2 lv1 [] 24 = some (4, [0, 2]) := by
  have ok : ∀ e : Int, 2 ≤ e → okE lv1 e := fun e he i hi => by
    match i, hi with
    | 0, _ => show (0 : Int) + 2 ≤ min 4 e; omega
    | 1, _ => show (0 : Int) + 2 ≤ min 4 e; omega
    | i + 2, hi => simp [lv1] at hi; omega
  have a1 : atE 2 lv1 [] ((0 + 1 : Nat) : Int) = none := atE_no fun h => by
    have := h 0 (by decide)
    exact absurd this (by decide)
  have a2 : atE 2 lv1 [] ((1 + 1 : Nat) : Int) = none := by rw [atE_ok (ok _ (by decide))]; decide +kernel
  have a3 : atE 2 lv1 [] ((2 + 1 : Nat) : Int) = none := by rw [atE_ok (ok _ (by decide))]; decide +kernel
  have a4 : atE 2 lv1 [] ((3 + 1 : Nat) : Int) = some [0, 2] := by rw [atE_ok (ok _ (by decide))]; decide +kernel
  exact shortK_hit (shortK_miss (shortK_miss (shortK_miss rfl a1) a2) a3) a4 (by decide)
set_option maxHeartbeats 4000000 in
theorem lives_at : FnAt Try.prog false 18 [] (.lit (.bool true)) [] := by
  have c1 := First_ok lv1_vs lv1_first (by decide)
  have c2 := Short_at lv1_vs
  have e1 : shT 2 lv1 [] = [0, 2] := by unfold shT; rw [lv1_short]
  have e2 : shE 2 lv1 [] = 4 := by unfold shE; rw [lv1_short]; rfl
  rw [e1, e2, if_neg (by decide)] at c2
  have c3 := Refuse_ok lv2_vs lv2_first (by rw [lv2_ref])
  rw [lv2_ref] at c3
  have c4 := Proves_ok (pf := [(3, 0, 0, 0, 0, 0, ())]) lv2_vs (by decide)
  rw [lv2_proves] at c4
  have c5 := same_at (a := [0, 2]) (b := [0, 2]) (by decide) (by decide)
  refine FnAt.of_body tys_ok Try.func18 (by rfl) rfl Try.ntmps18 (by rw [Try.results18]) (by simp) ?_
  
  repeat' (first
 | refine W.seq ?_
 | refine W.block ?_
 | (refine W.resub (x := Code.region 2 _ _) (Γ' := ⟨[(1, .st true (.sadr (.agg [I64 2, .arr JT lv1, .arr OT []])))], []⟩) ?_ (W.region tys_ok [] ?_); rotate_left; (conv => whnf))
 | (refine W.resub (x := Code.region 5 _ _) (Γ' := ⟨[(2, .st true (.narr (.int .i64) ([0, 2] : List Int))), (3, .lit (.int .i64 (0))), (4, .st true (.narr (.int .i64) ([0, 2] : List Int))), (5, .lit (.int .i64 (4))), (6, .lit (.int .i64 (0))), (7, .st true (.sadr (.agg [I64 1, .arr JT lv2, .arr OT lo2])))], []⟩) ?_ (W.region tys_ok [] ?_); rotate_left; (conv => whnf))
 | (refine W.resub (x := Code.region 7 _ _) (Γ' := ⟨[(2, .st true (.arr (.int .i64) ([0, 2] : List Int))), (3, .lit (.int .i64 (0))), (4, .st true (.arr (.int .i64) ([0, 2] : List Int))), (5, .lit (.int .i64 (4))), (6, .lit (.int .i64 (0))), (8, .st true (.arr NT ([(3, 0, 0, 0, 0, 0, ())] : List Nd))), (9, .lit (.int .i64 (0))), (10, .lit (.bool (true))), (11, .lit (.int .i64 (0)))], []⟩) ?_ (W.region tys_ok [] ?_); rotate_left; (conv => whnf))
 | (refine W.region tys_ok [] ?_; conv => whnf)
 | (refine W.drawAll tys_ok [] mixed rfl ?_; conv => whnf)
 | (refine W.ret ?_; conv => whnf)
 | (refine W.skip ?_; conv => whnf)
 | (refine W.exit ?_; conv => whnf)
 | (refine call_at (al := true) (c1) rfl rfl rfl rfl ?_; conv => whnf)
 | (refine call_at (al := true) (c2) rfl rfl rfl rfl ?_; conv => whnf)
 | (refine call_at (al := true) (c3) rfl rfl rfl rfl ?_; conv => whnf)
 | (refine call_at (al := false) (c4) rfl rfl rfl rfl ?_; conv => whnf)
 | (refine call_at (al := false) (c5) rfl rfl rfl rfl ?_; conv => whnf)
 | (refine W.cond rfl (fun hb => ?_) (fun hb => ?_) <;> (try simp only [Int.reduceToNat, Int.reduceTDiv, Int.reduceTMod, minL, maxL, pickB, zHB, zSH] at hb) <;> (try (first | (cases hb; done) | exact absurd hb (by decide) | (exfalso; omega))))
 | ((with_reducible refine And.intro ?_ ?_); (focus ((repeat' (first | (with_reducible rfl) | (with_reducible refine And.intro ?_ ?_) | omega | rfl | exact Or.inl rfl | exact Or.inr rfl | exact of_decide_eq_true rfl | exact Path.imp_of (of_decide_eq_true rfl) | (focus ((try simp only [Int.reduceToNat, Int.reduceTDiv, Int.reduceTMod, minL, maxL, pickB, zHB, zSH, InK, Path.imp, List.length_replicate, List.length_set, List.length_append, List.length_cons, List.length_nil] at *); omega)) | (refine app_le rfl ?_; omega))); done)); (conv => whnf))
 | ((with_reducible refine And.intro (Side.out ?_) ?_); rotate_left; (conv => whnf))
 | ((first | refine retF1 ?_ | refine retF2 ?_) <;> (conv => whnf) <;> repeat' (first
 | exact trivial
 | (with_reducible rfl)
 | ((with_reducible refine And.intro ?_ ?_) <;> conv => whnf)
 | omega
 | rfl
 | (refine congrArg (SV.arr _) ?_)
 | (refine congrArg (Value.int _) ?_)
 | (refine congrArg Value.bool ?_)))); all_goals (try unfold Side)
  all_goals try (repeat' (first | (with_reducible rfl) | (with_reducible refine And.intro ?_ ?_) | omega | rfl | exact Or.inl rfl | exact Or.inr rfl | exact of_decide_eq_true rfl | exact Path.imp_of (of_decide_eq_true rfl) | (focus ((try simp only [Int.reduceToNat, Int.reduceTDiv, Int.reduceTMod, minL, maxL, pickB, zHB, zSH, InK, Path.imp, List.length_replicate, List.length_set, List.length_append, List.length_cons, List.length_nil] at *); omega)) | (refine app_le rfl ?_; omega)))
  all_goals try refine subF.ok ?_ <;> (conv => whnf) <;> repeat' (first
 | exact trivial
 | (with_reducible rfl)
 | ((with_reducible refine And.intro ?_ ?_) <;> conv => whnf)
 | omega
 | rfl
 | (refine congrArg (SV.arr _) ?_)
 | (refine congrArg (Value.int _) ?_)
 | (refine congrArg Value.bool ?_))
end Go.Proofs.Ytmfholchenihaaa
