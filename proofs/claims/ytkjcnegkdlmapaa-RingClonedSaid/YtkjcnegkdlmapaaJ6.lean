/- Joined of: R1 R6 R8 Wd1 Vc34 Vc35 Vc36 Vc40 Vc41 Vc39 R11 Vc37. No condition. -/
import Derived.Test.YtkjcnegkdlmapaaJ5
import Derived.Test.YtkjcnegkdlmapaaJ4
set_option linter.unusedVariables false
set_option linter.unusedSimpArgs false
namespace Go.Proofs.Ytkjcnegkdlmapaa
open Int renaming reduceToNat → zr, reduceTDiv → zd, reduceTMod → zm
open Go Go.Vc Go.Rg
variable {n : Nat} {pet : Bool} {r : Rn}
theorem ris_at : FnM Try.prog 59 [.padr 1000000000 0] [(1000000000, .box [.lit (.bool true), .lit (.bool pet), .own 1000000001, .mown 1000000002, (.lit (.int .i64 ((r).2.2 : Int)))]), (1000000001, .row 105 PT true (r).1), (1000000002, .mat 80 91 NT true (r).2.1 none)] (.lit (.bool true)) [(1000000000, .box [.lit (.bool true), .lit (.bool pet), .own 1000000001, .mown 1000000002, (.lit (.int .i64 ((r).2.2 : Int)))]), (1000000001, .row 105 PT true (r).1), (1000000002, .mat 80 91 NT true (r).2.1 none)] := by
 refine FnM.of_body tys_ok Try.func59 (by rfl) rfl Try.ntmps59 (by rw [Try.results59]) (by simp) ?_
 repeat' (first
 | refine W.seq ?_
 | refine W.block ?_
 | (refine W.region tys_ok [] ?_; conv => whnf)
 | (refine W.drawAll tys_ok [] mixed rfl ?_; conv => whnf)
 | (refine W.ret ?_; conv => whnf)
 | (refine W.skip ?_; conv => whnf)
 | (refine W.exit ?_; conv => whnf)
 | (refine W.cond rfl (fun hb => ?_) (fun hb => ?_) <;> (try simp only [zr, zd, zm, minL, maxL, pickB, zA] at hb) <;> (try (first | (cases hb; done) | exact absurd hb (by decide) | (exfalso; omega) | (omega))))
 | ((with_reducible refine And.intro ?_ ?_); exact zc; conv => whnf)
 | ((with_reducible refine And.intro (Side.out ?_) ?_); rotate_left; (conv => whnf))
 | ((first | refine retM1 ?_ | refine retM2 ?_) <;> (conv => whnf) <;> repeat' (first
 | exact trivial
 | (with_reducible rfl)
 | ((with_reducible refine And.intro ?_ ?_) <;> conv => whnf)
 | omega
 | rfl
 | (refine congrArg (SV.arr _) ?_)
 | (refine congrArg (Value.int _) ?_)
 | (refine congrArg Value.bool ?_)))); all_goals (try unfold Side)
 all_goals try (repeat' (first | exact zb | with_reducible refine And.intro ?_ ?_))
theorem rhas_at {i : Int} {b : Bool} (h : b = hasB r.1.length i) : FnM Try.prog 60 [.padr 1000000000 0, (.lit (.int .i64 (i : Int)))] [(1000000000, .box [.lit (.bool true), .lit (.bool pet), .own 1000000001, .mown 1000000002, (.lit (.int .i64 ((r).2.2 : Int)))]), (1000000001, .row 105 PT true (r).1), (1000000002, .mat 80 91 NT true (r).2.1 none)] (.lit (.bool b)) [(1000000000, .box [.lit (.bool true), .lit (.bool pet), .own 1000000001, .mown 1000000002, (.lit (.int .i64 ((r).2.2 : Int)))]), (1000000001, .row 105 PT true (r).1), (1000000002, .mat 80 91 NT true (r).2.1 none)] := by
 subst h
 have hl : @List.length PT.T r.1 = r.1.length := rfl
 refine FnM.of_body tys_ok Try.func60 (by rfl) rfl Try.ntmps60 (by rw [Try.results60]) (by simp) ?_
 repeat' (first
 | refine W.seq ?_
 | refine W.block ?_
 | (refine W.region tys_ok [] ?_; conv => whnf)
 | (refine W.drawAll tys_ok [] mixed rfl ?_; conv => whnf)
 | (refine W.ret ?_; conv => whnf)
 | (refine W.skip ?_; conv => whnf)
 | (refine W.exit ?_; conv => whnf)
 | (refine W.cond rfl (fun hb => ?_) (fun hb => ?_) <;> (try simp only [zr, zd, zm, minL, maxL, pickB, zA] at hb) <;> (try (first | (cases hb; done) | exact absurd hb (by decide) | (exfalso; omega) | (omega))))
 | ((with_reducible refine And.intro ?_ ?_); exact zc; conv => whnf)
 | ((with_reducible refine And.intro (Side.out ?_) ?_); rotate_left; (conv => whnf))
 | ((first | refine retM1 ?_ | refine retM2 ?_) <;> (conv => whnf) <;> repeat' (first
 | exact trivial
 | (with_reducible rfl)
 | ((with_reducible refine And.intro ?_ ?_) <;> conv => whnf)
 | omega
 | rfl
 | (refine congrArg (SV.arr _) ?_)
 | (refine congrArg (Value.int _) ?_)
 | (refine congrArg Value.bool ?_)))); all_goals (try unfold Side)
 all_goals try (repeat' (first | exact zb | with_reducible refine And.intro ?_ ?_))
set_option maxHeartbeats 4000000 in
theorem sendp_at {i : Nat} {k v : Int} (hi : i < r.2.1.length) (hf : ((r.2.1.getD i []).length : Int) ≤ r.2.2) (hs : 0 ≤ r.2.2 ∧ r.2.2 ≤ 1000000) : FnM Try.prog 78 [.padr 1000000000 0, (.lit (.int .i64 (i : Int))), (.lit (.int .i64 (k : Int))), (.lit (.int .i64 (v : Int)))] [(1000000000, .box [.lit (.bool true), .lit (.bool pet), .own 1000000001, .mown 5, (.lit (.int .i64 ((r).2.2 : Int)))]), (1000000001, .row 105 PT true (r).1), (5, .mat 80 91 NT true (r).2.1 none)] (.tup []) [(1000000000, .box [.lit (.bool true), .lit (.bool pet), .own 1000000001, .mown 5, (.lit (.int .i64 (((sendR i k v r)).2.2 : Int)))]), (1000000001, .row 105 PT true ((sendR i k v r)).1), (5, .mat 80 91 NT true ((sendR i k v r)).2.1 none)] := by
 have e0 : i < r.2.1.length := hi
 have e1 : i < (r.2.1.set i (r.2.1.getD i [] ++ [(k, v, ())])).length := by rw [List.length_set]; exact hi
 have e2 : (r.2.1.getD i []).length + [((k, v, ()) : Nt)].length ≤ 4294967296 := by rw [List.length_singleton]; omega
 have e3 : 0 ≤ (i : Int) ∧ i < (r.2.1.set i (r.2.1.getD i [] ++ [(k, v, ())])).length := ⟨by omega, e1⟩
 have e4 : 0 ≤ (i : Int) ∧ i < r.2.1.length := ⟨by omega, e0⟩
 refine FnM.of_body tys_ok Try.func78 (by rfl) rfl Try.ntmps78 (by rw [Try.results78]) (by simp) ?_
 repeat' (first
 | refine W.seq ?_
 | refine W.block ?_
 | (refine W.resub (x := Code.region 0 _ _) (Γ' := ⟨[(0, .padr 1000000000 0), (1, (.lit (.int .i64 (i : Int)))), (2, (.lit (.int .i64 (k : Int)))), (3, (.lit (.int .i64 (v : Int))))], [(1000000000, .box [.lit (.bool true), .lit (.bool pet), .own 1000000001, .mown 5, (.lit (.int .i64 ((r).2.2 : Int)))]), (1000000001, .row 105 PT true (r).1), (5, .mat 80 91 NT true (r).2.1 none)]⟩) ?_ ?_; rotate_left; refine W.drawPhTo (id := 0) tys_ok [] mixed [0, 1, 2, 4, 0, 0, 32, 64, 128, 0, 768, 1024, 0, 0, 12288, 16384, 34816, 131071, 262143] [([0, 1, 2, 4, 5, 6, 7, 9, 12, 13], 7, 131071), ([17], 1, 524287)] ⟨[(0, .padr 1000000000 0)], [(1000000000, .box [.lit (.bool true), .lit (.bool pet), .own 1000000001, .mown 5, (.lit (.int .i64 (r.2.2 : Int)))]), (1000000001, .row 105 PT true r.1), (5, .mat 80 91 NT true (sendR i k v r).2.1 none)]⟩ (by decide +kernel) ?_ ?_; (conv => whnf); rotate_left; (conv => whnf))
 | (refine W.region tys_ok [] ?_; conv => whnf)
 | (refine W.drawAll tys_ok [] mixed rfl ?_; conv => whnf)
 | (refine W.ret ?_; conv => whnf)
 | (refine W.skip ?_; conv => whnf)
 | (refine W.exit ?_; conv => whnf)
 | (refine Both.mk ?_ ?_ <;> (conv => whnf))
 | (refine W.cond rfl (fun hb => ?_) (fun hb => ?_) <;> (try simp only [zr, zd, zm, minL, maxL, pickB, zA] at hb) <;> (try (first | (cases hb; done) | exact absurd hb (by decide) | (exfalso; omega) | (omega))))
 | ((with_reducible refine And.intro ?_ ?_); exact zc; conv => whnf)
 | ((with_reducible refine And.intro (Side.out ?_) ?_); rotate_left; (conv => whnf))
 | ((first | refine retM1 ?_ | refine retM2 ?_ | refine subF.leaf ?_ | refine subF.side ?_) <;> (conv => whnf) <;> repeat' (first
 | exact trivial
 | (with_reducible rfl)
 | ((with_reducible refine And.intro ?_ ?_) <;> conv => whnf)
 | omega
 | rfl
 | (refine congrArg (SV.arr _) ?_)
 | (refine congrArg (Value.int _) ?_)
 | (refine congrArg Value.bool ?_)))); all_goals (try unfold Side)
 all_goals try (repeat' (first | exact zb | with_reducible refine And.intro ?_ ?_))
 all_goals first | exact e0 | exact e1 | exact Path.imp_of e0 | exact e2 | exact Path.imp_of e3 | exact Path.imp_of e4 | skip
open Go Go.Vc Go.Rg
def ixN (l : List Int) (x : Int) (i : Nat) : Int := if x ∈ l.drop i then ((i + (l.drop i).idxOf x : Nat) : Int) else -1
theorem ixN_end {l : List Int} {x : Int} {i : Nat} (h : l.length ≤ i) : ixN l x i = -1 := by
 unfold ixN
 rw [List.drop_of_length_le h]
 rfl
theorem getD_eq {l : List Int} {i : Nat} (h : i < l.length) : l.getD i 0 = l[i] := by rw [List.getD_eq_getElem?_getD, List.getElem?_eq_getElem h]; rfl
theorem ixN_hit {l : List Int} {x : Int} {i : Nat} (h : i < l.length) (hx : x = l.getD i 0) : ixN l x i = (i : Int) := by
 unfold ixN
 rw [List.drop_eq_getElem_cons h, ← getD_eq h, ← hx]
 simp
theorem ixN_miss {l : List Int} {x : Int} {i : Nat} (h : i < l.length) (hx : x ≠ l.getD i 0) : ixN l x i = ixN l x (i + 1) := by
 unfold ixN
 rw [List.drop_eq_getElem_cons h, ← getD_eq h]
 have h1 : (x ∈ l.getD i 0 :: l.drop (i + 1)) ↔ x ∈ l.drop (i + 1) :=
  ⟨fun h => (List.mem_cons.1 h).elim (fun e => absurd e hx) id, List.mem_cons_of_mem _⟩
 by_cases e : x ∈ l.drop (i + 1)
 · rw [if_pos (h1.2 e), if_pos e, List.idxOf_cons]
   have : (l.getD i 0 == x) = false := by simpa using fun h => hx h.symm
   rw [this]
   simp only [cond_false]
   congr 1
   omega
 · rw [if_neg (fun h => e (h1.1 h)), if_neg e]
theorem ixN_sign {l : List Int} {x : Int} : decide (0 ≤ ixN l x 0) = decide (x ∈ l) := by
 unfold ixN
 rw [List.drop_zero, decide_eq_decide]
 by_cases e : x ∈ l
 · rw [if_pos e]; simp only [e, iff_true]; omega
 · rw [if_neg e]; simp only [e, iff_false]; omega
theorem indexN_at {l : List Int} {x : Int} (hll : l.length ≤ 1000) : FnAt Try.prog false 77 [.arr (.int .i64) l, I64 x] (.lit (.int .i64 (ixN l x 0 : Int))) [] := by
 have hl : @List.length (Ty.int .i64).T l = l.length := rfl
 refine FnAt.of_body tys_ok Try.func77 (by rfl) rfl Try.ntmps77 (by rw [Try.results77]) (by simp) ?_
 repeat' (first
 | refine W.seq ?_
 | refine W.block ?_
 | (refine W.region tys_ok [] ?_; conv => whnf)
 | (refine W.drawAll tys_ok [] mixed rfl ?_; conv => whnf)
 | (refine W.ret ?_; conv => whnf)
 | (refine W.skip ?_; conv => whnf)
 | (refine W.exit ?_; conv => whnf)
 | (refine W.cond rfl (fun hb => ?_) (fun hb => ?_) <;> (try simp only [zr, zd, zm, minL, maxL, pickB, zA] at hb) <;> (try (first | (cases hb; done) | exact absurd hb (by decide) | (exfalso; omega) | (omega))))
 | ((with_reducible refine And.intro ?_ ?_); exact zc; conv => whnf)
 | ((with_reducible refine And.intro (Side.out ?_) ?_); rotate_left; (conv => whnf))
 | ((first | refine retF1 ?_ | refine retF2 ?_) <;> (conv => whnf) <;> repeat' (first
 | exact trivial
 | (with_reducible rfl)
 | ((with_reducible refine And.intro ?_ ?_) <;> conv => whnf)
 | omega
 | rfl
 | (refine congrArg (SV.arr _) ?_)
 | (refine congrArg (Value.int _) ?_)
 | (refine congrArg Value.bool ?_)))); all_goals (try unfold Side)
 all_goals try (repeat' (first | exact zb | with_reducible refine And.intro ?_ ?_))
 refine W.loop (fun i : Nat => ⟨[(0, .st false (.arr (.int .i64) l)), (1, (.lit (.int .i64 (x : Int)))), (7, (.lit (.int .i64 (l.length : Int)))), (8, (.lit (.int .i64 (i : Int))))], []⟩) (fun i => i ≤ l.length ∧ ixN l x 0 = ixN l x i) (fun i => l.length - i) (0) ?_ ?_
 · refine ⟨⟨Nat.zero_le _, rfl⟩, ?_⟩
   refine subF.ok ?_ <;> (conv => whnf) <;> repeat' (first
 | exact trivial
 | (with_reducible rfl)
 | ((with_reducible refine And.intro ?_ ?_) <;> conv => whnf)
 | omega
 | rfl
 | (refine congrArg (SV.arr _) ?_)
 | (refine congrArg (Value.int _) ?_)
 | (refine congrArg Value.bool ?_))
 · rintro i ⟨hi, hix⟩
   by_cases hil : i < l.length
   · by_cases hx : x = l.getD i 0
     · have hy := ixN_hit hil hx
       repeat' (first
 | refine W.seq ?_
 | refine W.block ?_
 | (refine W.region tys_ok [] ?_; conv => whnf)
 | (refine W.drawAll tys_ok [] mixed rfl ?_; conv => whnf)
 | (refine W.ret ?_; conv => whnf)
 | (refine W.skip ?_; conv => whnf)
 | (refine W.exit ?_; conv => whnf)
 | (refine W.cond rfl (fun hb => ?_) (fun hb => ?_) <;> (try simp only [zr, zd, zm, minL, maxL, pickB, zA] at hb) <;> (try (first | (cases hb; done) | exact absurd hb (by decide) | (exfalso; omega) | (omega) | ((simp_all; done)))))
 | ((with_reducible refine And.intro ?_ ?_); exact zc; conv => whnf)
 | ((with_reducible refine And.intro (Side.out ?_) ?_); rotate_left; (conv => whnf))
 | ((first | refine retF1 ?_ | refine retF2 ?_) <;> (conv => whnf) <;> repeat' (first
 | exact trivial
 | (with_reducible rfl)
 | ((with_reducible refine And.intro ?_ ?_) <;> conv => whnf)
 | omega
 | rfl
 | (refine congrArg (SV.arr _) ?_)
 | (refine congrArg (Value.int _) ?_)
 | (refine congrArg Value.bool ?_)))); all_goals (try unfold Side)
       all_goals try (repeat' (first | exact zb | with_reducible refine And.intro ?_ ?_))
       all_goals (rw [hix, hy])
     · have hy := ixN_miss hil hx
       repeat' (first
 | refine W.seq ?_
 | refine W.block ?_
 | (refine W.region tys_ok [] ?_; conv => whnf)
 | (refine W.drawAll tys_ok [] mixed rfl ?_; conv => whnf)
 | (refine W.ret ?_; conv => whnf)
 | (refine W.skip ?_; conv => whnf)
 | (refine W.exit ?_; conv => whnf)
 | (refine W.cond rfl (fun hb => ?_) (fun hb => ?_) <;> (try simp only [zr, zd, zm, minL, maxL, pickB, zA] at hb) <;> (try (first | (cases hb; done) | exact absurd hb (by decide) | (exfalso; omega) | (omega) | ((simp_all; done)))))
 | ((with_reducible refine And.intro ?_ ?_); exact zc; conv => whnf)
 | ((with_reducible refine And.intro (Side.out ?_) ?_); rotate_left; (conv => whnf))
 | ((first | refine retF1 ?_ | refine retF2 ?_) <;> (conv => whnf) <;> repeat' (first
 | exact trivial
 | (with_reducible rfl)
 | ((with_reducible refine And.intro ?_ ?_) <;> conv => whnf)
 | omega
 | rfl
 | (refine congrArg (SV.arr _) ?_)
 | (refine congrArg (Value.int _) ?_)
 | (refine congrArg Value.bool ?_)))); all_goals (try unfold Side)
       all_goals try (repeat' (first | exact zb | with_reducible refine And.intro ?_ ?_))
       refine ⟨i + 1, ⟨⟨by omega, by rw [hix, hy]⟩, by omega⟩, ?_⟩
       refine subF.ok ?_ <;> (conv => whnf) <;> repeat' (first
 | exact trivial
 | (with_reducible rfl)
 | ((with_reducible refine And.intro ?_ ?_) <;> conv => whnf)
 | omega
 | rfl
 | (refine congrArg (SV.arr _) ?_)
 | (refine congrArg (Value.int _) ?_)
 | (refine congrArg Value.bool ?_))
   · have hy := ixN_end (l := l) (x := x) (i := i) (by omega)
     repeat' (first
 | refine W.seq ?_
 | refine W.block ?_
 | (refine W.region tys_ok [] ?_; conv => whnf)
 | (refine W.drawAll tys_ok [] mixed rfl ?_; conv => whnf)
 | (refine W.ret ?_; conv => whnf)
 | (refine W.skip ?_; conv => whnf)
 | (refine W.exit ?_; conv => whnf)
 | (refine W.cond rfl (fun hb => ?_) (fun hb => ?_) <;> (try simp only [zr, zd, zm, minL, maxL, pickB, zA] at hb) <;> (try (first | (cases hb; done) | exact absurd hb (by decide) | (exfalso; omega) | (omega))))
 | ((with_reducible refine And.intro ?_ ?_); exact zc; conv => whnf)
 | ((with_reducible refine And.intro (Side.out ?_) ?_); rotate_left; (conv => whnf))
 | ((first | refine retF1 ?_ | refine retF2 ?_) <;> (conv => whnf) <;> repeat' (first
 | exact trivial
 | (with_reducible rfl)
 | ((with_reducible refine And.intro ?_ ?_) <;> conv => whnf)
 | omega
 | rfl
 | (refine congrArg (SV.arr _) ?_)
 | (refine congrArg (Value.int _) ?_)
 | (refine congrArg Value.bool ?_)))); all_goals (try unfold Side)
     all_goals try (repeat' (first | exact zb | with_reducible refine And.intro ?_ ?_))
     all_goals (rw [hix, hy])
theorem containsN_at {l : List Int} {x : Int} {b : Bool} (hll : l.length ≤ 1000) (h : b = decide (x ∈ l)) : FnAt Try.prog false 57 [.arr (.int .i64) l, I64 x] (.lit (.bool b)) [] := by
 subst h
 have c1 := indexN_at (x := x) hll
 have hs := ixN_sign (l := l) (x := x)
 refine FnAt.of_body tys_ok Try.func57 (by rfl) rfl Try.ntmps57 (by rw [Try.results57]) (by simp) ?_
 repeat' (first
 | refine W.seq ?_
 | refine W.block ?_
 | (refine W.region tys_ok [] ?_; conv => whnf)
 | (refine W.drawAll tys_ok [] mixed rfl ?_; conv => whnf)
 | (refine W.ret ?_; conv => whnf)
 | (refine W.skip ?_; conv => whnf)
 | (refine W.exit ?_; conv => whnf)
 | (refine call_at (al := false) (c1) rfl rfl rfl rfl ?_; conv => whnf)
 | (refine W.cond rfl (fun hb => ?_) (fun hb => ?_) <;> (try simp only [zr, zd, zm, minL, maxL, pickB, zA] at hb) <;> (try (first | (cases hb; done) | exact absurd hb (by decide) | (exfalso; omega) | (omega))))
 | ((with_reducible refine And.intro ?_ ?_); exact zc; conv => whnf)
 | ((with_reducible refine And.intro (Side.out ?_) ?_); rotate_left; (conv => whnf))
 | ((first | refine retF1 ?_ | refine retF2 ?_) <;> (conv => whnf) <;> repeat' (first
 | exact trivial
 | (with_reducible rfl)
 | ((with_reducible refine And.intro ?_ ?_) <;> conv => whnf)
 | omega
 | rfl
 | (refine congrArg (SV.arr _) ?_)
 | (refine congrArg (Value.int _) ?_)
 | (refine congrArg Value.bool ?_)))); all_goals (try unfold Side)
 all_goals try (repeat' (first | exact zb | with_reducible refine And.intro ?_ ?_))
 all_goals exact hs
def mkP (x : Int) : Pe := (x, false, 0, x, 0, false, 1, ())
def goodAt (xs : List Int) (i : Nat) : Prop := 1 ≤ xs.getD i 0 ∧ xs.getD i 0 ≤ 1000 ∧ xs.getD i 0 ∉ xs.take i
set_option maxHeartbeats 4000000 in
theorem new_ok {xs : List Int} {pet : Bool} (h1 : 1 ≤ xs.length) (h2 : xs.length ≤ 10) (hg : ∀ i, i < xs.length → goodAt xs i) : FnM Try.prog 27 [.st false (.arr (.int .i64) xs), .lit (.bool pet)] [] (.tup [.padr 0 0, (.lit (.int .i64 (0 : Int)))]) [(0, .box [.lit (.bool true), .lit (.bool pet), .own 1, .mown 2, (.lit (.int .i64 (((rnew xs)).2.2 : Int)))]), (1, .row 105 PT true ((rnew xs)).1), (2, .mat 80 91 NT true ((rnew xs)).2.1 none)] := by
 have hl : @List.length (Ty.int .i64).T xs = xs.length := rfl
 have hN1 : (xs.length : Int) ≤ 4294967296 := by omega
 refine FnM.of_body tys_ok Try.func27 (by rfl) rfl Try.ntmps27 (by rw [Try.results27]) (by simp) ?_
 repeat' (first
 | refine W.seq ?_
 | refine W.block ?_
 | (refine W.region tys_ok [0, 20] ?_; conv => whnf)
 | (refine W.drawAll tys_ok [0, 20] mixed rfl ?_; conv => whnf)
 | (refine W.ret ?_; conv => whnf)
 | (refine W.skip ?_; conv => whnf)
 | (refine W.exit ?_; conv => whnf)
 | (refine W.cond rfl (fun hb => ?_) (fun hb => ?_) <;> (try simp only [zr, zd, zm, minL, maxL, pickB, zA] at hb) <;> (try (first | (cases hb; done) | exact absurd hb (by decide) | (exfalso; omega) | (omega) | ((simp [pickB] at hb; omega)))))
 | ((with_reducible refine And.intro ?_ ?_); exact zc; conv => whnf)
 | ((with_reducible refine And.intro (Side.out ?_) ?_); rotate_left; (conv => whnf))
 | ((first | refine retM1 ?_ | refine retM2 ?_) <;> (conv => whnf) <;> repeat' (first
 | exact trivial
 | (with_reducible rfl)
 | ((with_reducible refine And.intro ?_ ?_) <;> conv => whnf)
 | omega
 | rfl
 | (refine congrArg (SV.arr _) ?_)
 | (refine congrArg (Value.int _) ?_)
 | (refine congrArg Value.bool ?_)))); all_goals (try unfold Side)
 all_goals first | exact Nat.le_of_ble_eq_true rfl | exact hN1 | skip
 all_goals try (repeat' (first | exact zb | with_reducible refine And.intro ?_ ?_))
 refine W.loop (fun i : Nat => ⟨[(0, .st false (.arr (.int .i64) xs)), (6, .padr 7000 0), (23, .st false (.arr (.int .i64) xs)), (24, (.lit (.int .i64 (xs.length : Int)))), (25, (.lit (.int .i64 (i : Int))))], [(7000, .box [.lit (.bool true), .lit (.bool pet), .own 7001, .mown 7002, (.lit (.int .i64 (0 : Int)))]), (7001, .row 105 PT true ((xs.take i).map mkP)), (7002, .mat 80 91 NT true (List.replicate xs.length ([] : List Nt)) none)]⟩) (fun i => i ≤ xs.length) (fun i => xs.length - i) (0) ?_ ?_
 · refine ⟨Nat.zero_le _, ?_⟩
   refine subF.ok ?_ <;> (conv => whnf) <;> repeat' (first
 | exact trivial
 | (with_reducible rfl)
 | ((with_reducible refine And.intro ?_ ?_) <;> conv => whnf)
 | omega
 | rfl
 | (refine congrArg (SV.arr _) ?_)
 | (refine congrArg (Value.int _) ?_)
 | (refine congrArg Value.bool ?_))
 · intro i hi
   by_cases hil : i < xs.length
   · have hgi := hg i hil
     have hg1 : 1 ≤ xs.getD i 0 := hgi.1
     have hg2 : xs.getD i 0 ≤ 1000 := hgi.2.1
     have c1 := containsN_at (l := xs.take i) (x := xs.getD i 0) (b := false) (by rw [List.length_take]; omega) (by rw [eq_comm, decide_eq_false_iff_not]; exact hgi.2.2)
     have e1 : (xs.take i).map mkP ++ [(xs.getD i 0, false, 0, xs.getD i 0, 0, false, 1, ())] = (xs.take (i + 1)).map mkP := by
      rw [List.take_succ_eq_append_getElem hil, List.map_append, ← getD_eq hil]; rfl
     have e2 : ((xs.take i).map mkP).length + [((xs.getD i 0, false, 0, xs.getD i 0, 0, false, 1, ()) : Pe)].length ≤ 4294967296 := by
      rw [List.length_map, List.length_take, List.length_singleton]; omega
     have hk : ¬ (xs.getD i 0 < 1 ∨ 1000 < xs.getD i 0) := by omega
     repeat' (first
 | refine W.seq ?_
 | refine W.block ?_
 | (refine W.region tys_ok [] ?_; conv => whnf)
 | (refine W.drawAll tys_ok [] mixed rfl ?_; conv => whnf)
 | (refine W.ret ?_; conv => whnf)
 | (refine W.skip ?_; conv => whnf)
 | (refine W.exit ?_; conv => whnf)
 | (refine call_at (al := false) (c1) rfl rfl rfl rfl ?_; conv => whnf)
 | (refine W.cond rfl (fun hb => ?_) (fun hb => ?_) <;> (try simp only [zr, zd, zm, minL, maxL, pickB, zA] at hb) <;> (try (first | (cases hb; done) | exact absurd hb (by decide) | (exfalso; omega) | (omega) | (exact hk hb) | ((simp [pickB] at hb; omega)))))
 | ((with_reducible refine And.intro ?_ ?_); exact zc; conv => whnf)
 | ((with_reducible refine And.intro (Side.out ?_) ?_); rotate_left; (conv => whnf))
 | ((first | refine retM1 ?_ | refine retM2 ?_) <;> (conv => whnf) <;> repeat' (first
 | exact trivial
 | (with_reducible rfl)
 | ((with_reducible refine And.intro ?_ ?_) <;> conv => whnf)
 | omega
 | rfl
 | (refine congrArg (SV.arr _) ?_)
 | (refine congrArg (Value.int _) ?_)
 | (refine congrArg Value.bool ?_)))); all_goals (try unfold Side)
     all_goals try (repeat' (first | exact zb | with_reducible refine And.intro ?_ ?_))
     all_goals first | exact e2 | skip
     refine ⟨i + 1, ⟨by omega, by omega⟩, ?_⟩
     refine subF.ok ?_ <;> (conv => whnf) <;> repeat' (first
 | exact trivial
 | (with_reducible rfl)
 | ((with_reducible refine And.intro ?_ ?_) <;> conv => whnf)
 | omega
 | rfl
 | (refine congrArg (SV.arr _) ?_)
 | (refine congrArg (Value.int _) ?_)
 | (refine congrArg Value.bool ?_))
     all_goals exact e1
   · have hie : i = xs.length := by omega
     subst hie
     have e3 : (xs.take xs.length).map mkP = (rnew xs).1 := by rw [List.take_length]; rfl
     repeat' (first
 | refine W.seq ?_
 | refine W.block ?_
 | (refine W.region tys_ok [] ?_; conv => whnf)
 | (refine W.drawAll tys_ok [] mixed rfl ?_; conv => whnf)
 | (refine W.ret ?_; conv => whnf)
 | (refine W.skip ?_; conv => whnf)
 | (refine W.exit ?_; conv => whnf)
 | (refine W.cond rfl (fun hb => ?_) (fun hb => ?_) <;> (try simp only [zr, zd, zm, minL, maxL, pickB, zA] at hb) <;> (try (first | (cases hb; done) | exact absurd hb (by decide) | (exfalso; omega) | (omega))))
 | ((with_reducible refine And.intro ?_ ?_); exact zc; conv => whnf)
 | ((with_reducible refine And.intro (Side.out ?_) ?_); rotate_left; (conv => whnf))
 | ((first | refine retM1 ?_ | refine retM2 ?_) <;> (conv => whnf) <;> repeat' (first
 | exact trivial
 | (with_reducible rfl)
 | ((with_reducible refine And.intro ?_ ?_) <;> conv => whnf)
 | omega
 | rfl
 | (refine congrArg (SV.arr _) ?_)
 | (refine congrArg (Value.int _) ?_)
 | (refine congrArg Value.bool ?_)))); all_goals (try unfold Side)
     all_goals try (repeat' (first | exact zb | with_reducible refine And.intro ?_ ?_))
     all_goals exact e3
open Int renaming reduceToNat → zr, reduceTDiv → zd, reduceTMod → zm
open Go Go.Vc Go.Rg
set_option maxHeartbeats 4000000 in
theorem rnew_at {xs : List Int} {pet : Bool} (hll : xs.length ≤ 1000) : FnM Try.prog 29 [.st false (.arr (.int .i64) xs), .lit (.bool pet)] [] (.padr 0 0) [(0, .box [.lit (.bool pet), .own 1, .own 2, (.lit (.int .i64 (((rnew xs)).2.2 : Int)))]), (1, .row 111 WT true (((rnew xs)).1.map cv)), (2, .row 80 (.sl NT) true ((rnew xs)).2.1)] := by
 have hl : @List.length (Ty.int .i64).T xs = xs.length := rfl
 refine FnM.of_body tys_ok Try.func29 (by rfl) rfl Try.ntmps29 (by rw [Try.results29]) (by simp) ?_
 repeat' (first
 | refine W.seq ?_
 | refine W.block ?_
 | (refine W.region tys_ok [] ?_; conv => whnf)
 | (refine W.drawAll tys_ok [] mixed rfl ?_; conv => whnf)
 | (refine W.ret ?_; conv => whnf)
 | (refine W.skip ?_; conv => whnf)
 | (refine W.exit ?_; conv => whnf)
 | (refine W.cond rfl (fun hb => ?_) (fun hb => ?_) <;> (try simp only [zr, zd, zm, minL, maxL, pickB, zA] at hb) <;> (try (first | (cases hb; done) | exact absurd hb (by decide) | (exfalso; omega) | (omega))))
 | ((with_reducible refine And.intro ?_ ?_); exact zc; conv => whnf)
 | ((with_reducible refine And.intro (Side.out ?_) ?_); rotate_left; (conv => whnf))
 | ((first | refine retM1 ?_ | refine retM2 ?_) <;> (conv => whnf) <;> repeat' (first
 | exact trivial
 | (with_reducible rfl)
 | ((with_reducible refine And.intro ?_ ?_) <;> conv => whnf)
 | omega
 | rfl
 | (refine congrArg (SV.arr _) ?_)
 | (refine congrArg (Value.int _) ?_)
 | (refine congrArg Value.bool ?_)))); all_goals (try unfold Side)
 all_goals try (repeat' (first | exact zb | with_reducible refine And.intro ?_ ?_))
 refine W.loop (fun i : Nat => ⟨[(0, .st false (.arr (.int .i64) xs)), (5, .padr 7000 0), (6, (.lit (.int .i64 (i : Int))))], [(7000, .box [.lit (.bool pet), .own 7001, .own 7002, (.lit (.int .i64 (0 : Int)))]), (7001, .row 111 WT true (((xs.take i).map mkP).map cv)), (7002, .row 80 (.sl NT) true (List.replicate i ([] : List Nt)))]⟩) (fun i => i ≤ xs.length) (fun i => xs.length - i) (0) ?_ ?_
 · refine ⟨Nat.zero_le _, ?_⟩
   refine subF.ok ?_ <;> (conv => whnf) <;> repeat' (first
 | exact trivial
 | (with_reducible rfl)
 | ((with_reducible refine And.intro ?_ ?_) <;> conv => whnf)
 | omega
 | rfl
 | (refine congrArg (SV.arr _) ?_)
 | (refine congrArg (Value.int _) ?_)
 | (refine congrArg Value.bool ?_))
 · intro i hi
   by_cases hil : i < xs.length
   · have e1 : ((xs.take i).map mkP).map cv ++ [(xs.getD i 0, xs.getD i 0, 0, 0, false, false, false, ())] = ((xs.take (i + 1)).map mkP).map cv := by
      rw [List.take_succ_eq_append_getElem hil, List.map_append, List.map_append, ← getD_eq hil]; rfl
     have e2 : List.replicate i ([] : List Nt) ++ [[]] = List.replicate (i + 1) [] := by rw [List.replicate_succ']
     have e3 : (((xs.take i).map mkP).map cv).length + [((xs.getD i 0, xs.getD i 0, 0, 0, false, false, false, ()) : We)].length ≤ 4294967296 := by
      rw [List.length_map, List.length_map, List.length_take, List.length_singleton]; omega
     have e4 : (List.replicate i ([] : List Nt)).length + [([] : List Nt)].length ≤ 4294967296 := by
      rw [List.length_replicate, List.length_singleton]; omega
     repeat' (first
 | refine W.seq ?_
 | refine W.block ?_
 | (refine W.drawPhTo (id := 5) tys_ok [] mixed [0, 0, 2, 4, 8, 0, 0, 96, 128, 0, 0, 1536, 2048, 4352, 8192, 16400, 65535, 131071, 196607] [([0, 1, 2, 3, 5, 6, 7, 8, 9, 10, 11, 12], 3, 32767), ([], 1, 65535), ([16, 17], 1, 524287)] ⟨[(0, .st false (.arr (.int .i64) xs)), (5, .padr 7000 0), (6, (.lit (.int .i64 (i : Int))))], [(7000, .box [.lit (.bool pet), .own 7001, .own 7002, (.lit (.int .i64 (0 : Int)))]), (7001, .row 111 WT true (((xs.take (i + 1)).map mkP).map cv)), (7002, .row 80 (.sl NT) true (List.replicate i ([] : List Nt)))]⟩ (by decide +kernel) ?_ ?_ <;> (conv => whnf))
 | (refine W.region tys_ok [] ?_; conv => whnf)
 | (refine W.drawAll tys_ok [] mixed rfl ?_; conv => whnf)
 | (refine W.ret ?_; conv => whnf)
 | (refine W.skip ?_; conv => whnf)
 | (refine W.exit ?_; conv => whnf)
 | (refine Both.mk ?_ ?_ <;> (conv => whnf))
 | (refine W.cond rfl (fun hb => ?_) (fun hb => ?_) <;> (try simp only [zr, zd, zm, minL, maxL, pickB, zA] at hb) <;> (try (first | (cases hb; done) | exact absurd hb (by decide) | (exfalso; omega) | (omega))))
 | ((with_reducible refine And.intro ?_ ?_); exact zc; conv => whnf)
 | ((with_reducible refine And.intro (Side.out ?_) ?_); rotate_left; (conv => whnf))
 | ((first | refine retM1 ?_ | refine retM2 ?_ | refine subF.leaf ?_ | refine subF.side ?_) <;> (conv => whnf) <;> repeat' (first
 | exact trivial
 | (with_reducible rfl)
 | ((with_reducible refine And.intro ?_ ?_) <;> conv => whnf)
 | omega
 | rfl
 | (refine congrArg (SV.arr _) ?_)
 | (refine congrArg (Value.int _) ?_)
 | (refine congrArg Value.bool ?_)))); all_goals (try unfold Side)
     all_goals try (repeat' (first | exact zb | with_reducible refine And.intro ?_ ?_))
     all_goals first | exact e1 | exact e3 | exact e4 | skip
     refine ⟨i + 1, ⟨by omega, by omega⟩, ?_⟩
     refine subF.ok ?_ <;> (conv => whnf) <;> repeat' (first
 | exact trivial
 | (with_reducible rfl)
 | ((with_reducible refine And.intro ?_ ?_) <;> conv => whnf)
 | omega
 | rfl
 | (refine congrArg (SV.arr _) ?_)
 | (refine congrArg (Value.int _) ?_)
 | (refine congrArg Value.bool ?_))
     all_goals first | exact e2 | exact e1
   · have hie : i = xs.length := by omega
     subst hie
     have e5 : ((xs.take xs.length).map mkP).map cv = (rnew xs).1.map cv := by rw [List.take_length]; rfl
     repeat' (first
 | refine W.seq ?_
 | refine W.block ?_
 | (refine W.region tys_ok [] ?_; conv => whnf)
 | (refine W.drawAll tys_ok [] mixed rfl ?_; conv => whnf)
 | (refine W.ret ?_; conv => whnf)
 | (refine W.skip ?_; conv => whnf)
 | (refine W.exit ?_; conv => whnf)
 | (refine W.cond rfl (fun hb => ?_) (fun hb => ?_) <;> (try simp only [zr, zd, zm, minL, maxL, pickB, zA] at hb) <;> (try (first | (cases hb; done) | exact absurd hb (by decide) | (exfalso; omega) | (omega))))
 | ((with_reducible refine And.intro ?_ ?_); exact zc; conv => whnf)
 | ((with_reducible refine And.intro (Side.out ?_) ?_); rotate_left; (conv => whnf))
 | ((first | refine retM1 ?_ | refine retM2 ?_) <;> (conv => whnf) <;> repeat' (first
 | exact trivial
 | (with_reducible rfl)
 | ((with_reducible refine And.intro ?_ ?_) <;> conv => whnf)
 | omega
 | rfl
 | (refine congrArg (SV.arr _) ?_)
 | (refine congrArg (Value.int _) ?_)
 | (refine congrArg Value.bool ?_)))); all_goals (try unfold Side)
     all_goals try (repeat' (first | exact zb | with_reducible refine And.intro ?_ ?_))
     all_goals exact e5
end Go.Proofs.Ytkjcnegkdlmapaa
namespace Go.Rg
abbrev Dn := List We × List (List Nt) × Int
def wN (ws : List We) (i : Nat) : Int := (ws.getD i W0).1
def wV (ws : List We) (i : Nat) : Int := (ws.getD i W0).2.1
def wO (ws : List We) (i : Nat) : Int := (ws.getD i W0).2.2.1
def wL (ws : List We) (i : Nat) : Int := (ws.getD i W0).2.2.2.1
def wB (ws : List We) (i : Nat) : Bool := (ws.getD i W0).2.2.2.2.1
def wP (ws : List We) (i : Nat) : Bool := (ws.getD i W0).2.2.2.2.2.1
def wS (ws : List We) (i : Nat) : Bool := (ws.getD i W0).2.2.2.2.2.2.1
def dB (ws : List We) (i : Nat) : List We := ws.set i (wN ws i, wV ws i, wO ws i, wL ws i, true, wP ws i, wS ws i, ())
def dL (ws : List We) (i : Nat) (v : Int) : List We := ws.set i (wN ws i, wV ws i, wO ws i, v, wB ws i, wP ws i, wS ws i, ())
def dNo (ws : List We) (i : Nat) (v : Int) : List We := ws.set i (wN ws i, wV ws i, v, wL ws i, wB ws i, wP ws i, true, ())
def dV (ws : List We) (i : Nat) : List We := ws.set i (wN ws i, wO ws i, wO ws i, wL ws i, wB ws i, wP ws i, false, ())
def dR (ws : List We) (i : Nat) : List We := ws.set i (wN ws i, wV ws i, wO ws i, wL ws i, wB ws i, true, wS ws i, ())
def sendD (i : Nat) (k v : Int) (d : Dn) : Dn := (d.1, d.2.1.set i (d.2.1.getD i [] ++ [(k, v, ())]), d.2.2 + 1)
def beginD (i : Nat) (d : Dn) : Dn := sendD i 1 (wV d.1 i) (dB d.1 i, d.2)
def learnD (i : Nat) (v : Int) (d : Dn) : Dn := sendD i 3 v (dL d.1 i v, d.2)
def changD (i : Nat) (k v : Int) (d : Dn) : Dn :=
 if (k = 3 ∧ v ≠ wN d.1 i) ∨ (k = 1 ∧ v = wN d.1 i) then learnD i v d
 else if k = 1 ∧ wN d.1 i < v then sendD i 1 v (dB d.1 i, d.2)
 else if k = 1 ∧ wB d.1 i = false then beginD i d else d
def peterT (i : Nat) (k v : Int) (d : Dn) : Dn :=
 if k = 3 then (if wL d.1 i = 0 then learnD i v d else d)
 else if wP d.1 i = true then sendD i k v d
 else if k = 1 ∧ v = wV d.1 i then learnD i v d
 else if k = 1 then sendD i 2 v (dNo d.1 i v, d.2)
 else if wV d.1 i < wO d.1 i ∧ v < wO d.1 i then sendD i 1 (wO d.1 i) (dV d.1 i, d.2)
 else (dR d.1 i, d.2)
def wakeD (i : Nat) (d : Dn) : Dn := if wB d.1 i = true then d else beginD i d
def peterD (i : Nat) (k v : Int) (d : Dn) : Dn := peterT i k v (wakeD i d)
def recvD (pet : Bool) (i : Nat) (k v : Int) (d : Dn) : Dn := if pet = true then peterD i k v d else changD i k v d
def delD (pet : Bool) (i : Nat) (d : Dn) : Dn :=
 recvD pet ((i + 1) % d.1.length) ((d.2.1.getD i []).getD 0 N0).1 ((d.2.1.getD i []).getD 0 N0).2.1 (d.1, d.2.1.set i ((d.2.1.getD i []).drop 1), d.2.2)
def cvD (r : Rn) : Dn := (r.1.map cv, r.2)
variable {r : Rn} {i : Nat} {k v : Int}
theorem cv_get {ps : List Pe} {i : Nat} (hi : i < ps.length) : (ps.map cv).getD i W0 = cv (ps.getD i P0) := by
 rw [List.getD_eq_getElem?_getD, List.getElem?_map, List.getElem?_eq_getElem hi, List.getD_eq_getElem?_getD, List.getElem?_eq_getElem hi]; rfl
theorem cv_set {ps : List Pe} {i : Nat} {x : Pe} : (ps.set i x).map cv = (ps.map cv).set i (cv x) := by rw [List.map_set]
theorem begin_cv (hi : i < r.1.length) : beginD i (cvD r) = cvD (beginR i r) := by
 have e := cv_get hi
 unfold beginD beginR cvD sendD sendR dB setB
 dsimp only
 rw [cv_set]
 unfold wN wV wO wL wP wS
 rw [e]; rfl
theorem learn_cv (hi : i < r.1.length) : learnD i v (cvD r) = cvD (sendR i 3 v (setL r.1 i v, r.2)) := by
 have e := cv_get hi
 unfold learnD cvD sendD sendR dL setL
 dsimp only
 rw [cv_set]
 unfold wN wV wO wB wP wS
 rw [e]; rfl
theorem pass_cv (hi : i < r.1.length) : sendD i k v (dB (r.1.map cv) i, r.2) = cvD (sendR i k v (setB r.1 i, r.2)) := by
 have e := cv_get hi
 unfold cvD sendD sendR dB setB
 dsimp only
 rw [cv_set]
 unfold wN wV wO wL wP wS
 rw [e]; rfl
theorem chang_cv (hi : i < r.1.length) (hk : k = 1 ∨ k = 3) : changD i k v (cvD r) = cvD (changR i k v r) := by
 have e := cv_get hi
 have eN : wN (cvD r).1 i = pN r.1 i := by unfold wN cvD; rw [e]; rfl
 have eB : wB (cvD r).1 i = pB r.1 i := by unfold wB cvD; rw [e]; rfl
 unfold changD changR
 rw [eN, eB]
 rcases hk with rfl | rfl
 · rw [if_neg (show ¬ (1 : Int) = 3 by decide)]
   by_cases c1 : v = pN r.1 i
   · rw [if_pos (.inr ⟨rfl, c1⟩), if_pos c1]; exact learn_cv hi
   · rw [if_neg (fun c => c.elim (fun c => absurd c.1 (by decide)) fun c => c1 c.2), if_neg c1]
     by_cases c2 : pN r.1 i < v
     · rw [if_pos ⟨rfl, c2⟩, if_pos c2]; exact pass_cv hi
     · rw [if_neg (fun c => c2 c.2), if_neg c2]
       by_cases c3 : pB r.1 i = true
       · rw [if_neg (fun c => by rw [c3] at c; cases c.2), if_pos c3]
       · rw [if_pos ⟨rfl, by simpa using c3⟩, if_neg c3]; exact begin_cv hi
 · rw [if_pos rfl]
   by_cases c1 : v = pN r.1 i
   · rw [if_pos c1, if_neg (fun c => c.elim (fun c => c.2 c1) fun c => absurd c.1 (by decide)), if_neg (fun c => absurd c.1 (by decide)), if_neg (fun c => absurd c.1 (by decide))]
   · rw [if_neg c1, if_pos (.inl ⟨rfl, c1⟩)]; exact learn_cv hi
theorem peterT_cv (hi : i < r.1.length) : peterT i k v (cvD r) = cvD (peterS i k v r) := by
 have e := cv_get hi
 have eV : wV (cvD r).1 i = pV r.1 i := by unfold wV cvD; rw [e]; rfl
 have eO : wO (cvD r).1 i = pO r.1 i := by unfold wO cvD; rw [e]; rfl
 have eL : wL (cvD r).1 i = pL r.1 i := by unfold wL cvD; rw [e]; rfl
 have eP : wP (cvD r).1 i = pR r.1 i := by unfold wP cvD; rw [e]; rfl
 unfold peterT peterS
 rw [eV, eO, eL, eP]
 by_cases k3 : k = 3
 · rw [if_pos k3, if_pos k3]
   split
   · rw [k3]; exact learn_cv hi
   · rfl
 · rw [if_neg k3, if_neg k3]
   by_cases c1 : pR r.1 i = true
   · rw [if_pos c1, if_pos c1]; rfl
   · rw [if_neg c1, if_neg c1]
     by_cases k1 : k = 1
     · by_cases c2 : v = pV r.1 i
       · rw [if_pos ⟨k1, c2⟩, if_pos k1, if_pos c2]; exact learn_cv hi
       · rw [if_neg (fun c : k = 1 ∧ v = pV r.1 i => c2 c.2), if_pos k1, if_pos k1, if_neg c2]
         unfold cvD sendD sendR dNo setNo
         dsimp only
         rw [cv_set]
         unfold wN wV wL wB wP
         rw [e]; rfl
     · rw [if_neg (fun c : k = 1 ∧ v = pV r.1 i => k1 c.1), if_neg k1, if_neg k1]
       split
       · unfold cvD sendD sendR dV setV
         dsimp only
         rw [cv_set]
         unfold wN wO wL wB wP
         rw [e]; rfl
       · unfold cvD dR setR
         dsimp only
         rw [cv_set]
         unfold wN wV wO wL wB wS
         rw [e]; rfl
theorem wake_cv (hi : i < r.1.length) : wakeD i (cvD r) = cvD (wakeR i r) := by
 have e := cv_get hi
 have eB : wB (cvD r).1 i = pB r.1 i := by unfold wB cvD; rw [e]; rfl
 unfold wakeD wakeR
 rw [eB]
 split
 · rfl
 · exact begin_cv hi
theorem wake_len : (wakeR i r).1.length = r.1.length := by
 unfold wakeR
 split
 · rfl
 · show (setB r.1 i).length = _; exact setB_len
theorem recv_cv {pet : Bool} (hi : i < r.1.length) (hk : pet = false → k = 1 ∨ k = 3) : recvD pet i k v (cvD r) = cvD (recvR pet i k v r) := by
 unfold recvD recvR
 split
 · unfold peterD peterR
   rw [wake_cv hi]
   exact peterT_cv (by rw [wake_len]; exact hi)
 · rename_i c
   exact chang_cv hi (hk (by simpa using c))
theorem del_cv {pet : Bool} {n : Nat} (h : ROk n pet r) (hi : i < n) (hne : (r.2.1.getD i []).length ≠ 0) : delD pet i (cvD r) = cvD (rdelL pet i r) := by
 unfold delD rdelL
 have e : (cvD r).1.length = r.1.length := by unfold cvD; rw [List.length_map]
 rw [e]
 exact recv_cv (r := (r.1, r.2.1.set i ((r.2.1.getD i []).drop 1), r.2.2)) (by rw [h.len]; exact Nat.mod_lt _ h.n0) fun hp => h.head hne hp
end Go.Rg
namespace Go.Vc
def RegW (P : Program) (n : Nat) (ops : Array Oper) (i : Nat) (Γ : Sy) (Q : Exit → Sy → Prop) : Prop :=
 ∀ (c : Cx) (g : Nat → Value) (a : Act) (w : World), c.n = n → St c Γ g a w → wpOps P ops (fun e a' w' => ∃ Γ' g', Q e Γ' ∧ St c Γ' g' a' w') (List.range' i (ops.size - i)) a w
theorem W.regW {P : Program} {n : Nat} {Q : Exit → Sy → Prop} {Γ : Sy} {id : Nat} {ops : Array Oper} (h : RegW P n ops 0 Γ Q) : W P n (.region id ops false) Γ Q := by
 refine ⟨fun c g a w hn hst => wp_region ?_⟩
 rw [List.range_eq_range']
 exact h c g a w hn hst
theorem RegW.fin {P : Program} {n : Nat} {Q : Exit → Sy → Prop} {Γ : Sy} {T : List (Nat × TE)} (hT : TOk P T) (F Ms : List Nat) {ops : Array Oper} {i : Nat} (h : seqM P T F Ms n ops (ops.toList.drop i) i Γ (Q .normal)) : RegW P n ops i Γ Q := by
 intro c g a w hn hst
 subst hn
 have := seqM_sound (c := c) (ops := ops) (Q := fun e a' w' => ∃ Γ' g', Q e Γ' ∧ St c Γ' g' a' w') hT (fun Γ' g' a' w' h1 h2 => ⟨Γ', g', h1, h2⟩) (ops.toList.drop i) i Γ g a w rfl h hst
 simpa using this
theorem RegW.cut {P : Program} {n : Nat} {Q : Exit → Sy → Prop} {Γ : Sy} {T : List (Nat × TE)} (hT : TOk P T) (F Ms : List Nat) {ops : Array Oper} {i : Nat} (k : Nat) (Γ2 : Sy) (hk : (Nat.ble i k && Nat.ble k ops.size) = true)
  (h : seqM P T F Ms n ops ((ops.toList.drop i).take (k - i)) i Γ fun Γ1 => Leaf (Sub Γ1 Γ2 (mkRen Γ1 Γ2))) (h2 : RegW P n ops k Γ2 Q) : RegW P n ops i Γ Q := by
 intro c g a w hn hst
 subst hn
 rw [Bool.and_eq_true] at hk
 have h3 := Nat.le_of_ble_eq_true hk.1
 have h4 := Nat.le_of_ble_eq_true hk.2
 have hl : ((ops.toList.drop i).take (k - i)).length = k - i := by rw [List.length_take, List.length_drop, Array.length_toList]; omega
 have e : List.range' i (ops.size - i) = List.range' i ((ops.toList.drop i).take (k - i)).length ++ List.range' k (ops.size - k) := by
  rw [hl]
  have := List.range'_append (s := i) (m := k - i) (n := ops.size - k) (step := 1)
  rw [show i + 1 * (k - i) = k by omega, show k - i + (ops.size - k) = ops.size - i by omega] at this
  exact this.symm
 rw [e]
 exact seqM_app (K := fun Γ1 => Leaf (Sub Γ1 Γ2 (mkRen Γ1 Γ2))) hT (fun Γ' g' a' w' h5 h6 => h2 c _ a' w' rfl (Sub.st h5.1 h6)) _ i Γ g a w ⟨(ops.toList.drop i).drop (k - i), (List.take_append_drop _ _).symm⟩ h hst
theorem RegW.go {P : Program} {n : Nat} {Q : Exit → Sy → Prop} {Γ : Sy} {T : List (Nat × TE)} (hT : TOk P T) (F Ms : List Nat) {ops : Array Oper} {i : Nat} (k : Nat) (hk : (Nat.ble i k && Nat.ble k ops.size) = true)
  (h : seqM P T F Ms n ops ((ops.toList.drop i).take (k - i)) i Γ fun Γ1 => RegW P n ops k Γ1 Q) : RegW P n ops i Γ Q := by
 intro c g a w hn hst
 subst hn
 rw [Bool.and_eq_true] at hk
 have h3 := Nat.le_of_ble_eq_true hk.1
 have h4 := Nat.le_of_ble_eq_true hk.2
 have hl : ((ops.toList.drop i).take (k - i)).length = k - i := by rw [List.length_take, List.length_drop, Array.length_toList]; omega
 have e : List.range' i (ops.size - i) = List.range' i ((ops.toList.drop i).take (k - i)).length ++ List.range' k (ops.size - k) := by
  rw [hl]
  have := List.range'_append (s := i) (m := k - i) (n := ops.size - k) (step := 1)
  rw [show i + 1 * (k - i) = k by omega, show k - i + (ops.size - k) = ops.size - i by omega] at this
  exact this.symm
 rw [e]
 exact seqM_app (K := fun Γ1 => RegW P c.n ops k Γ1 Q) hT (fun Γ' g' a' w' h5 h6 => h5 c g' a' w' rfl h6) _ i Γ g a w ⟨(ops.toList.drop i).drop (k - i), (List.take_append_drop _ _).symm⟩ h hst
theorem RegW.skip {P : Program} {n : Nat} {Q : Exit → Sy → Prop} {Γ : Sy} {ops : Array Oper} {i : Nat} {o : Oper} {G : Path} {t : Nat} (ho : ops[i]? = some o) (hG : guardOf (dstsOf ops) Γ o.guard = some G) (hno : ¬ G.ok) (ht : o.dst = some t) (hlt : Nat.blt t n = true) (A : AV)
  (h : RegW P n ops (i + 1) (Γ.putB t (gd' G A)) Q) : RegW P n ops i Γ Q := by
 intro c g a w hn hst
 subst hn
 have hi : i < ops.size := (Array.getElem?_eq_some_iff.1 ho).1
 have e : List.range' i (ops.size - i) = i :: List.range' (i + 1) (ops.size - (i + 1)) := by
  rw [show ops.size - i = ops.size - (i + 1) + 1 by omega, List.range'_succ]
 rw [e, wpOps_cons]
 unfold wpOp
 rw [ho]
 dsimp only
 rw [if_neg (fun h => hno ((guardOf.wanted (ops := ops) hst hG).1 h)), ht]
 refine h c g _ w rfl ((hst.put (Nat.le_of_ble_eq_true hlt) (A := gd' G A) ?_).congr (fun _ => rfl) (fun _ => rfl))
 cases G with
 | nil => exact absurd trivial hno
 | cons x r => exact ⟨fun h => absurd h hno, fun _ => rfl⟩
abbrev Phc := List (List Nat × Nat × Nat × Option Sy)
def plainPh : Phc → List (List Nat × Nat × Nat)
 | [] => []
 | x :: r => (x.1, x.2.1, x.2.2.1) :: plainPh r
theorem updg_same {g : Nat → Value} {k : Nat} : updg g k (g k) = g := funext fun j => by
 unfold updg
 split
 · rename_i e; rw [e]
 · rfl
def Sy.nilM (Γ : Sy) (d k j e e' : Nat) (τ : Ty) (l : List AV) : Sy := ⟨(Γ.drop d).tmps, (k, .box (l.set j (.mown d))) :: (d, .mat e e' τ true [] none) :: (Γ.drop d).own⟩
theorem OwnOk.nilmat {w : World} {base e e' : Nat} {O O0 : Nat → Prop} {g : Nat → Value} {τ : Ty} : OwnOk w base O O0 g (.slice none 0 0) (.mat e e' τ true [] none) := by
 have hr : ∀ (e size : Nat), w.ownsRow base e size (.slice none 0 0) 0 [] := fun e size => ⟨(Nat.zero_mul size).symm, .inl ⟨rfl, rfl⟩⟩
 refine ⟨⟨[], hr e 1, (fun x hx => by cases hx), fun i hi => absurd hi (Nat.not_lt_zero _)⟩, fun i => ?_, (fun i j b h _ => by cases h), (fun i b h => by cases h)⟩
 refine ⟨[], (by have := hr e' τ.size; simpa [sub] using this), (fun x hx => by cases hx), fun _ => undef, fun i hi => ?_, fun i x hx => ?_⟩
 · simp at hi
 · simp at hx
theorem St.nilM {c : Cx} {Γ : Sy} {g : Nat → Value} {a : Act} {w : World} (h : St c Γ g a w) {d k j e e' : Nat} {τ : Ty} {l : List AV} (hd : d % PK2 < PK) (hk : get? (Γ.drop d).own k = some (.box l)) (hne : Nat.beq d k = false) (hj : l[j]? = some (.lit (.slice none 0 0))) :
    ∃ g', St c (Γ.nilM d k j e e' τ l) g' a w := by
  have h1 := h.drop d
  have h2 := h1.adopt (Keep.refl w) (N := [(d, .mat e e' τ true [] none)]) (gN := fun _ => .slice none 0 0) (fun k' o hk' => by
      simp only [get?] at hk'
      split at hk'
      · rename_i hb; rw [← Nat.eq_of_beq_eq_true hb]; exact Γ.drop_free d hd
      · cases hk') (fun k' o b hk' hb => (Blk.nil hb).elim) (fun k1 k2 o1 o2 b _ _ hb => (Blk.nil hb).elim) (fun k' o hk' => by
      simp only [get?] at hk'
      split at hk'
      · cases hk'; exact OwnOk.nilmat
      · cases hk')
  obtain ⟨g2, hg2⟩ : ∃ g2, g2 = mg [(d, Ob.mat e e' τ true [] none)] (fun _ => .slice none 0 0) g := ⟨_, rfl⟩
  rw [← hg2] at h2
  have hgd : g2 d = .slice none 0 0 := by rw [hg2]; simp [mg, get?]
  have hk2 : get? ([(d, Ob.mat e e' τ true [] none)] ++ (Γ.drop d).own) k = some (.box l) := by
    show (match Nat.beq d k with | true => _ | false => get? (Γ.drop d).own k) = _
    rw [hne]; exact hk
  refine ⟨g2, ?_⟩
  have h3 := h2.writeB (w' := w) hk2 (v' := g2 k) (o' := .box (l.set j (.mown d))) rfl rfl rfl (Nat.le_refl _) (fun _ _ _ => rfl) ⟨fun t A _ => by rw [updg_same]; exact Go.Vc.same_of fun _ _ => rfl, fun i o _ _ => by rw [updg_same]; exact Ob.same_of fun _ _ => rfl⟩ (fun b hb => .inl hb) ?_ (.inr rfl)
  · rw [updg_same] at h3
    exact h3
  · rw [updg_same]
    obtain ⟨b, arr, e1, g1, g3, g4, g5, g6⟩ := h2.hp.ok k _ hk2
    refine ⟨b, arr, e1, g1, g3, g4, by rw [List.length_set]; exact g5, fun i B hB => ?_⟩
    have hO : ∀ b, Oset (set ([(d, Ob.mat e e' τ true [] none)] ++ (Γ.drop d).own) k (.box (l.set j (.mown d)))) g2 b → Oset ([(d, Ob.mat e e' τ true [] none)] ++ (Γ.drop d).own) g2 b := by
      rintro b ⟨j', o', q1, q2⟩
      rw [get?_set] at q1
      split at q1
      · rename_i e3; rw [e3] at q2; exact ⟨k, _, hk2, q2⟩
      · exact ⟨j', o', q1, q2⟩
    rw [List.getElem?_set] at hB
    split at hB
    · rename_i hij
      subst hij
      split at hB
      · cases hB
        obtain ⟨x, q1, q2, q3⟩ := g6 j _ hj
        have q3 : x = .slice none 0 0 ∧ _ := q3
        refine ⟨x, q1, q2, ?_⟩
        show x = Go.Vc.hd (g2 d)
        rw [hgd, q3.1]; rfl
      · cases hB
    · obtain ⟨x, q1, q2, q3⟩ := g6 i B hB
      exact ⟨x, q1, q2, q3.mono (fun b x e fz hb hn => ⟨hb, fun h' => hn (hO b h')⟩) (fun _ _ _ _ _ _ h => h) (fun _ _ => rfl)⟩
theorem W.nilM {P : Program} {n : Nat} {Q : Exit → Sy → Prop} {Γ : Sy} {x : Code} (d k j e e' : Nat) (τ : Ty) {l : List AV} (hd : Nat.blt (d % PK2) PK = true) (hk : get? (Γ.drop d).own k = some (.box l)) (hne : Nat.beq d k = false) (hj : l[j]? = some (.lit (.slice none 0 0))) (h : W P n x (Γ.nilM d k j e e' τ l) Q) : W P n x Γ Q :=
 ⟨fun c g a w hn hst => by
  obtain ⟨g', h1⟩ := hst.nilM (e := e) (e' := e') (τ := τ) (Nat.le_of_ble_eq_true hd) hk hne hj
  exact h.out c g' a w hn h1⟩
def Own1 (Γ : Sy) (g : Nat → Value) (k b : Nat) : Prop := (∃ o, get? Γ.own k = some o) ∧ Blk (g k) b
def Sy.merge (Γ : Sy) (k k2 : Nat) (o' : Ob) : Sy := ⟨((Γ.only k).drop k2).tmps, (k, o') :: ((Γ.only k).drop k2).own⟩
theorem St.merge {c : Cx} {Γ : Sy} {g : Nat → Value} {a : Act} {w w' : World} (h : St c Γ g a w) {k k2 : Nat} {o' : Ob} {v' : Value} (hlow : k % PK2 < PK)
  (h1 : w'.os = w.os) (h2 : w'.tape = w.tape) (h3 : w'.output = w.output) (h4 : w.heap.size ≤ w'.heap.size) (hw : ∀ b, b < w.heap.size → ¬ Own1 Γ g k b → w'.heap[b]? = w.heap[b]?)
  (hv : ∀ b, Blk v' b → Own1 Γ g k b ∨ Own1 Γ g k2 b ∨ w.heap.size ≤ b)
  (ho : OwnOk w' 0 (Oset (Γ.merge k k2 o').own (updg g k v')) c.O0 (updg g k v') v' o') : St c (Γ.merge k k2 o') (updg g k v') a w' := by
 have hs := h.only k
 have own1 : ∀ j o, get? (Γ.only k).own j = some o → ∃ o0, get? Γ.own j = some o0 ∧ o = o0.purge k := fun j o hj => by
  simp only [Sy.only, get?_mapv] at hj
  obtain ⟨o0, q1, q2⟩ := Option.map_eq_some_iff.1 hj
  exact ⟨o0, q1, q2.symm⟩
 have own1' : ∀ j o, get? Γ.own j = some o → get? (Γ.only k).own j = some (o.purge k) := fun j o hj => by
  simp only [Sy.only, get?_mapv, hj, Option.map_some]
 have own2 : ∀ j o, get? (Γ.merge k k2 o').own j = some o → (j = k ∧ o = o') ∨ (j ≠ k ∧ j ≠ k2 ∧ ∃ o0, get? (Γ.only k).own j = some o0 ∧ o = o0.purge k2) := fun j o hj => by
  simp only [Sy.merge, get?] at hj
  split at hj
  · rename_i hb
    cases hj
    exact .inl ⟨(Nat.eq_of_beq_eq_true hb).symm, rfl⟩
  · rename_i hb
    have hjk : j ≠ k := fun e => by rw [e, Nat.beq_refl] at hb; cases hb
    simp only [Sy.drop, get?_mapv, get?_del] at hj
    split at hj
    · cases hj
    · rename_i hne
      obtain ⟨o0, q1, q2⟩ := Option.map_eq_some_iff.1 hj
      exact .inr ⟨hjk, hne, o0, q1, q2.symm⟩
 have one_set : ∀ j b, Own1 Γ g j b → Oset (Γ.only k).own g b := fun j b hb => by
  obtain ⟨⟨o, q1⟩, q2⟩ := hb
  exact ⟨j, _, own1' j o q1, q2⟩
 have hO : ∀ b, b < w.heap.size → Oset (Γ.merge k k2 o').own (updg g k v') b → Oset (Γ.only k).own g b := by
  rintro b hlt ⟨j, o, q1, q2⟩
  rcases own2 j o q1 with ⟨rfl, rfl⟩ | ⟨hj, _, o0, q3, _⟩
  · simp only [updg, if_true] at q2
    rcases hv b q2 with q | q | q
    · exact one_set _ b q
    · exact one_set _ b q
    · omega
  · simp only [updg, hj, if_false] at q2
    exact ⟨j, o0, q3, q2⟩
 have hmono : ∀ b x e fz, w.heap[b]? = some (.cells x e fz) → ¬ Oset (Γ.only k).own g b → w'.heap[b]? = some (.cells x e fz) ∧ ¬ Oset (Γ.merge k k2 o').own (updg g k v') b := fun b x e fz hb hn =>
  ⟨(hw b (heap_lt hb) fun q => hn (one_set _ b q)).trans hb, fun h' => hn (hO b (heap_lt hb) h')⟩
 refine hs.change ⟨h1.trans hs.keep.os, h2.trans hs.keep.tape, h3.trans hs.keep.output, Nat.le_trans hs.keep.size h4, fun b hb hn => ?_⟩ hmono (fun t A' hA => ?_) ⟨fun j o hj => ?_, fun j j' o1 o2 b hj hj' hb hb' => ?_⟩ (fun b hb => ?_) (fun j hj => ?_)
 · have hlt : b < w.heap.size := Nat.lt_of_lt_of_le hb hs.keep.size
   rw [hw b hlt fun q => ?_]
   · exact hs.keep.b b hb hn
   · rcases hs.low b (one_set _ b q) with q2 | q2
     · omega
     · exact hn q2
 · simp only [Sy.merge, Sy.drop, get?_mapv] at hA
   obtain ⟨A0, q1, rfl⟩ := Option.map_eq_some_iff.1 hA
   rcases AV.purge_key k2 A0 with q | ⟨q, _⟩
   · exact .inl q
   · rw [q]
     refine .inr ⟨q1, fun j hj => ?_⟩
     simp only [Sy.only, get?_mapv] at q1
     obtain ⟨A1, _, rfl⟩ := Option.map_eq_some_iff.1 q1
     rcases AV.purge_key k A1 with p | ⟨p, p2⟩
     · rw [p] at hj; cases hj
     · rw [p] at hj
       unfold updg
       split
       · rename_i e; rw [e, p2] at hj; cases hj
       · rfl
 · rcases own2 j o hj with ⟨rfl, rfl⟩ | ⟨hjk, hj2, o0, q3, rfl⟩
   · simp only [updg, if_true]; exact ho
   · have e : updg g k v' j = g j := by simp only [updg, hjk, if_false]
     rw [e]
     have hok := hs.hp.ok j o0 q3
     refine (hok.mono hmono (fun _ _ _ _ _ _ h => h) (fun b hb => hw b (hok.lt hb).2 fun q => ?_) fun i hi => ?_).purge
     · obtain ⟨⟨oo, p1⟩, p2⟩ := q
       exact hjk (hs.hp.inj j k _ _ b q3 (own1' k oo p1) hb p2)
     · obtain ⟨o00, _, rfl⟩ := own1 j o0 q3
       unfold updg
       split
       · rename_i e; rw [e, Ob.purge_no] at hi; cases hi
       · rfl
 · rcases own2 j o1 hj with ⟨rfl, rfl⟩ | ⟨hjk, hj2, p1, q3, rfl⟩ <;> rcases own2 j' o2 hj' with ⟨rfl, rfl⟩ | ⟨hjk', hj2', p2, q4, rfl⟩
   · rfl
   · simp only [updg, if_true] at hb
     simp only [updg, hjk', if_false] at hb'
     rcases hv b hb with q | q | q
     · obtain ⟨⟨oo, r1⟩, r2⟩ := q
       exact absurd (hs.hp.inj j' _ _ _ b q4 (own1' _ oo r1) hb' r2) hjk'
     · obtain ⟨⟨oo, r1⟩, r2⟩ := q
       exact absurd (hs.hp.inj j' _ _ _ b q4 (own1' _ oo r1) hb' r2) hj2'
     · have := ((hs.hp.ok j' _ q4).lt hb').2
       omega
   · simp only [updg, if_true] at hb'
     simp only [updg, hjk, if_false] at hb
     rcases hv b hb' with q | q | q
     · obtain ⟨⟨oo, r1⟩, r2⟩ := q
       exact absurd (hs.hp.inj j _ _ _ b q3 (own1' _ oo r1) hb r2) hjk
     · obtain ⟨⟨oo, r1⟩, r2⟩ := q
       exact absurd (hs.hp.inj j _ _ _ b q3 (own1' _ oo r1) hb r2) hj2
     · have := ((hs.hp.ok j _ q3).lt hb).2
       omega
   · simp only [updg, hjk, if_false] at hb
     simp only [updg, hjk', if_false] at hb'
     exact hs.hp.inj j j' _ _ b q3 q4 hb hb'
 · by_cases hlt : b < w.heap.size
   · exact .inl (hO b hlt hb)
   · exact .inr (Nat.le_trans hs.keep.size (by omega))
 · unfold updg
   split
   · rename_i e; rw [e] at hj; omega
   · rfl
theorem run_lit1 {P : Program} {t e : TypeId} {te : TE} (hu : P.underlying t = some (.slice e)) (he : te.ok P e) (h1 : te.size = 1) {zv : Value} (hz : te.zero.cells.size = 1) {v : Value} (hv : v.oneCell' = true) (w : World) :
  (Instr.buildSlice t 1 #[(0, v)]).run P w = .ok (.slice (some ⟨w.heap.size, 0, none⟩) 1 1) (w.alloc (.cells #[v] e)) := by
 obtain ⟨i0, hi, hzz, hs, hb⟩ := he.info
 have hsz : i0.size = 1 := by rw [hs]; exact h1
 have hvc : v.cells = #[v] := cells_one hv
 let cells0 : Array Value := (Array.range (1 * i0.size)).map fun k => (if 1 * i0.size = 0 then (#[] : Array Value) else te.zero.cells)[k % (if 1 * i0.size = 0 then (#[] : Array Value) else te.zero.cells).size]!
 have hc0 : cells0.size = 1 := by simp [cells0, hsz]
 obtain ⟨res, hr1, hr2, _, hr3⟩ := fill_seq 1 [v] 0 cells0 (fun u hu => by rw [List.mem_singleton] at hu; rw [hu, hvc]; rfl) (by rw [hc0]; simp)
 have hres : res = #[v] := by
  have q := hr3 0 v 0 rfl (by decide)
  rw [hvc] at q
  have q2 : res[0]? = some v := by simpa using q
  have q3 : res.size = 1 := by rw [hr2, hc0]
  apply Array.ext
  · rw [q3]; rfl
  · intro i h1 h2
    have hi0 : i = 0 := by omega
    subst hi0
    rw [Array.getElem?_eq_getElem h1] at q2
    simpa using q2
 have hfill : Instr.fill (fun i => some (i * i0.size, i0.size)) cells0 (#[((0 : Nat), v)] : Array (Nat × Value)).toList = some res := by rw [hsz]; exact hr1
 have hz0 : ¬ (1 * i0.size = 0) := by rw [hsz]; decide
 have hble : ¬ (1 * i0.size > 2 ^ 24) := by rw [hsz]; decide
 unfold Instr.buildSlice
 simp only [cells0, hz0, if_false] at hfill
 simp only [Sem.run_bind, run_underlying hu, Result.andThen_ok, sizeOf, typeInfo, run_program, hi, Sem.run_pure, hble, hz0, if_false, zeroValue, hzz]
 rw [hfill]
 simp [newRow, hres]
theorem RowOk.nil {w : World} {base e : Nat} {O O0 : Nat → Prop} {τ : Ty} {fr : Bool} : RowOk w base O O0 (.slice none 0 0) e τ fr [] := by
 refine ⟨[], ⟨(Nat.zero_mul _).symm, .inl ⟨rfl, rfl⟩⟩, (fun x hx => by cases hx), fun _ => undef, fun i hi => ?_, fun i x hx => ?_⟩
 · simp at hi
 · simp at hx
def mlitVC (T : List (Nat × TE)) (Γ : Sy) (n : Nat) (d : Nat) (t : TypeId) (k2 D : Nat) (K : Sy → Prop) : Prop := match get? T t with
  | some { kind := .sl e, .. } => match get? T e with
    | some te => match get? (Γ.drop d).own k2 with
      | some (.row e' τ fr xs) => (Nat.beq te.size 1 && Nat.beq te.zero.cells.size 1 && Nat.blt (d % PK2) PK && Nat.blt D n) = true ∧
          K ⟨set ((Γ.drop d).merge d k2 (.mat e e' τ fr [xs] none)).tmps D (.mown d), ((Γ.drop d).merge d k2 (.mat e e' τ fr [xs] none)).own⟩
      | _ => False
    | none => False
  | _ => False
theorem mlitVC.sound {P : Program} {T : List (Nat × TE)} (hT : TOk P T) {c : Cx} {o : Oper} {Γ : Sy} {d : Nat} {t : TypeId} {x : Operand} {k2 D : Nat} {K : Sy → Prop}
    (ho : o.op = .buildSlice t 1 #[(0, x)]) (hd : o.dst = some D) (hx : Ev c Γ [] x (.own k2)) (h : mlitVC T Γ c.n d t k2 D K) : ∃ Γ', Seq P c o Γ Γ' ∧ K Γ' := by
  unfold mlitVC at h
  split at h
  · rename_i e sz by_ ze ty ht
    have hu := (hT _ _ ht).sl rfl
    split at h
    · rename_i te hte
      have he := hT _ _ hte
      split at h
      · rename_i e' τ fr xs hk
        obtain ⟨hc, hK⟩ := h
        simp only [Bool.and_eq_true] at hc
        obtain ⟨⟨⟨c1, c2⟩, c3⟩, c4⟩ := hc
        refine ⟨_, ?_, hK⟩
        intro g a w next Q hst hkk
        have hv : a.eval x = g k2 := hx trivial Γ g a w rfl hst
        have hs1 := hst.drop d
        have hrow := hs1.hp.ok k2 _ hk
        have hone : (g k2).oneCell' = true := by
          obtain ⟨zs, ⟨_, hr⟩, _⟩ := hrow
          rcases hr with ⟨q, _⟩ | ⟨b, cap, cur, q, _⟩ <;> rw [q] <;> rfl
        have hrun := run_lit1 (P := P) hu he (Nat.eq_of_beq_eq_true c1) (zv := te.zero) (Nat.eq_of_beq_eq_true c2) hone w
        obtain ⟨v', hv'⟩ : ∃ v', v' = Value.tuple #[.slice (some ⟨w.heap.size, 0, none⟩) 1 1, g k2] := ⟨_, rfl⟩
        have hhd : Go.Vc.hd v' = .slice (some ⟨w.heap.size, 0, none⟩) 1 1 := by rw [hv']; rfl
        have hs0 : sub v' 0 = g k2 := by rw [hv']; rfl
        have hsn : ∀ i, i ≠ 0 → sub v' i = .slice none 0 0 := fun i hi => by
          rw [hv']
          show Array.getD _ (i + 1) _ = _
          rw [Array.getD_eq_getD_getElem?, Array.getElem?_eq_none (by simp; omega)]; rfl
        have hdk : k2 ≠ d := fun e => by
          rw [e] at hk
          have := (Γ.drop_free d (Nat.le_of_ble_eq_true c3)).2.2.1
          rw [this] at hk; cases hk
        have hbb : ∀ b, Blk v' b → b = w.heap.size ∨ Blk (g k2) b := by
          rintro b (q | ⟨i, q⟩)
          · rw [hhd] at q; cases q; exact .inl rfl
          · by_cases hi : i = 0
            · rw [hi, hs0] at q; exact .inr (.of q)
            · rw [hsn i hi] at q; cases q
        have hO : ∀ b, b < w.heap.size → Oset ((Γ.drop d).merge d k2 (.mat e e' τ fr [xs] none)).own (updg g d v') b → Oset (Γ.drop d).own g b := by
          rintro b hlt ⟨j, o', q1, q2⟩
          simp only [Sy.merge, get?] at q1
          split at q1
          · rename_i hb
            have hb := Nat.eq_of_beq_eq_true hb
            subst hb
            simp only [updg, if_true] at q2
            rcases hbb b q2 with q | q
            · omega
            · exact ⟨k2, _, hk, q⟩
          · rename_i hb
            have hjd : j ≠ d := fun e => by rw [e, Nat.beq_refl] at hb; cases hb
            simp only [updg, hjd, if_false] at q2
            simp only [Sy.drop, get?_mapv, get?_del] at q1
            split at q1
            · cases q1
            · obtain ⟨o0, q3, _⟩ := Option.map_eq_some_iff.1 q1
              simp only [Sy.only, get?_mapv] at q3
              obtain ⟨o1, q4, _⟩ := Option.map_eq_some_iff.1 q3
              refine ⟨j, o1, ?_, q2⟩
              simp only [Sy.drop, get?_mapv, get?_del] at q4 ⊢
              exact q4
        have key := hs1.merge (w' := w.alloc (.cells #[g k2] e)) (k := d) (k2 := k2) (o' := .mat e e' τ fr [xs] none) (v' := v') (Nat.le_of_ble_eq_true c3) rfl rfl rfl (Keep.alloc w _).size (fun b hb _ => (Keep.alloc w _).b b hb) (fun b hb => by
            rcases hbb b hb with q | q
            · exact .inr (.inr (by omega))
            · exact .inr (.inl ⟨⟨_, hk⟩, q⟩)) ?_
        · unfold Oper.wp
          have hex : (execOp a.eval o).run P w = .ok (.value (.slice (some ⟨w.heap.size, 0, none⟩) 1 1)) (w.alloc (.cells #[g k2] e)) := by
            rw [← hv] at hrun
            simp only [execOp, ho, Sem.run_bind]
            have : ((#[(0, x)] : Array (Nat × Operand)).map fun (i, x) => (i, a.eval x)) = #[(0, a.eval x)] := by simp
            rw [this, hrun]
            rw [hv]; rfl
          rw [hex]
          refine hkk (updg g d v') (a.put o.dst (.slice (some ⟨w.heap.size, 0, none⟩) 1 1)) _ ?_
          rw [hd]
          exact key.put (t := D) (A := .mown d) (Nat.le_of_ble_eq_true c4) (show _ = Go.Vc.hd (updg g d v' d) by simp [updg, hhd])
        · have hmono : ∀ b x e0 fz, w.heap[b]? = some (.cells x e0 fz) → ¬ Oset (Γ.drop d).own g b → (w.alloc (.cells #[g k2] e)).heap[b]? = some (.cells x e0 fz) ∧ ¬ Oset ((Γ.drop d).merge d k2 (.mat e e' τ fr [xs] none)).own (updg g d v') b := fun b x e0 fz hb hn =>
            ⟨((Keep.alloc w _).b b (heap_lt hb)).trans hb, fun h' => hn (hO b (heap_lt hb) h')⟩
          refine ⟨⟨[g k2], ?_, fun x hx => by rw [List.mem_singleton] at hx; rw [hx]; exact hone, fun i hi _ => ?_⟩, fun i => ?_, fun i j b q1 q2 => ?_, fun i b q1 q2 => ?_⟩
          · rw [hhd]
            refine ⟨rfl, .inr ⟨w.heap.size, 1, #[g k2], rfl, Nat.zero_le _, heap_alloc_new w _, Nat.le_refl _, by unfold maxLen; omega, rfl, rfl⟩⟩
          · have hi0 : i = 0 := by have hi : i < 1 := hi; omega
            subst hi0
            rw [hs0]; rfl
          · by_cases hi : i = 0
            · subst hi
              rw [hs0]
              exact RowOk.mono hmono (fun _ _ _ _ _ _ h => h) (fun b hb => (Keep.alloc w _).b b ((hs1.hp.ok k2 _ hk).lt (.of hb)).2) hrow
            · rw [hsn i hi]
              have : ([xs] : List (List τ.T)).getD i [] = [] := by
                cases i with
                | zero => exact absurd rfl hi
                | succ i => rfl
              rw [this]
              exact RowOk.nil
          · by_cases hi : i = 0
            · by_cases hj : j = 0
              · rw [hi, hj]
              · rw [hsn j hj] at q2; cases q2
            · rw [hsn i hi] at q1; cases q1
          · rw [hhd] at q2
            cases q2
            by_cases hi : i = 0
            · rw [hi, hs0] at q1
              exact absurd (OwnOk.lt hrow (.of q1)).2 (Nat.lt_irrefl _)
            · rw [hsn i hi] at q1; cases q1
      · exact h.elim
    · exact h.elim
  · exact h.elim
theorem merge_set {Γ : Sy} {g : Nat → Value} {w : World} {k k2 : Nat} {o' : Ob} {v' : Value} (hv : ∀ b, Blk v' b → Own1 Γ g k b ∨ Own1 Γ g k2 b ∨ w.heap.size ≤ b) {b : Nat} (hlt : b < w.heap.size)
  (h : Oset (Γ.merge k k2 o').own (updg g k v') b) : Oset Γ.own g b := by
 obtain ⟨j, o, q1, q2⟩ := h
 simp only [Sy.merge, get?] at q1
 split at q1
 · rename_i hb
   have hb := Nat.eq_of_beq_eq_true hb
   subst hb
   simp only [updg, if_true] at q2
   rcases hv b q2 with q | q | q
   · obtain ⟨⟨oo, r1⟩, r2⟩ := q; exact ⟨_, oo, r1, r2⟩
   · obtain ⟨⟨oo, r1⟩, r2⟩ := q; exact ⟨_, oo, r1, r2⟩
   · omega
 · rename_i hb
   have hjk : j ≠ k := fun e => by rw [e, Nat.beq_refl] at hb; cases hb
   simp only [updg, hjk, if_false] at q2
   simp only [Sy.drop, get?_mapv, get?_del] at q1
   split at q1
   · cases q1
   · obtain ⟨o0, q3, _⟩ := Option.map_eq_some_iff.1 q1
     simp only [Sy.only, get?_mapv] at q3
     obtain ⟨o1, q4, _⟩ := Option.map_eq_some_iff.1 q3
     exact ⟨j, o1, q4, q2⟩
theorem mkTup (v1 : Value) (n : Nat) (f : Nat → Value) : ∃ v', Go.Vc.hd v' = v1 ∧ (∀ i, i < n → sub v' i = f i) ∧ ∀ i, n ≤ i → sub v' i = .slice none 0 0 := by
 refine ⟨.tuple (#[v1] ++ (Array.range n).map f), ?_, fun i hi => ?_, fun i hi => ?_⟩
 · have h1 : ∀ (x : Value) (l : Array Value), Go.Vc.hd (.tuple (#[x] ++ l)) = x := fun x l => by
    simp [Go.Vc.hd, Array.getD_eq_getD_getElem?, Array.getElem?_append]
   exact h1 _ _
 · simp [sub, Array.getD_eq_getD_getElem?, Array.getElem?_append, hi]
 · show Array.getD _ (i + 1) _ = _
   rw [Array.getD_eq_getD_getElem?, Array.getElem?_append_right (by simp)]
   simp only [List.size_toArray, List.length_cons, List.length_nil, Nat.zero_add, Nat.add_sub_cancel, Array.getElem?_map]
   rw [Array.getElem?_eq_none (by simp; omega)]
   rfl
def matSrc (own : List (Nat × Ob)) (τ : Ty) (k2 : Nat) : Option (Nat × Nat × List (List τ.T)) := match get? own k2 with
 | some (.mat e e' τ' true ys none) => match decEq τ' τ with
  | isTrue h => some (e, e', h ▸ ys)
  | isFalse _ => none
 | _ => none
theorem matSrc_ok {own : List (Nat × Ob)} {τ : Ty} {k2 e e' : Nat} {ys : List (List τ.T)} (h : matSrc own τ k2 = some (e, e', ys)) : get? own k2 = some (.mat e e' τ true ys none) := by
 unfold matSrc at h
 split at h
 · rename_i hk
   split at h
   · rename_i hh _
     subst hh
     simp at h
     obtain ⟨rfl, rfl, rfl⟩ := h
     exact hk
   · cases h
 · cases h
def mappVC (T : List (Nat × TE)) (Γ : Sy) (n : Nat) (t : TypeId) (k k2 D : Nat) (K : Sy → Prop) : Prop := match get? T t with
  | some { kind := .sl e, .. } => match get? T e with
    | some { ty := some (.sl _), size := sz, .. } => match get? Γ.own k with
      | some (.mat e1 e2 τ true xs none) => match matSrc Γ.own τ k2 with
        | some (e3, e4, ys) => ((e1 = e ∧ e3 = e ∧ e4 = e2) ∧ (Nat.beq sz 1 && Nat.blt (k % PK2) PK && Nat.blt D n && !Nat.beq k k2) = true ∧ 0 < ys.length ∧ xs.length + ys.length ≤ 4294967296) ∧
            K ⟨set (Γ.merge k k2 (.mat e e2 τ true (xs ++ ys) none)).tmps D (.mown k), (Γ.merge k k2 (.mat e e2 τ true (xs ++ ys) none)).own⟩
        | none => False
      | _ => False
    | _ => False
  | _ => False
theorem mappVC.sound {P : Program} {T : List (Nat × TE)} (hT : TOk P T) {c : Cx} {o : Oper} {Γ : Sy} {t : TypeId} {s x : Operand} {k k2 D : Nat} {K : Sy → Prop}
  (ho : o.op = .call { callee := .builtin .append, args := #[s, x], argTypes := #[t, t] }) (hd : o.dst = some D) (hs : Ev c Γ [] s (.mown k)) (hx : Ev c Γ [] x (.mown k2)) (h : mappVC T Γ c.n t k k2 D K) : ∃ Γ', Seq P c o Γ Γ' ∧ K Γ' := by
 unfold mappVC at h
 split at h
 · rename_i e sz0 by_ ze ty ht
   have hu := (hT _ _ ht).sl rfl
   split at h
   · rename_i kk0 sz be zz τ0 hte
     have he := hT _ _ hte
     split at h
     · rename_i e1 e2 τ xs hk
       split at h
       · rename_i e3 e4 ys hsrc
         obtain ⟨⟨⟨rfl, rfl, rfl⟩, hc, hy0, hlen⟩, hK⟩ := h
         simp only [Bool.and_eq_true, Bool.not_eq_true'] at hc
         obtain ⟨⟨⟨c1, c2⟩, c3⟩, c4⟩ := hc
         have hkk : k ≠ k2 := fun e => by rw [e, Nat.beq_refl] at c4; cases c4
         have hk2 := matSrc_ok hsrc
         refine ⟨_, ?_, hK⟩
         intro g a w next Q hst hkn
         have hA : a.eval s = Go.Vc.hd (g k) := hs trivial Γ g a w rfl hst
         have hB : a.eval x = Go.Vc.hd (g k2) := hx trivial Γ g a w rfl hst
         obtain ⟨⟨cells, o1, o2, o3⟩, oin, odist, odo⟩ := hst.hp.ok k _ hk
         obtain ⟨⟨cells2, p1, p2, p3⟩, pin, pdist, pdo⟩ := hst.hp.ok k2 _ hk2
         obtain ⟨i0, hi0, hz0, hsz0, hb0⟩ := he.info
         obtain ⟨q1, q2, q3, q4, q5, q6⟩ := he.2.2.1 _ rfl
         dsimp only at q1 q2 q5 hz0 hsz0 hb0
         have hsz1 : sz = 1 := Nat.eq_of_beq_eq_true c1
         rcases p1.2 with ⟨_, p5⟩ | ⟨b2, cap2, cur2, p5, p6, p7, p8, p9, p10, p11⟩
         · omega
         have hl2 : cells2.length = ys.length := by rw [p1.1, Nat.mul_one]
         have hl1 : cells.length = xs.length := by rw [o1.1, Nat.mul_one]
         have hnews : ∀ j u, cells2[j]? = some u → w.cell? ((⟨b2, 0, none⟩ : Addr).add j) = some u := fun j u hj => by
          rw [Addr.add_lit, Nat.zero_add, cell_of_row w b2 j cur2 e3 (0, 0) p7]
          rw [← p11, List.getElem?_take] at hj
          split at hj
          · simpa using hj
          · cases hj
         have hzs : zz.cells.size = 1 := by
          have : zz.cells.toList.length = [Value.slice none 0 0].length := congrArg List.length q1
          simpa using this
         obtain ⟨v1, w', r1, r2, r3, r4⟩ := run_append_blk (P := P) w 0 t o.type e3 i0 zz 1 be hu hi0 hz0 (by rw [hsz0]; exact hsz1) hb0 hzs (by decide) (Go.Vc.hd (g k)) xs.length cells o1 ⟨b2, 0, none⟩ ys.length cap2 cells2 (by rw [hl2, Nat.mul_one]) hnews p2 (by unfold maxLen; omega) (by
          have : (xs.length + ys.length) * be ≤ 4294967296 * 4096 := Nat.mul_le_mul hlen q5
          omega) (Nat.zero_le _)
         obtain ⟨v', t1, t2, t3⟩ := mkTup v1 (xs.length + ys.length) fun i => if i < xs.length then sub (g k) i else sub (g k2) (i - xs.length)
         have ta : ∀ i, i < xs.length → sub v' i = sub (g k) i := fun i hi => by rw [t2 i (by omega), if_pos hi]
         have tb : ∀ i, ¬ i < xs.length → i < xs.length + ys.length → sub v' i = sub (g k2) (i - xs.length) := fun i hi hi2 => by rw [t2 i hi2, if_neg hi]
         have hown1 : Own1 Γ g k = Blk (g k) := funext fun b => propext ⟨fun q => q.2, fun q => ⟨⟨_, hk⟩, q⟩⟩
         have hown2 : Own1 Γ g k2 = Blk (g k2) := funext fun b => propext ⟨fun q => q.2, fun q => ⟨⟨_, hk2⟩, q⟩⟩
         have hv : ∀ b, Blk v' b → Own1 Γ g k b ∨ Own1 Γ g k2 b ∨ w.heap.size ≤ b := by
          rw [hown1, hown2]
          rintro b (u | ⟨i, u⟩)
          · rw [t1] at u
            rcases r4 b u with u2 | u2
            · exact .inl (.inl u2)
            · exact .inr (.inr u2)
          · by_cases hi : i < xs.length
            · rw [ta i hi] at u; exact .inl (.inr ⟨i, u⟩)
            · by_cases hi2 : i < xs.length + ys.length
              · rw [tb i hi hi2] at u; exact .inr (.inl (.inr ⟨_, u⟩))
              · rw [t3 i (by omega)] at u; cases u
         have hmono : ∀ b x e0 fz, w.heap[b]? = some (.cells x e0 fz) → ¬ Oset Γ.own g b → w'.heap[b]? = some (.cells x e0 fz) ∧ ¬ Oset (Γ.merge k k2 (.mat e3 e4 τ true (xs ++ ys) none)).own (updg g k v') b := fun b x e0 fz hb hn =>
          ⟨(r3.block b (heap_lt hb) fun u => hn ⟨k, _, hk, .inl u.symm⟩).trans hb, fun h' => hn (merge_set hv (heap_lt hb) h')⟩
         have apart : ∀ b, Blk (g k) b → Blk (g k2) b → False := fun b u1 u2 => hkk (hst.hp.inj k k2 _ _ b hk hk2 u1 u2)
         have key := hst.merge (w' := w') (k := k) (k2 := k2) (o' := .mat e3 e4 τ true (xs ++ ys) none) (v' := v') (Nat.le_of_ble_eq_true c2) r3.os r3.tape r3.output r3.size (fun b hb hn => r3.block b hb fun u => hn ⟨⟨_, hk⟩, .inl u.symm⟩) hv ?_
         · unfold Oper.wp
           have hrun : (execOp a.eval o).run P w = .ok (.value v1) w' := by
            rw [← hA, ← p5, ← hB] at r1
            simp [execOp, ho, resolve, invoke, builtin, r1]
           rw [hrun]
           refine hkn (updg g k v') (a.put o.dst v1) w' ?_
           rw [hd]
           exact key.put (t := D) (A := .mown k) (Nat.le_of_ble_eq_true c3) (show v1 = Go.Vc.hd (updg g k v' k) by simp [updg, t1])
         · refine ⟨⟨cells ++ cells2, ?_, fun u hu => (List.mem_append.1 hu).elim (o2 u) (p2 u), fun i hi _ => ?_⟩, fun i => ?_, fun i j b u1 u2 => ?_, fun i b u1 u2 => ?_⟩
           · rw [t1, List.length_append]; exact r2
           · rw [List.length_append] at hi
             by_cases h1 : i < xs.length
             · rw [ta i h1, List.getElem?_append_left (by omega)]; exact o3 i h1 (by simp)
             · rw [tb i h1 hi, List.getElem?_append_right (by omega), hl1]; exact p3 (i - xs.length) (by omega) (by simp)
           · by_cases h1 : i < xs.length
             · rw [ta i h1]
               have e0 : (xs ++ ys).getD i [] = xs.getD i [] := by
                rw [List.getD_eq_getElem?_getD, List.getElem?_append_left h1, List.getD_eq_getElem?_getD]
               rw [e0]
               refine RowOk.mono hmono (fun _ _ _ _ _ _ h => h) (fun b u => ?_) (oin i)
               obtain ⟨zs, hz, _⟩ := oin i
               exact r3.block b (ownsRow_lt hz u).2 fun u2 => odo i b u u2.symm
             · by_cases h2 : i < xs.length + ys.length
               · rw [tb i h1 h2]
                 have e0 : (xs ++ ys).getD i [] = ys.getD (i - xs.length) [] := by
                  rw [List.getD_eq_getElem?_getD, List.getElem?_append_right (by omega), List.getD_eq_getElem?_getD]
                 rw [e0]
                 refine RowOk.mono hmono (fun _ _ _ _ _ _ h => h) (fun b u => ?_) (pin (i - xs.length))
                 obtain ⟨zs, hz, _⟩ := pin (i - xs.length)
                 exact r3.block b (ownsRow_lt hz u).2 fun u2 => apart b (.inl u2.symm) (.inr ⟨_, u⟩)
               · rw [t3 i (by omega)]
                 have e0 : (xs ++ ys).getD i [] = [] := by
                  rw [List.getD_eq_getElem?_getD, List.getElem?_eq_none (by rw [List.length_append]; omega)]; rfl
                 rw [e0]
                 exact RowOk.nil
           · by_cases i1 : i < xs.length
             · rw [ta i i1] at u1
               by_cases j1 : j < xs.length
               · rw [ta j j1] at u2; exact odist i j b u1 u2
               · by_cases j2 : j < xs.length + ys.length
                 · rw [tb j j1 j2] at u2; exact (apart b (.inr ⟨_, u1⟩) (.inr ⟨_, u2⟩)).elim
                 · rw [t3 j (by omega)] at u2; cases u2
             · by_cases i2 : i < xs.length + ys.length
               · rw [tb i i1 i2] at u1
                 by_cases j1 : j < xs.length
                 · rw [ta j j1] at u2; exact (apart b (.inr ⟨_, u2⟩) (.inr ⟨_, u1⟩)).elim
                 · by_cases j2 : j < xs.length + ys.length
                   · rw [tb j j1 j2] at u2
                     have := pdist _ _ b u1 u2
                     omega
                   · rw [t3 j (by omega)] at u2; cases u2
               · rw [t3 i (by omega)] at u1; cases u1
           · rw [t1] at u2
             have hlt : ∀ b, blk (sub v' i) = some b → b < w.heap.size := fun b u => by
              by_cases i1 : i < xs.length
              · rw [ta i i1] at u
                obtain ⟨zs, hz, _⟩ := oin i
                exact (ownsRow_lt hz u).2
              · by_cases i2 : i < xs.length + ys.length
                · rw [tb i i1 i2] at u
                  obtain ⟨zs, hz, _⟩ := pin (i - xs.length)
                  exact (ownsRow_lt hz u).2
                · rw [t3 i (by omega)] at u; cases u
             have hb := hlt b u1
             rcases r4 b u2 with u3 | u3
             · by_cases i1 : i < xs.length
               · rw [ta i i1] at u1; exact odo i b u1 u3
               · by_cases i2 : i < xs.length + ys.length
                 · rw [tb i i1 i2] at u1; exact apart b (.inl u3) (.inr ⟨_, u1⟩)
                 · rw [t3 i (by omega)] at u1; cases u1
             · omega
       · exact h.elim
     · exact h.elim
   · exact h.elim
 · exact h.elim
def stepZ (P : Program) (T : List (Nat × TE)) (F Ms : List Nat) (n : Nat) (ops : Array Oper) (i : Nat) (o : Oper) (Γ : Sy) (K : Sy → Prop) : Prop := match memN (i + 1000) Ms with
 | true => match o.guard, o.dst with
  | none, some D => match o.op with
   | .buildSlice t len parts => match len, parts.toList with
    | 1, [(0, x)] => withOp Γ [] x fun A => match A with
     | .own k2 => mlitVC T Γ n (1000 * (D + 1)) t k2 D K
     | _ => False
    | _, _ => False
   | .call cl => match cl.callee, cl.args.toList, cl.argTypes.toList with
    | .builtin .append, [s, x], [t, t'] => withOp Γ [] s fun A => withOp Γ [] x fun B => match A, B with
     | .mown k, .mown k2 => t = t' ∧ mappVC T Γ n t k k2 D K
     | _, _ => False
    | _, _, _ => False
   | _ => False
  | _, _ => False
 | false => stepVC P T F Ms n ops i o Γ K
theorem stepZ_sound {P : Program} {T : List (Nat × TE)} {F Ms : List Nat} (hT : TOk P T) {c : Cx} {ops : Array Oper} {K : Sy → Prop} {i : Nat} {o : Oper} {Γ : Sy} (hoi : ops[i]? = some o) (h : stepZ P T F Ms c.n ops i o Γ K) :
  ∃ Γ', StepOk P c ops i Γ Γ' ∧ K Γ' := by
 unfold stepZ at h
 split at h
 · split at h
   · rename_i D hg hd
     have fin : (∃ Γ', Seq P c o Γ Γ' ∧ K Γ') → ∃ Γ', StepOk P c ops i Γ Γ' ∧ K Γ' := by
      rintro ⟨Γ', h6, h7⟩
      refine ⟨Γ', ?_, h7⟩
      intro Q g a w K' hst hK
      unfold wpOp
      rw [hoi]
      dsimp only
      rw [if_pos ((guardOf.wanted (ops := ops) (G := []) hst (by rw [hg]; rfl)).2 trivial)]
      exact .inl (h6 g a w _ _ hst hK)
     split at h
     · rename_i t len parts hop
       split at h
       · rename_i x hp
         obtain ⟨A, hA, h6⟩ := withOp.ev (c := c) h
         split at h6
         · exact fin (mlitVC.sound hT (by rw [hop, arr_of_one hp]) hd hA h6)
         · exact h6.elim
       · exact h.elim
     · rename_i cl hop
       split at h
       · rename_i s x t t' hcl hargs htys
         obtain ⟨A, hA, h6⟩ := withOp.ev (c := c) h
         obtain ⟨B, hB, h7⟩ := withOp.ev (c := c) h6
         split at h7
         · obtain ⟨rfl, h8⟩ := h7
           exact fin (mappVC.sound hT (by rw [hop]; cases cl; dsimp only at hcl hargs htys ⊢; rw [hcl, arr_of_list2 hargs, arr_of_list2 htys]) hd hA hB h8)
         · exact h7.elim
       · exact h.elim
     · exact h.elim
   · exact h.elim
 · exact step_sound hT hoi h
def detA : AV → Bool
 | .lit _ => true
 | .own k => Nat.ble PK (k % PK2)
 | .mown k => Nat.ble PK (k % PK2)
 | _ => false
def detL : List AV → Bool
 | [] => true
 | A :: r => detA A && detL r
theorem detL_get : ∀ {l : List AV} {i : Nat} {B : AV}, detL l = true → l[i]? = some B → detA B = true
 | [], _, _, _, h => by simp at h
 | A :: r, 0, B, hl, h => by
  simp at h
  subst h
  simp only [detL, Bool.and_eq_true] at hl
  exact hl.1
 | A :: r, i + 1, B, hl, h => by
  simp only [detL, Bool.and_eq_true] at hl
  exact detL_get hl.2 (by simpa using h)
def valA (kv : Nat → Value) : AV → Value
 | .lit v => v
 | .own k => kv k
 | .mown k => hd (kv k)
 | _ => undef
def PinW (kv : Nat → Value) (k : Nat) (l0 : List AV) (w : World) : Prop := ∃ b e, kv k = .pointer (some ⟨b, 0, none⟩) ∧ w.heap[b]? = some (.cells (l0.map (valA kv)).toArray e (0, 0))
theorem detA_val {w : World} {O O0 : Nat → Prop} {g kv : Nat → Value} {x : Value} {B : AV} (hg : ∀ k, PK ≤ k % PK2 → g k = kv k) (hB : detA B = true) : Rp2 w O O0 g x B ↔ x = valA kv B ∧ (match B with | .lit v => v.oneCell' = true | _ => True) := by
 cases B with
 | lit v => exact Iff.rfl
 | own k =>
  have h1 := hg k (Nat.le_of_ble_eq_true hB)
  show x = g k ↔ x = kv k ∧ True
  rw [h1]; simp
 | mown k =>
  have h1 := hg k (Nat.le_of_ble_eq_true hB)
  show x = hd (g k) ↔ x = hd (kv k) ∧ True
  rw [h1]; simp
 | _ => cases hB
theorem St.pinW {c : Cx} {Γ : Sy} {g : Nat → Value} {a : Act} {w : World} (h : St c Γ g a w) {k : Nat} {l0 : List AV} (hk : PK ≤ k % PK2) (hd : detL l0 = true) (ho : get? Γ.own k = some (.box l0)) : PinW c.kv k l0 w := by
 obtain ⟨b, arr, e, h1, h2, h3, h4, h5⟩ := h.hp.ok k _ ho
 refine ⟨b, e, by rw [← h.pin k hk]; exact h1, ?_⟩
 have ea : arr = (l0.map (valA c.kv)).toArray := by
  apply Array.ext'
  refine List.ext_getElem? fun i => ?_
  rw [Array.getElem?_toList]
  show arr[i]? = (l0.map (valA c.kv))[i]?
  rw [List.getElem?_map]
  by_cases hi : i < l0.length
  · obtain ⟨x, h6, _, h7⟩ := h5 i _ (List.getElem?_eq_getElem hi)
    rw [h6, List.getElem?_eq_getElem hi, ((detA_val h.pin (detL_get hd (List.getElem?_eq_getElem hi))).1 h7).1]; rfl
  · rw [List.getElem?_eq_none (Nat.le_of_not_lt hi), Array.getElem?_eq_none (by omega)]; rfl
 rw [← ea]; exact h3
theorem floatsS {P : Program} {T : List (Nat × TE)} (hT : TOk P T) {c : Cx} {ops : Array Oper} (hs : Region.noSelect ops = true) {Q : Exit → Act → World → Prop} (hQ : ∀ x a w, ¬ Q (.panic x) a w) {K : Sy → Prop} {g : Nat → Value} {w : World} {own : List (Nat × Ob)} (hfull : c.full w (Oset own g)) {S : World → Prop} (hS : ∀ w, S w → c.S w) (hSw : S w) :
  ∀ (L : List Nat) (listed : Array Bool) (Γ : Sy) (a : Act) (fuel : Nat), Γ.own = own → floatOk ops L listed = true → floatVC T c.n ops L Γ K → St c Γ g a w →
    (∀ Γ' a', Γ'.own = own → K Γ' → St c Γ' g a' w → wpAnyH P .any ops Q S fuel (listAll L listed) a' w) → wpAnyH P .any ops Q S (fuel + L.length) listed a w
 | [], listed, Γ, a, fuel, ho, _, h, hst, hk => hk Γ a ho h hst
 | i :: r, listed, Γ, a, fuel, hown0, hok, h, hst, hk => by
  simp only [floatOk, Bool.and_eq_true] at hok
  obtain ⟨⟨h1, h2⟩, h3⟩ := hok
  simp only [floatVC] at h
  split at h
  · rename_i o ho
    split at h
    · rename_i G t hgd hd
      split at h
      · rename_i hlt
        have hwant := guardOf.wanted (ops := ops) hst hgd
        have step : ∀ R, (G.ok → Still P c o Γ R) → floatVC T c.n ops r (Γ.putB t (gd' G R)) K → wpAnyH P .any ops Q S (fuel + (i :: r).length) listed a w := by
         intro R hR hrest
         by_cases hG : G.ok
         · obtain ⟨v, h4, h5⟩ := hR hG Γ g a w (fun _ _ => rfl) (fun _ _ h => h) hst (by rw [hown0]; exact hfull)
           have hput : St c (Γ.putB t (gd' G R)) g (a.put (some t) v) w := hst.put (Nat.le_of_ble_eq_true hlt) (gd'_rp h5.ngd (fun _ => h5) (fun hn => absurd hG hn))
           refine wpAnyH_take (fuel := fuel + r.length) ho hs h1 h2 (fun x a' w' hq => absurd hq (hQ x _ _)) (v := v) (.inl ⟨hwant.2 hG, fun w' h => h4 w' (hS w' h)⟩) hSw ?_
           rw [hd]
           exact floatsS hT hs hQ hfull hS hSw r _ (Γ.putB t (gd' G R)) _ fuel hown0 h3 hrest hput hk
         · have hput : St c (Γ.putB t (gd' G R)) g (a.put (some t) undef) w := hst.put (Nat.le_of_ble_eq_true hlt) (by
            cases G with
            | nil => exact absurd trivial hG
            | cons x r' => exact ⟨fun h => absurd h hG, fun _ => rfl⟩)
           refine wpAnyH_take (fuel := fuel + r.length) ho hs h1 h2 (fun x a' w' hq => absurd hq (hQ x _ _)) (v := undef) (.inr ⟨by
            cases hw : Region.wanted o (yielded ops a.tmps) with
            | true => exact absurd (hwant.1 hw) hG
            | false => rfl, rfl⟩) hSw ?_
           rw [hd]
           exact floatsS hT hs hQ hfull hS hSw r _ (Γ.putB t (gd' G R)) _ fuel hown0 h3 hrest hput hk
        split at h
        · rename_i x hop
          obtain ⟨A, hA, h6⟩ := withOp.ev (c := c) h
          exact step A (fun hG => (Still0.move (.inl hop) hA hG).still) h6
        · rename_i x hop
          obtain ⟨A, hA, h6⟩ := withOp.ev (c := c) h
          exact step A (fun hG => (Still0.move (.inr hop) hA hG).still) h6
        · rename_i ty x y hop
          obtain ⟨A, hA, h6⟩ := withOp.ev (c := c) h
          obtain ⟨I, hI, h7⟩ := withOp.ev (c := c) h6
          obtain ⟨R, hR, h8⟩ := indexVC.any hT hop hA hI h7
          exact step R (fun hG => (hR hG).still) h8
        · rename_i s x f hop
          obtain ⟨A, hA, h6⟩ := withOp.ev (c := c) h
          obtain ⟨R, hR, h8⟩ := fieldVC.any hT hop hA h6
          exact step R (fun hG => (hR hG).still) h8
        · rename_i op ty x y ty' hop
          obtain ⟨A, hA, h6⟩ := withOp.ev (c := c) h
          obtain ⟨B, hB, h7⟩ := withOp.ev (c := c) h6
          obtain ⟨R, hR, h8⟩ := binVC.any hT hop hA hB h7
          exact step R (fun hG => (hR hG).still) h8
        · rename_i op ty x hop
          obtain ⟨A, hA, h6⟩ := withOp.ev (c := c) h
          obtain ⟨R, hR, h8⟩ := notVC.any hop hA h6
          exact step R (fun hG => (hR hG).still) h8
        · rename_i s e x hop
          obtain ⟨hsm, h⟩ := h
          obtain ⟨A, hA, h6⟩ := withOp.ev (c := c) h
          obtain ⟨R, hR, h8⟩ := convVC.any hT hop (Option.isSome_iff_exists.1 hsm) hA h6
          exact step R (fun hG => (hR hG).still) h8
        · rename_i x i' hop
          obtain ⟨A, hA, h6⟩ := withOp.ev (c := c) h
          obtain ⟨R, hR, h8⟩ := extractVC.any hop hA h6
          exact step R (fun hG => (hR hG).still) h8
        · rename_i x hop
          obtain ⟨A, hA, h6⟩ := withOp.ev (c := c) h
          obtain ⟨R, hR, h8⟩ := nilVC.any hop hA h6
          exact step R (fun hG => (hR hG).still) h8
        · rename_i z x y hop
          obtain ⟨R, hR, h8⟩ := pickVC.any hop h
          exact step R (fun hG => (hR hG).still) h8
        · rename_i ty x hop
          obtain ⟨A, hA, h6⟩ := withOp.ev (c := c) h
          split at h6
          · rename_i fr B
            obtain ⟨R, hR, h8⟩ := loadS.still hT hop hA h6
            exact step R hR h8
          · exact h6.elim
        · rename_i ty x lo hi mx hop
          obtain ⟨A, hA, h6⟩ := withOp.ev (c := c) h
          obtain ⟨R, hR, h8⟩ := cutSV.any hT hop hA h6
          exact step R (fun hG => (hR hG).still) h8
        · rename_i cl hop
          split at h
          · rename_i hcl
            split at h
            · rename_i x ty hxs hts
              obtain ⟨A, hA, h6⟩ := withOp.ev (c := c) h
              split at h6
              · rename_i fr S
                have ho' : o.op = .call { callee := .builtin .len, args := #[x], argTypes := #[ty] } := by
                 rw [hop, ← arr_of_one hxs, ← arr_of_one hts, ← hcl]
                obtain ⟨R, hR, h8⟩ := lenVC.any hT ho' hA h6
                exact step R (fun hG => (hR hG).still) h8
              · exact h6.elim
            · exact h.elim
          · rename_i b _ hcl
            obtain ⟨l, hl, hxs, h6⟩ := withOps.ev (c := c) h
            have ho' : o.op = .call { callee := .builtin b, args := cl.args, argTypes := cl.argTypes } := by rw [hop, ← hcl]
            obtain ⟨R, hR, h8⟩ := minmaxVC.any ho' hl hxs h6
            exact step R (fun hG => (hR hG).still) h8
          · exact h.elim
        · exact h.elim
      · exact h.elim
    · exact h.elim
  · exact h.elim
def floatB (T : List (Nat × TE)) (kb : Nat) (l0 : List AV) (n : Nat) (ops : Array Oper) : List Nat → Sy → (Sy → Prop) → Prop
 | [], Γ, K => K Γ
 | i :: r, Γ, K => match ops[i]? with
  | some o => match o.op with
   | .load ty x => match guardOf (dstsOf ops) Γ o.guard, o.dst with
    | some G, some t => match Nat.blt t n with
     | true => withOp Γ G x fun A => match A with
      | .padr k' j => match Nat.beq k' kb with
       | true => match l0[j]?, get? T ty with
        | some B, some te => te.kind.isAgg = false ∧ get? Γ.own kb = some (.box l0) ∧ floatB T kb l0 n ops r (Γ.putB t (gd' G B)) K
        | _, _ => False
       | false => False
      | _ => floatVC T n ops [i] Γ fun Γ1 => floatB T kb l0 n ops r Γ1 K
     | false => False
    | _, _ => False
   | _ => floatVC T n ops [i] Γ fun Γ1 => floatB T kb l0 n ops r Γ1 K
  | none => False
theorem floatsB {P : Program} {T : List (Nat × TE)} (hT : TOk P T) {kb : Nat} {l0 : List AV} (hkb : PK ≤ kb % PK2) (hdb : detL l0 = true) {c : Cx} {ops : Array Oper} (hs : Region.noSelect ops = true) {Q : Exit → Act → World → Prop} (hQ : ∀ x a w, ¬ Q (.panic x) a w) {K : Sy → Prop} {g : Nat → Value} {w : World} {own : List (Nat × Ob)} (hfull : c.full w (Oset own g)) (hpw : PinW c.kv kb l0 w) :
  ∀ (L : List Nat) (listed : Array Bool) (Γ : Sy) (a : Act) (fuel : Nat), Γ.own = own → floatOk ops L listed = true → floatB T kb l0 c.n ops L Γ K → St c Γ g a w →
    (∀ Γ' a', K Γ' → St c Γ' g a' w → wpAnyH P .any ops Q (fun w => c.S w ∧ PinW c.kv kb l0 w) fuel (listAll L listed) a' w) → wpAnyH P .any ops Q (fun w => c.S w ∧ PinW c.kv kb l0 w) (fuel + L.length) listed a w
 | [], listed, Γ, a, fuel, _, _, h, hst, hk => hk Γ a h hst
 | i :: r, listed, Γ, a, fuel, hown0, hok, h, hst, hk => by
  have hok' := hok
  simp only [floatOk, Bool.and_eq_true] at hok'
  obtain ⟨⟨h1, h2⟩, h3⟩ := hok'
  have plain : floatVC T c.n ops [i] Γ (fun Γ1 => floatB T kb l0 c.n ops r Γ1 K) → wpAnyH P .any ops Q (fun w => c.S w ∧ PinW c.kv kb l0 w) (fuel + (i :: r).length) listed a w := fun h => by
   have hone : floatOk ops [i] listed = true := by simp only [floatOk, Bool.and_eq_true]; exact ⟨⟨h1, h2⟩, trivial⟩
   have := floatsS (P := P) (Q := Q) hT hs hQ hfull (S := fun w => c.S w ∧ PinW c.kv kb l0 w) (fun w h => h.1) ⟨hst.s, hpw⟩ [i] listed Γ a (fuel + r.length) hown0 hone h hst fun Γ' a' ho' hK' hst' => floatsB hT hkb hdb hs hQ hfull hpw r _ Γ' a' fuel ho' h3 hK' hst' hk
   exact this
  simp only [floatB] at h
  split at h
  · rename_i o ho
    split at h
    · rename_i ty x hop
      split at h
      · rename_i G t hgd hd
        split at h
        · rename_i hlt
          have hw0 := h
          obtain ⟨A, hA, h6⟩ := withOp.ev (c := c) h
          split at h6
          · rename_i k' j
            split at h6
            · rename_i hkk
              have hkk := Nat.eq_of_beq_eq_true hkk
              subst hkk
              split at h6
              · rename_i B te hB hte
                obtain ⟨hagg, hbx, h7⟩ := h6
                have hwant := guardOf.wanted (ops := ops) hst hgd
                by_cases hG : G.ok
                · obtain ⟨b, hb1, hb2⟩ := hA hG Γ g a w rfl hst
                  have hval : Rp2 w (Oset Γ.own g) c.O0 g (valA c.kv B) B := by
                   obtain ⟨b', arr, e, g1, g2, g3, g4, g5⟩ := hst.hp.ok _ _ hbx
                   obtain ⟨y, _, _, h8⟩ := g5 j B hB
                   have := ((detA_val hst.pin (detL_get hdb hB)).1 h8).1
                   rw [← this]; exact h8
                  have h4 : ∀ w', (c.S w' ∧ PinW c.kv k' l0 w') → (execOp a.eval o).run P w' = .ok (.value (valA c.kv B)) w' := by
                   rintro w' ⟨_, b', e, g1, g2⟩
                   have eb : b' = b := by
                    rw [← hst.pin k' hkb, hb1] at g1
                    cases g1; rfl
                   subst eb
                   have hj : ((l0.map (valA c.kv)).toArray)[j]? = some (valA c.kv B) := by
                    rw [List.getElem?_toArray, List.getElem?_map, hB]; rfl
                   have := run_load_scalar (hT _ _ hte) hagg g2 hj
                   simp [execOp, hop, hb2, this]
                  have hput : St c (Γ.putB t (gd' G B)) g (a.put (some t) (valA c.kv B)) w := hst.put (Nat.le_of_ble_eq_true hlt) (gd'_rp hval.ngd (fun _ => hval) (fun hn => absurd hG hn))
                  refine wpAnyH_take (fuel := fuel + r.length) ho hs h1 h2 (fun x a' w' hq => absurd hq (hQ x _ _)) (v := valA c.kv B) (.inl ⟨hwant.2 hG, h4⟩) ⟨hst.s, hpw⟩ ?_
                  rw [hd]
                  exact floatsB hT hkb hdb hs hQ hfull hpw r _ (Γ.putB t (gd' G B)) _ fuel hown0 h3 h7 hput hk
                · have hput : St c (Γ.putB t (gd' G B)) g (a.put (some t) undef) w := hst.put (Nat.le_of_ble_eq_true hlt) (by
                   cases G with
                   | nil => exact absurd trivial hG
                   | cons x r' => exact ⟨fun h => absurd h hG, fun _ => rfl⟩)
                  refine wpAnyH_take (fuel := fuel + r.length) ho hs h1 h2 (fun x a' w' hq => absurd hq (hQ x _ _)) (v := undef) (.inr ⟨by
                   cases hw : Region.wanted o (yielded ops a.tmps) with
                   | true => exact absurd (hwant.1 hw) hG
                   | false => rfl, rfl⟩) ⟨hst.s, hpw⟩ ?_
                  rw [hd]
                  exact floatsB hT hkb hdb hs hQ hfull hpw r _ (Γ.putB t (gd' G B)) _ fuel hown0 h3 h7 hput hk
              · exact h6.elim
            · exact h6.elim
          · exact plain h6
        · exact h.elim
      · exact h.elim
    · exact plain h
  · exact h.elim
noncomputable def treeB (P : Program) (T : List (Nat × TE)) (F Ms : List Nat) (kb : Nat) (l0 : List AV) (n : Nat) (ops : Array Oper) (E : List Nat) (k : Nat) : Nat → Sy → (Nat → Sy → Prop) → Prop :=
 Nat.rec (motive := fun _ => Nat → Sy → (Nat → Sy → Prop) → Prop) (fun done Γ K => K done Γ) (fun _ ih done Γ K => eachP (rdy done E 0) fun i => match ops[i]? with
  | some o => stepZ P T F Ms n ops i o Γ fun Γ' => get? Γ'.own kb = some (.box l0) ∧ ih (Nat.lor done (2 ^ i)) Γ' K
  | none => False) k
theorem treeB_sound {P : Program} {kb : Nat} {l0 : List AV} (hkb : PK ≤ kb % PK2) (hdb : detL l0 = true) {T : List (Nat × TE)} {F Ms : List Nat} (hT : TOk P T) {c : Cx} {ops : Array Oper} {E : List Nat} (hE : dirms ops = E) {K : Nat → Sy → Prop} {Q : Exit → Act → World → Prop} {m : Nat}
  (hQ : ∀ (listed : Array Bool) done Γ' g' a' w', listed.size = ops.size → cnt listed = m → (∀ j, j < ops.size → listed[j]? = some (done.testBit j)) → K done Γ' → St c Γ' g' a' w' → PinW c.kv kb l0 w' → wpAnyH P .any ops Q (fun w => c.S w ∧ PinW c.kv kb l0 w) m listed a' w')
  (hed : ∀ j o, ops[j]? = some o → ∀ e ∈ o.after, Region.binds .any e = true → e.on < j) :
  ∀ (k : Nat) (listed : Array Bool) (done : Nat) (Γ : Sy) (g : Nat → Value) (a : Act) (w : World), listed.size = ops.size → cnt listed = k + m → (∀ j, j < ops.size → listed[j]? = some (done.testBit j)) →
    treeB P T F Ms kb l0 c.n ops E k done Γ K → St c Γ g a w → PinW c.kv kb l0 w → wpAnyH P .any ops Q (fun w => c.S w ∧ PinW c.kv kb l0 w) (k + m) listed a w := by
 intro k
 induction k with
 | zero =>
  intro listed done Γ g a w hsz hc hd h hst hpw
  rw [Nat.zero_add] at hc ⊢
  exact hQ listed done Γ g a w hsz hc hd h hst hpw
 | succ k ih =>
  intro listed done Γ g a w hsz hc hd h hst hpw
  rw [show k + 1 + m = (k + m) + 1 from by omega] at hc ⊢
  refine ⟨fun hrd => ?_, fun i hi => ?_⟩
  · obtain ⟨i, h1, h2⟩ := cnt_pos (listed := listed) (by omega)
    have hi : i < ops.size := by rw [← hsz]; exact (Array.getElem?_eq_some_iff.1 h1).1
    have : i ∈ Region.ready .any ops listed := ready_mem.2 ⟨hi, by simp [Array.getD_eq_getD_getElem?, h1], fun o ho e he hb => by
     have := h2 e.on (hed i o ho e he hb)
     simp [Array.getD_eq_getD_getElem?, this]⟩
    rw [hrd] at this; cases this
  · obtain ⟨h1, h2, h3⟩ := ready_mem.1 hi
    have hoi : ops[i]? = some ops[i] := by simp [h1]
    have hdi : done.testBit i = false := by
     have := hd i h1
     simp only [Array.getD_eq_getD_getElem?, this, Option.getD_some] at h2
     exact h2
    have hEi : E[i]? = some (dirm (ops[i]).after.toList 0) := by
     rw [← hE, dirms, List.getElem?_map]
     simp [h1]
    have hm := rdy_mem (done := done) (i := i) (s := 0) hEi (by rw [Nat.zero_add]; exact hdi) fun j hj => by
     rcases dirm_bit hj with h4 | ⟨e, he, hb, rfl⟩
     · simp at h4
     · have h5 := h3 _ hoi e (by simpa using he) hb
       have h6 := hed i _ hoi e (by simpa using he) hb
       have h7 := hd e.on (by omega)
       simp only [Array.getD_eq_getD_getElem?, h7, Option.getD_some] at h5
       exact h5
    rw [Nat.zero_add] at hm
    have h4 := eachP_mem h i hm
    rw [hoi] at h4
    obtain ⟨Γ', h5, hbx, h6⟩ := stepZ_sound hT hoi h4
    have hlf : listed[i]? = some false := by rw [hd i h1, hdi]
    refine h5 Q g a w _ hst fun g' a' w' h7 => ⟨⟨h7.s, h7.pinW hkb hdb hbx⟩, ih _ (Nat.lor done (2 ^ i)) Γ' g' a' w' (by simp [hsz]) (by have := cnt_set hlf; omega) (fun j hj => ?_) h6 h7 (h7.pinW hkb hdb hbx)⟩
    show _ = some ((done ||| 2 ^ i).testBit j)
    rw [Nat.testBit_or, Nat.testBit_two_pow]
    by_cases e : i = j
    · subst e
      rw [Array.getElem?_setIfInBounds_self_of_lt (by omega)]
      simp
    · rw [Array.getElem?_setIfInBounds_ne e, hd j hj]
      simp [e]
noncomputable def phB (P : Program) (T : List (Nat × TE)) (F Ms : List Nat) (kb : Nat) (l0 : List AV) (n : Nat) (ops : Array Oper) (E : List Nat) (l : Phc) : Nat → Sy → (Sy → Prop) → Prop :=
 List.rec (motive := fun _ => Nat → Sy → (Sy → Prop) → Prop) (fun _ Γ K => K Γ) (fun x _ ih done Γ K => match x.2.2.2 with
  | none => floatB T kb l0 n ops x.1 Γ fun Γ1 => treeB P T F Ms kb l0 n ops E x.2.1 (addM done x.1) Γ1 fun d' Γ' => ck (Nat.beq d' x.2.2.1) (ih x.2.2.1 Γ' K)
  | some Γ2 => Both (floatB T kb l0 n ops x.1 Γ fun Γ1 => treeB P T F Ms kb l0 n ops E x.2.1 (addM done x.1) Γ1 fun d' Γ' => ck (Nat.beq d' x.2.2.1) (Leaf (Sub Γ' Γ2 (mkRen Γ' Γ2)))) (ih x.2.2.1 Γ2 K)) l
theorem phB_sound {P : Program} {kb : Nat} {l0 : List AV} (hkb : PK ≤ kb % PK2) (hdb : detL l0 = true) {T : List (Nat × TE)} {F Ms : List Nat} (hT : TOk P T) {ops : Array Oper} {E : List Nat} (hE : dirms ops = E) {K : Sy → Prop} {Q : Exit → Act → World → Prop} (hs : Region.noSelect ops = true) (hQp : ∀ x a w, ¬ Q (.panic x) a w)
    (hed : ∀ j o, ops[j]? = some o → ∀ e ∈ o.after, Region.binds .any e = true → e.on < j) (c0 : Cx) (hQ : ∀ Γ' g' a' w' K', K Γ' → (∀ b x, c0.K b = some x → K' b = some x) → St { c0 with K := K' } Γ' g' a' w' → Q .normal a' w') :
    ∀ (ph : Phc) (K0 : Nat → Option (Array Value × TypeId × (Nat × Nat))) (listed : Array Bool) (done : Nat) (Γ : Sy) (g : Nat → Value) (a : Act) (w : World), (∀ b x, c0.K b = some x → K0 b = some x) → listed.size = ops.size →
      (∀ j, j < ops.size → listed[j]? = some (done.testBit j)) → phOk ops (plainPh ph) done = true → phB P T F Ms kb l0 c0.n ops E ph done Γ K → St { c0 with K := K0 } Γ g a w → PinW c0.kv kb l0 w → wpAnyH P .any ops Q (fun w => Cx.S { c0 with K := K0 } w ∧ PinW c0.kv kb l0 w) (cnt listed) listed a w
  | [], K0, listed, done, Γ, g, a, w, hK0, hsz, hd, hok, h, hst, hpw => by
    have hall : ∀ i, i < listed.size → listed[i]? = some true := fun i hi => by
      have := allBelow_get hok i (by omega)
      rw [hd i (by omega), this]
    have hc : cnt listed = 0 := by
      refine Classical.byContradiction fun hne => ?_
      obtain ⟨i, h1, _⟩ := cnt_pos (listed := listed) (by omega)
      have hi := (Array.getElem?_eq_some_iff.1 h1).1
      rw [hall i hi] at h1
      cases h1
    rw [hc]
    refine ⟨List.eq_nil_iff_forall_not_mem.2 fun i hi => ?_, hQ Γ g a w K0 h hK0 hst⟩
    obtain ⟨h1, h2, _⟩ := ready_mem.1 hi
    have := hall i (by omega)
    simp [Array.getD_eq_getD_getElem?, this] at h2
  | (L, k, d, cut) :: r, K0, listed, done, Γ, g, a, w, hK0, hsz, hd, hok, h, hst, hpw => by
    simp only [plainPh, phOk, Bool.and_eq_true] at hok
    obtain ⟨⟨⟨⟨hf, honce⟩, hnew⟩, hle⟩, hrest⟩ := hok
    have harr := arrOf_eq hsz hd
    rw [← harr] at hf hle
    have hle := Nat.le_of_ble_eq_true hle
    obtain ⟨K1, hK1, hK2⟩ := keepAll w (Oset Γ.own g)
    have hsub : ∀ b x, K0 b = some x → K1 b = some x := fun b x hb => hK2 b _ _ _ (hst.kept b x hb).1 (hst.kept b x hb).2
    have hst1 : St { c0 with K := K1 } Γ g a w := ⟨hst.defers, hst.size, hst.keep, hst.o0, hst.tmps, hK1, hst.hp, hst.low, hst.pin⟩
    refine wpAnyH_sub (S' := fun w => Cx.S { c0 with K := K1 } w ∧ PinW c0.kv kb l0 w) (fun w' h' => ⟨fun b x hb => h'.1 b x (hsub b x hb), h'.2⟩) _ _ _ _ ?_
    have hun : ∀ i, memN i L = true → listed[i]? = some false := fun i hi => by
      have hlt := listOnce_lt honce i hi
      have h1 := allBelow_get hnew i hlt
      rw [hd i hlt]
      simp only [hi, Bool.true_and, Bool.not_eq_true'] at h1
      rw [h1]
    have hcn := cnt_listAll (L := L) (l := listed) honce hsz hun
    -- the phase, and what is known behind it
    obtain ⟨K2, hph, hnext⟩ : ∃ K2 : Sy → Prop, (floatB T kb l0 c0.n ops L Γ fun Γ1 => treeB P T F Ms kb l0 c0.n ops E k (addM done L) Γ1 fun d' Γ' => ck (Nat.beq d' d) (K2 Γ')) ∧
        ∀ Γ' g' a' w', K2 Γ' → St { c0 with K := K1 } Γ' g' a' w' → ∃ Γ'' g'', phB P T F Ms kb l0 c0.n ops E r d Γ'' K ∧ St { c0 with K := K1 } Γ'' g'' a' w' := by
      cases cut with
      | none => exact ⟨fun Γ' => phB P T F Ms kb l0 c0.n ops E r d Γ' K, h, fun Γ' g' a' w' h1 h2 => ⟨Γ', g', h1, h2⟩⟩
      | some Γ2 =>
        obtain ⟨ha, hb⟩ := h
        exact ⟨fun Γ' => Leaf (Sub Γ' Γ2 (mkRen Γ' Γ2)), ha, fun Γ' g' a' w' h1 h2 => ⟨Γ2, _, hb, Sub.st h1.1 h2⟩⟩
    have hgo := floatsB (P := P) (c := { c0 with K := K1 }) (w := w) (Q := Q) hT hkb hdb hs hQp hK2 hpw L listed Γ a (cnt (listAll L listed)) rfl hf hph hst1
    rw [hcn] at hgo
    refine hgo fun Γ1 a1 h1 hst2 => ?_
    obtain ⟨m, hm⟩ : ∃ m, cnt (listAll L listed) = k + m := ⟨cnt (listAll L listed) - k, by omega⟩
    rw [hm]
    refine treeB_sound hkb hdb (c := { c0 with K := K1 }) hT hE (m := m) (fun listed' done' Γ' g' a' w' hsz' hc' hd' hk' hst' hpw' => ?_) hed k _ (addM done L) Γ1 g a1 _ (by rw [listAll_size]; exact hsz) hm (fun j hj => ?_) h1 hst2 hpw
    · obtain ⟨h2, h3⟩ := ck_ok hk'
      have h2 := Nat.eq_of_beq_eq_true h2
      rw [h2] at hd'
      obtain ⟨Γ'', g'', h4, h5⟩ := hnext Γ' g' a' w' h3 hst'
      have := phB_sound hkb hdb hT hE hs hQp hed c0 hQ r K1 listed' d Γ'' g'' a' w' (fun b x hb => hsub b x (hK0 b x hb)) hsz' hd' hrest h4 h5 hpw'
      rw [hc'] at this
      exact this
    · rw [listAll_get (by omega), addM_bit]
      cases hmm : memN j L with
      | true => simp
      | false => simp [hd j hj]
theorem W.drawBK {P : Program} {n : Nat} {Q : Exit → Sy → Prop} {Γ : Sy} {T : List (Nat × TE)} (hT : TOk P T) (F Ms : List Nat) (hmx : P.follows .mixedOrders = true) (kb : Nat) (l0 : List AV) (hl : (Nat.ble PK (kb % PK2) && detL l0) = true) (hbx : get? Γ.own kb = some (.box l0)) (E : List Nat) (ph : Phc) {id : Nat} {ops : Array Oper} {K : Sy → Prop}
  (hK : ∀ c Γ' g' a' w', K Γ' → St c Γ' g' a' w' → ∃ Γ'' g'', Q .normal Γ'' ∧ St c Γ'' g'' a' w')
  (hd : (allBelow ops.size (fun j => match ops[j]? with
   | none => false
   | some o => edgesLt j o.after.toList) && (dirms ops == E) && phOk ops (plainPh ph) 0 && Region.noSelect ops) = true)
  (h : phB P T F Ms kb l0 n ops E ph 0 Γ K) : W P n (.region id ops true) Γ Q := by
 simp only [Bool.and_eq_true] at hd
 obtain ⟨⟨⟨hall, hE⟩, hok⟩, hsel⟩ := hd
 have hE : dirms ops = E := by simpa using hE
 have hed : ∀ j o, ops[j]? = some o → ∀ e ∈ o.after, Region.binds .any e = true → e.on < j := by
  intro j o ho
  have hlt := (Array.getElem?_eq_some_iff.1 ho).1
  have h1 := allBelow_get hall j hlt
  rw [ho] at h1
  exact fun e he hb => edgesLt_get h1 (by simpa using he) hb
 refine ⟨fun c g a w hn hst => ?_⟩
 have key : (Code.region id ops true).wp P (fun e a' w' => match e with | .normal => ∃ Γ' g', K Γ' ∧ St c Γ' g' a' w' | _ => False) a w := by
  rw [Bool.and_eq_true] at hl
  have hkb := Nat.le_of_ble_eq_true hl.1
  refine wp_region_held (S := fun w => c.S w ∧ PinW c.kv kb l0 w) hmx ?_
  have hcr : cnt (Array.replicate ops.size false) = ops.size := by simp [cnt, List.filter_replicate]
  have hmain := phB_sound hkb hl.2 (K := K) (Q := fun e a' w' => match e with | .normal => ∃ Γ' g', K Γ' ∧ St c Γ' g' a' w' | _ => False) hT hE hsel (fun _ _ _ h => h) hed c (fun Γ' g' a' w' K' hq hK' hst' =>
   ⟨Γ', g', hq, hst'.defers, hst'.size, hst'.keep, hst'.o0, hst'.tmps, fun b x hb => hst'.kept b x (hK' b x hb), hst'.hp, hst'.low, hst'.pin⟩) ph c.K (Array.replicate ops.size false) 0 Γ g a { w with drawn := w.drawn + 1 } (fun _ _ h => h) (by simp) (fun j hj => by simp [hj]) hok (by rw [hn]; exact h) (hst.keepW (Keep.drew w)) ((hst.keepW (Keep.drew w)).pinW hkb hl.2 hbx)
  rw [hcr] at hmain
  exact hmain
 refine wp_mono key fun e a' w' hq => ?_
 cases e with
 | normal =>
  obtain ⟨Γ', g', h1, h2⟩ := hq
  exact hK c Γ' g' a' w' h1 h2
 | _ => exact hq.elim
theorem W.drawB {P : Program} {n : Nat} {Q : Exit → Sy → Prop} {Γ : Sy} {T : List (Nat × TE)} (hT : TOk P T) (F Ms : List Nat) (hmx : P.follows .mixedOrders = true) (kb : Nat) (l0 : List AV) (hl : (Nat.ble PK (kb % PK2) && detL l0) = true) (hbx : get? Γ.own kb = some (.box l0)) (E : List Nat) (ph : Phc) {id : Nat} {ops : Array Oper}
  (hd : (allBelow ops.size (fun j => match ops[j]? with
   | none => false
   | some o => edgesLt j o.after.toList) && (dirms ops == E) && phOk ops (plainPh ph) 0 && Region.noSelect ops) = true)
  (h : phB P T F Ms kb l0 n ops E ph 0 Γ fun Γ' => Q .normal Γ') : W P n (.region id ops true) Γ Q :=
 W.drawBK hT F Ms hmx kb l0 hl hbx E ph (K := fun Γ' => Q .normal Γ') (fun c Γ' g' a' w' h1 h2 => ⟨Γ', g', h1, h2⟩) hd h
def zipC : List (List Nat × Nat × Nat) → List (Option Sy) → Phc
 | [], _ => []
 | x :: r, [] => (x.1, x.2.1, x.2.2, none) :: zipC r []
 | x :: r, c :: cs => (x.1, x.2.1, x.2.2, c) :: zipC r cs
theorem plain_zip : ∀ {l : List (List Nat × Nat × Nat)} {cs : List (Option Sy)}, plainPh (zipC l cs) = l
 | [], _ => rfl
 | x :: r, [] => by rw [zipC, plainPh, plain_zip]
 | x :: r, c :: cs => by rw [zipC, plainPh, plain_zip]
noncomputable def phZ (P : Program) (T : List (Nat × TE)) (F Ms : List Nat) (kb : Nat) (l0 : List AV) (n : Nat) (ops : Array Oper) (E : List Nat) (l : List (List Nat × Nat × Nat)) : List (Option Sy) → Nat → Sy → (Sy → Prop) → Prop :=
 List.rec (motive := fun _ => List (Option Sy) → Nat → Sy → (Sy → Prop) → Prop) (fun _ _ Γ K => K Γ) (fun x _ ih cs done Γ K => match cs with
  | [] => floatB T kb l0 n ops x.1 Γ fun Γ1 => treeB P T F Ms kb l0 n ops E x.2.1 (addM done x.1) Γ1 fun d' Γ' => ck (Nat.beq d' x.2.2) (ih [] x.2.2 Γ' K)
  | none :: cs => floatB T kb l0 n ops x.1 Γ fun Γ1 => treeB P T F Ms kb l0 n ops E x.2.1 (addM done x.1) Γ1 fun d' Γ' => ck (Nat.beq d' x.2.2) (ih cs x.2.2 Γ' K)
  | some Γ2 :: cs => Both (floatB T kb l0 n ops x.1 Γ fun Γ1 => treeB P T F Ms kb l0 n ops E x.2.1 (addM done x.1) Γ1 fun d' Γ' => ck (Nat.beq d' x.2.2) (Leaf (Sub Γ' Γ2 (mkRen Γ' Γ2)))) (ih cs x.2.2 Γ2 K)) l
theorem phZ_to {P : Program} {T : List (Nat × TE)} {F Ms : List Nat} {kb : Nat} {l0 : List AV} {n : Nat} {ops : Array Oper} {E : List Nat} : ∀ {l : List (List Nat × Nat × Nat)} {cs : List (Option Sy)}, phZ P T F Ms kb l0 n ops E l cs = phB P T F Ms kb l0 n ops E (zipC l cs)
 | [], cs => rfl
 | x :: r, [] => by
  have ih := phZ_to (P := P) (T := T) (F := F) (Ms := Ms) (kb := kb) (l0 := l0) (n := n) (ops := ops) (E := E) (l := r) (cs := [])
  funext done Γ K
  show (floatB T kb l0 n ops x.1 Γ fun Γ1 => treeB P T F Ms kb l0 n ops E x.2.1 (addM done x.1) Γ1 fun d' Γ' => ck (Nat.beq d' x.2.2) (phZ P T F Ms kb l0 n ops E r [] x.2.2 Γ' K)) = _
  rw [ih]; rfl
 | x :: r, none :: cs => by
  have ih := phZ_to (P := P) (T := T) (F := F) (Ms := Ms) (kb := kb) (l0 := l0) (n := n) (ops := ops) (E := E) (l := r) (cs := cs)
  funext done Γ K
  show (floatB T kb l0 n ops x.1 Γ fun Γ1 => treeB P T F Ms kb l0 n ops E x.2.1 (addM done x.1) Γ1 fun d' Γ' => ck (Nat.beq d' x.2.2) (phZ P T F Ms kb l0 n ops E r cs x.2.2 Γ' K)) = _
  rw [ih]; rfl
 | x :: r, some Γ2 :: cs => by
  have ih := phZ_to (P := P) (T := T) (F := F) (Ms := Ms) (kb := kb) (l0 := l0) (n := n) (ops := ops) (E := E) (l := r) (cs := cs)
  funext done Γ K
  show Both (floatB T kb l0 n ops x.1 Γ fun Γ1 => treeB P T F Ms kb l0 n ops E x.2.1 (addM done x.1) Γ1 fun d' Γ' => ck (Nat.beq d' x.2.2) (Leaf (Sub Γ' Γ2 (mkRen Γ' Γ2)))) (phZ P T F Ms kb l0 n ops E r cs x.2.2 Γ2 K) = _
  rw [ih]; rfl
theorem W.drawBC {P : Program} {n : Nat} {Q : Exit → Sy → Prop} {Γ : Sy} {T : List (Nat × TE)} (hT : TOk P T) (F Ms : List Nat) (hmx : P.follows .mixedOrders = true) (kb : Nat) (l0 : List AV) (hl : (Nat.ble PK (kb % PK2) && detL l0) = true) (hbx : get? Γ.own kb = some (.box l0)) (E : List Nat) (ph : List (List Nat × Nat × Nat)) (cs : List (Option Sy)) {id : Nat} {ops : Array Oper}
  (hd : (allBelow ops.size (fun j => match ops[j]? with
   | none => false
   | some o => edgesLt j o.after.toList) && (dirms ops == E) && phOk ops ph 0 && Region.noSelect ops) = true)
  (h : phZ P T F Ms kb l0 n ops E ph cs 0 Γ fun Γ' => Q .normal Γ') : W P n (.region id ops true) Γ Q := by
 rw [phZ_to] at h
 exact W.drawB hT F Ms hmx kb l0 hl hbx E (zipC ph cs) (by rw [plain_zip]; exact hd) h
end Go.Vc
namespace Go.Proofs.Ytkjcnegkdlmapaa
open Int renaming reduceToNat → zr, reduceTDiv → zd, reduceTMod → zm
open Go Go.Vc Go.Rg
variable {n : Nat} {pet : Bool}
set_option maxHeartbeats 8000000 in
theorem sendd_at {d : Dn} {i : Nat} {k v : Int} (hi : i < d.2.1.length) (hf : ((d.2.1.getD i []).length : Int) ≤ d.2.2) (hs : 0 ≤ d.2.2 ∧ d.2.2 ≤ 1000000) : FnM Try.prog 79 [.padr 1000000000 0, (.lit (.int .i64 (i : Int))), (.lit (.int .i64 (k : Int))), (.lit (.int .i64 (v : Int)))] [(1000000000, .box [.lit (.bool pet), .own 1000000001, .own 1000000002, (.lit (.int .i64 ((d).2.2 : Int)))]), (1000000001, .row 111 WT true (d).1), (1000000002, .row 80 (.sl NT) true (d).2.1)] (.tup []) [(1000000000, .box [.lit (.bool pet), .own 1000000001, .own 1000000002, (.lit (.int .i64 (((sendD i k v d)).2.2 : Int)))]), (1000000001, .row 111 WT true ((sendD i k v d)).1), (1000000002, .row 80 (.sl NT) true ((sendD i k v d)).2.1)] := by
 have e0 : 0 ≤ (i : Int) ∧ i < d.2.1.length := ⟨by omega, hi⟩
 have f1 : ([] : List Nt).length + (d.2.1.getD i []).length ≤ 4294967296 := by rw [List.length_nil]; omega
 have f2 : (([] : List Nt) ++ d.2.1.getD i []).length + [((k, v, ()) : Nt)].length ≤ 4294967296 := by rw [List.nil_append, List.length_singleton]; omega
 have f3 : i < d.2.1.length := hi
 refine FnM.of_body tys_ok Try.func79 (by rfl) rfl Try.ntmps79 (by rw [Try.results79]) (by simp) ?_
 repeat' (first
 | refine W.seq ?_
 | refine W.block ?_
 | (refine W.drawBC (id := 0) tys_ok [] [] mixed 1000000000 [.lit (.bool pet), .own 1000000001, .own 1000000002, (.lit (.int .i64 (d.2.2 : Int)))] rfl rfl [0, 1, 2, 4, 0, 0, 0, 64, 128, 256, 0, 1536, 2048, 4128, 0, 0, 49152, 65536, 139264, 524287, 1048575] [([0, 1, 2, 3, 4, 6, 7, 8, 9, 10, 11, 14, 15], 5, 262143), ([], 1, 524287), ([19], 1, 2097151)] [none, some ⟨[(0, .padr 1000000000 0), (11, .own 1000000002), (12, (.lit (.int .i64 (i : Int)))), (26, .st true (.arr NT (d.2.1.getD i [] ++ [(k, v, ())])))], [(1000000000, .box [.lit (.bool pet), .own 1000000001, .own 1000000002, (.lit (.int .i64 ((d).2.2 : Int)))]), (1000000001, .row 111 WT true (d).1), (1000000002, .row 80 (.sl NT) true (d).2.1)]⟩, none] (by decide +kernel) ?_; conv => whnf)
 | (refine W.region tys_ok [] ?_; conv => whnf)
 | (refine W.drawAll tys_ok [] mixed rfl ?_; conv => whnf)
 | (refine W.ret ?_; conv => whnf)
 | (refine W.skip ?_; conv => whnf)
 | (refine W.exit ?_; conv => whnf)
 | (refine Both.mk ?_ ?_ <;> (conv => whnf))
 | (refine W.cond rfl (fun hb => ?_) (fun hb => ?_) <;> (try simp only [zr, zd, zm, minL, maxL, pickB, zA] at hb) <;> (try (first | (cases hb; done) | exact absurd hb (by decide) | (exfalso; omega) | (omega))))
 | (refine Or.inl (And.intro trivial ?_); (conv => whnf))
 | ((with_reducible refine And.intro ?_ ?_); exact zc; conv => whnf)
 | ((with_reducible refine And.intro (Side.out ?_) ?_); rotate_left; (conv => whnf))
 | ((first | refine retM1 ?_ | refine retM2 ?_ | refine subF.leaf ?_ | refine subF.side ?_) <;> (conv => whnf) <;> repeat' (first
 | exact trivial
 | (with_reducible rfl)
 | ((with_reducible refine And.intro ?_ ?_) <;> conv => whnf)
 | omega
 | rfl
 | (refine congrArg (SV.arr _) ?_)
 | (refine congrArg (Value.int _) ?_)
 | (refine congrArg Value.bool ?_)))); all_goals (try unfold Side)
 all_goals first | exact Path.imp_of e0 | exact Path.imp_of f3 | exact f3 | exact f1 | exact f2 | (repeat' (first | exact zb | with_reducible refine And.intro ?_ ?_))
end Go.Proofs.Ytkjcnegkdlmapaa
namespace Go.Vc
theorem W.joinTo {P : Program} {n : Nat} {Q : Exit → Sy → Prop} {Γ : Sy} {t : Nat} {u x y z : Code} (Γ' : Sy) (h1 : W P n (.seq u (.cond (.tmp t) x y)) Γ (thenQ (fun Γ1 => Leaf (Sub Γ1 Γ' (mkRen Γ1 Γ'))) Q)) (h2 : W P n z Γ' Q) : W P n (.seq (.seq u (.cond (.tmp t) x y)) z) Γ Q := by
 refine W.seq ⟨fun c g a w hn hst => wp_mono (h1.out c g a w hn hst) fun e a' w' hq => ?_⟩
 obtain ⟨Γ1, g', h3, h4⟩ := hq
 cases e with
 | normal => exact ⟨Γ1, g', (let ⟨h5⟩ := h3; W.sub h5 h2), h4⟩
 | _ => exact ⟨Γ1, g', h3, h4⟩
end Go.Vc
