/- Joined of: H12 H13 Ha14 Ha15 Ha16 H26 Ha17. No condition. -/
import Derived.Test.YtmfholchenihaaaJ7
import Derived.Test.YtmfholchenihaaaJ6

namespace Go.Proofs.Ytmfholchenihaaa
open Go Go.Vc Go.Sh
set_option linter.unusedVariables false
set_option linter.unusedSimpArgs false
end Go.Proofs.Ytmfholchenihaaa
namespace Go.Proofs.Ytmfholchenihaaa
open Go Go.Vc Go.Sh
set_option linter.unusedVariables false
set_option linter.unusedSimpArgs false
theorem same_at {a b : List Int} (ha : a.length ≤ 1000) (hb : b.length ≤ 1000) : FnAt Try.prog false 23 [.arr (.int .i64) a, .arr (.int .i64) b] (.lit (.bool (decide (a = b)))) [] := by
  have hal : @List.length (Ty.int .i64).T a = a.length := rfl
  have hbl : @List.length (Ty.int .i64).T b = b.length := rfl
  have hno : a.length ≠ b.length → decide (a = b) = false := fun h => decide_eq_false fun e => h (by rw [e])
  have hno2 : ∀ i, a.getD i 0 ≠ b.getD i 0 → decide (a = b) = false := fun i h => decide_eq_false fun e => h (by rw [e])
  have hyes : a.length = b.length → (∀ i, i < a.length → a.getD i 0 = b.getD i 0) → decide (a = b) = true := fun h1 h2 => decide_eq_true (ext_get h1 h2)
  obtain ⟨D, hD⟩ : ∃ D, D = decide (a = b) := ⟨_, rfl⟩
  rw [← hD] at hno hno2 hyes ⊢
  clear hD
  refine FnAt.of_body tys_ok Try.func23 (by rfl) rfl Try.ntmps23 (by rw [Try.results23]) (by simp) ?_
  
  by_cases hl : a.length = b.length
  · repeat' (first
 | refine W.seq ?_
 | refine W.block ?_
 | (refine W.region tys_ok [] ?_; conv => whnf)
 | (refine W.drawAll tys_ok [] mixed rfl ?_; conv => whnf)
 | (refine W.ret ?_; conv => whnf)
 | (refine W.skip ?_; conv => whnf)
 | (refine W.exit ?_; conv => whnf)
 | (refine W.cond rfl (fun hb => ?_) (fun hb => ?_) <;> (try simp only [Int.reduceToNat, Int.reduceTDiv, Int.reduceTMod, minL, maxL, pickB, zHB, zSH] at hb) <;> (try (first | (cases hb; done) | exact absurd hb (by decide) | (exfalso; omega) | (omega))))
 | ((with_reducible refine And.intro ?_ ?_); (focus (first | (with_reducible rfl) | omega | rfl | ((try simp only [Int.reduceToNat, Int.reduceTDiv, Int.reduceTMod, minL, maxL, pickB, zHB, zSH, InK, Path.imp, zL] at *); omega))); (conv => whnf))
 | ((with_reducible refine And.intro (Side.out ?_) ?_); rotate_left; (conv => whnf))
 | ((first | refine retF1 ?_ | refine retF2 ?_) <;> (conv => whnf) <;> repeat' (first
 | exact trivial
 | (with_reducible rfl)
 | ((with_reducible refine And.intro ?_ ?_) <;> conv => whnf)
 | omega
 | rfl
 | (refine congrArg (SV.arr _) ?_)
 | (refine congrArg (Value.int _) ?_)
 | (refine congrArg Value.bool ?_)))); all_goals (try unfold Side)
    all_goals try (repeat' (first | (with_reducible rfl) | (with_reducible refine And.intro ?_ ?_) | omega | rfl | exact Or.inl rfl | exact Or.inr rfl | exact of_decide_eq_true rfl | exact Path.imp_of (of_decide_eq_true rfl) | (focus ((try simp only [Int.reduceToNat, Int.reduceTDiv, Int.reduceTMod, minL, maxL, pickB, zHB, zSH, InK, Path.imp, zL] at *); omega)) | (refine app_le rfl ?_; omega)))
    refine W.loop (fun i : Nat => ⟨[(0, .st false (.arr (.int .i64) (a : List Int))), (1, .st false (.arr (.int .i64) (b : List Int))), (5, .lit (.int .i64 (i)))], []⟩) (fun i => i ≤ a.length ∧ (∀ m, m < i → a.getD m 0 = b.getD m 0)) (fun i => a.length - i) (0) ?_ ?_
    · refine ⟨⟨Nat.zero_le _, by omega⟩, ?_⟩
      refine subF.ok ?_ <;> (conv => whnf) <;> repeat' (first
 | exact trivial
 | (with_reducible rfl)
 | ((with_reducible refine And.intro ?_ ?_) <;> conv => whnf)
 | omega
 | rfl
 | (refine congrArg (SV.arr _) ?_)
 | (refine congrArg (Value.int _) ?_)
 | (refine congrArg Value.bool ?_))
    · rintro i ⟨hi, hj⟩
      by_cases hil : i < a.length
      · by_cases hc : a.getD i 0 = b.getD i 0
        · repeat' (first
 | refine W.seq ?_
 | refine W.block ?_
 | (refine W.drawPh (id := 6) tys_ok [] mixed [0, 0, 3, 4, 0, 0, 48, 64, 136] [([0, 1, 2, 3, 4, 5, 6, 7, 8], 0, 511)] (by decide +kernel) ?_; conv => whnf)
 | (refine W.region tys_ok [] ?_; conv => whnf)
 | (refine W.drawAll tys_ok [] mixed rfl ?_; conv => whnf)
 | (refine W.ret ?_; conv => whnf)
 | (refine W.skip ?_; conv => whnf)
 | (refine W.exit ?_; conv => whnf)
 | (refine Both.mk ?_ ?_ <;> (conv => whnf))
 | (refine W.cond rfl (fun hb => ?_) (fun hb => ?_) <;> (try simp only [Int.reduceToNat, Int.reduceTDiv, Int.reduceTMod, minL, maxL, pickB, zHB, zSH] at hb) <;> (try (first | (cases hb; done) | exact absurd hb (by decide) | (exfalso; omega) | (omega))))
 | ((with_reducible refine And.intro ?_ ?_); (focus (first | (with_reducible rfl) | omega | rfl | ((try simp only [Int.reduceToNat, Int.reduceTDiv, Int.reduceTMod, minL, maxL, pickB, zHB, zSH, InK, Path.imp, zL] at *); omega))); (conv => whnf))
 | ((with_reducible refine And.intro (Side.out ?_) ?_); rotate_left; (conv => whnf))
 | ((first | refine retF1 ?_ | refine retF2 ?_ | refine subF.leaf ?_ | refine subF.side ?_) <;> (conv => whnf) <;> repeat' (first
 | exact trivial
 | (with_reducible rfl)
 | ((with_reducible refine And.intro ?_ ?_) <;> conv => whnf)
 | omega
 | rfl
 | (refine congrArg (SV.arr _) ?_)
 | (refine congrArg (Value.int _) ?_)
 | (refine congrArg Value.bool ?_)))); all_goals (try unfold Side)
          all_goals try (repeat' (first | (with_reducible rfl) | (with_reducible refine And.intro ?_ ?_) | omega | rfl | exact Or.inl rfl | exact Or.inr rfl | exact of_decide_eq_true rfl | exact Path.imp_of (of_decide_eq_true rfl) | (focus ((try simp only [Int.reduceToNat, Int.reduceTDiv, Int.reduceTMod, minL, maxL, pickB, zHB, zSH, InK, Path.imp, zL] at *); omega)) | (refine app_le rfl ?_; omega)))
          refine ⟨i + 1, ⟨⟨by omega, fun m hm => ?_⟩, by omega⟩, ?_⟩
          · by_cases e : m = i
            · subst e; exact hc
            · exact hj m (by omega)
          · refine subF.ok ?_ <;> (conv => whnf) <;> repeat' (first
 | exact trivial
 | (with_reducible rfl)
 | ((with_reducible refine And.intro ?_ ?_) <;> conv => whnf)
 | omega
 | rfl
 | (refine congrArg (SV.arr _) ?_)
 | (refine congrArg (Value.int _) ?_)
 | (refine congrArg Value.bool ?_))
        · have hn := hno2 i hc
          repeat' (first
 | refine W.seq ?_
 | refine W.block ?_
 | (refine W.drawPh (id := 6) tys_ok [] mixed [0, 0, 3, 4, 0, 0, 48, 64, 136] [([0, 1, 2, 3, 4, 5, 6, 7, 8], 0, 511)] (by decide +kernel) ?_; conv => whnf)
 | (refine W.region tys_ok [] ?_; conv => whnf)
 | (refine W.drawAll tys_ok [] mixed rfl ?_; conv => whnf)
 | (refine W.ret ?_; conv => whnf)
 | (refine W.skip ?_; conv => whnf)
 | (refine W.exit ?_; conv => whnf)
 | (refine Both.mk ?_ ?_ <;> (conv => whnf))
 | (refine W.cond rfl (fun hb => ?_) (fun hb => ?_) <;> (try simp only [Int.reduceToNat, Int.reduceTDiv, Int.reduceTMod, minL, maxL, pickB, zHB, zSH] at hb) <;> (try (first | (cases hb; done) | exact absurd hb (by decide) | (exfalso; omega) | (omega))))
 | ((with_reducible refine And.intro ?_ ?_); (focus (first | (with_reducible rfl) | omega | rfl | ((try simp only [Int.reduceToNat, Int.reduceTDiv, Int.reduceTMod, minL, maxL, pickB, zHB, zSH, InK, Path.imp, zL] at *); omega))); (conv => whnf))
 | ((with_reducible refine And.intro (Side.out ?_) ?_); rotate_left; (conv => whnf))
 | ((first | refine retF1 ?_ | refine retF2 ?_ | refine subF.leaf ?_ | refine subF.side ?_) <;> (conv => whnf) <;> repeat' (first
 | exact trivial
 | (with_reducible rfl)
 | ((with_reducible refine And.intro ?_ ?_) <;> conv => whnf)
 | omega
 | rfl
 | (refine congrArg (SV.arr _) ?_)
 | (refine congrArg (Value.int _) ?_)
 | (refine congrArg Value.bool ?_)))); all_goals (try unfold Side)
          all_goals try (repeat' (first | (with_reducible rfl) | (with_reducible refine And.intro ?_ ?_) | omega | rfl | exact Or.inl rfl | exact Or.inr rfl | exact of_decide_eq_true rfl | exact Path.imp_of (of_decide_eq_true rfl) | (focus ((try simp only [Int.reduceToNat, Int.reduceTDiv, Int.reduceTMod, minL, maxL, pickB, zHB, zSH, InK, Path.imp, zL] at *); omega)) | (refine app_le rfl ?_; omega)))
          all_goals exact hn.symm
      · have hie : a.length = i := by omega
        subst hie
        have hy := hyes hl hj
        repeat' (first
 | refine W.seq ?_
 | refine W.block ?_
 | (refine W.region tys_ok [] ?_; conv => whnf)
 | (refine W.drawAll tys_ok [] mixed rfl ?_; conv => whnf)
 | (refine W.ret ?_; conv => whnf)
 | (refine W.skip ?_; conv => whnf)
 | (refine W.exit ?_; conv => whnf)
 | (refine W.cond rfl (fun hb => ?_) (fun hb => ?_) <;> (try simp only [Int.reduceToNat, Int.reduceTDiv, Int.reduceTMod, minL, maxL, pickB, zHB, zSH] at hb) <;> (try (first | (cases hb; done) | exact absurd hb (by decide) | (exfalso; omega))))
 | ((with_reducible refine And.intro ?_ ?_); (focus (first | (with_reducible rfl) | omega | rfl | ((try simp only [Int.reduceToNat, Int.reduceTDiv, Int.reduceTMod, minL, maxL, pickB, zHB, zSH, InK, Path.imp, zL] at *); omega))); (conv => whnf))
 | ((with_reducible refine And.intro (Side.out ?_) ?_); rotate_left; (conv => whnf))
 | ((first | refine retF1 ?_ | refine retF2 ?_) <;> (conv => whnf) <;> repeat' (first
 | exact trivial
 | (with_reducible rfl)
 | ((with_reducible refine And.intro ?_ ?_) <;> conv => whnf)
 | omega
 | rfl
 | (refine congrArg (SV.arr _) ?_)
 | (refine congrArg (Value.int _) ?_)
 | (refine congrArg Value.bool ?_)))); all_goals (try unfold Side)
        all_goals try (repeat' (first | (with_reducible rfl) | (with_reducible refine And.intro ?_ ?_) | omega | rfl | exact Or.inl rfl | exact Or.inr rfl | exact of_decide_eq_true rfl | exact Path.imp_of (of_decide_eq_true rfl) | (focus ((try simp only [Int.reduceToNat, Int.reduceTDiv, Int.reduceTMod, minL, maxL, pickB, zHB, zSH, InK, Path.imp, zL] at *); omega)) | (refine app_le rfl ?_; omega)))
        all_goals exact hy.symm
  · have hn := hno hl
    repeat' (first
 | refine W.seq ?_
 | refine W.block ?_
 | (refine W.region tys_ok [] ?_; conv => whnf)
 | (refine W.drawAll tys_ok [] mixed rfl ?_; conv => whnf)
 | (refine W.ret ?_; conv => whnf)
 | (refine W.skip ?_; conv => whnf)
 | (refine W.exit ?_; conv => whnf)
 | (refine W.cond rfl (fun hb => ?_) (fun hb => ?_) <;> (try simp only [Int.reduceToNat, Int.reduceTDiv, Int.reduceTMod, minL, maxL, pickB, zHB, zSH] at hb) <;> (try (first | (cases hb; done) | exact absurd hb (by decide) | (exfalso; omega) | (omega))))
 | ((with_reducible refine And.intro ?_ ?_); (focus (first | (with_reducible rfl) | omega | rfl | ((try simp only [Int.reduceToNat, Int.reduceTDiv, Int.reduceTMod, minL, maxL, pickB, zHB, zSH, InK, Path.imp, zL] at *); omega))); (conv => whnf))
 | ((with_reducible refine And.intro (Side.out ?_) ?_); rotate_left; (conv => whnf))
 | ((first | refine retF1 ?_ | refine retF2 ?_) <;> (conv => whnf) <;> repeat' (first
 | exact trivial
 | (with_reducible rfl)
 | ((with_reducible refine And.intro ?_ ?_) <;> conv => whnf)
 | omega
 | rfl
 | (refine congrArg (SV.arr _) ?_)
 | (refine congrArg (Value.int _) ?_)
 | (refine congrArg Value.bool ?_)))); all_goals (try unfold Side)
    all_goals try (repeat' (first | (with_reducible rfl) | (with_reducible refine And.intro ?_ ?_) | omega | rfl | exact Or.inl rfl | exact Or.inr rfl | exact of_decide_eq_true rfl | exact Path.imp_of (of_decide_eq_true rfl) | (focus ((try simp only [Int.reduceToNat, Int.reduceTDiv, Int.reduceTMod, minL, maxL, pickB, zHB, zSH, InK, Path.imp, zL] at *); omega)) | (refine app_le rfl ?_; omega)))
    all_goals exact hn.symm
theorem cut_list {α : Type} {k : Nat} (l : List α) : List.drop 0 (List.take (minL (l.length : Int) [(k : Int)]).toNat l) = l.take k ∧ 0 ≤ minL (l.length : Int) [(k : Int)] ∧ minL (l.length : Int) [(k : Int)] ≤ l.length := by
  have e : (minL (l.length : Int) [(k : Int)]).toNat = min l.length k := by simp only [minL]; omega
  have e' : 0 ≤ minL (l.length : Int) [(k : Int)] ∧ minL (l.length : Int) [(k : Int)] ≤ l.length := by simp only [minL]; omega
  refine ⟨?_, e'⟩
  rw [e, List.drop_zero, Nat.min_comm, ← List.take_take, List.take_length]
set_option maxHeartbeats 4000000 in
theorem few_at {P : Int} (l : List Jb) (os : List Od) : FnAt Try.prog false 15 [.agg [I64 P, .arr JT l, .arr OT os]] (.strct [.lit (.int .i64 P), .own 0, .own 1]) [(0, .row 45 JT true (l.take 7)), (1, .row 79 OT true (os.take 21))] := by
  obtain ⟨j1, j2, j3⟩ := cut_list (k := 7) l
  obtain ⟨o1, o2, o3⟩ := cut_list (k := 21) os
  refine FnAt.of_body tys_ok Try.func15 (by rfl) rfl Try.ntmps15 (by rw [Try.results15]) (by simp) ?_
  
  have j4 : 0 + (List.drop 0 (List.take (minL (l.length : Int) [((7 : Nat) : Int)]).toNat l)).length ≤ 4294967296 := by rw [j1]; simp only [List.length_take]; omega
  have o4 : 0 + (List.drop 0 (List.take (minL (os.length : Int) [((21 : Nat) : Int)]).toNat os)).length ≤ 4294967296 := by rw [o1]; simp only [List.length_take]; omega
  repeat' (first
 | refine W.seq ?_
 | refine W.block ?_
 | (refine W.resub (x := Code.region 1 _ _) (Γ' := ⟨[(1, .st false (.sadr (.agg [I64 P, .arr JT l, .arr OT os]))), (2, .padr 3000 0)], [(3000, .box [.lit (.int .i64 0), .lit (.slice none 0 0), .lit (.slice none 0 0)])]⟩) ?_ (W.drawPh (id := 1) tys_ok [] mixed [0, 1, 0, 0, 8, 0, 32, 64, 128, 272, 516, 0, 0, 4096, 0, 16384, 32768, 65536, 139264, 265216, 525314, 2097151] [([0, 1, 3, 4, 5, 6, 7, 8, 9, 12, 13, 14, 15, 16, 17, 18], 3, 524287), ([], 1, 1048575), ([], 1, 2097151), ([], 1, 4194303)] (by decide +kernel) ?_); rotate_left; (conv => whnf))
 | (refine W.region tys_ok [] ?_; conv => whnf)
 | (refine W.drawAll tys_ok [] mixed rfl ?_; conv => whnf)
 | (refine W.ret ?_; conv => whnf)
 | (refine W.skip ?_; conv => whnf)
 | (refine W.exit ?_; conv => whnf)
 | (refine Both.mk ?_ ?_ <;> (conv => whnf))
 | (refine W.cond rfl (fun hb => ?_) (fun hb => ?_) <;> (try simp only [Int.reduceToNat, Int.reduceTDiv, Int.reduceTMod, minL, maxL, pickB, zHB, zSH] at hb) <;> (try (first | (cases hb; done) | exact absurd hb (by decide) | (exfalso; omega))))
 | ((with_reducible refine And.intro ?_ ?_); (focus (first | (with_reducible rfl) | omega | rfl | ((try simp only [Int.reduceToNat, Int.reduceTDiv, Int.reduceTMod, minL, maxL, pickB, zHB, zSH, InK, Path.imp, zL] at *); omega))); (conv => whnf))
 | ((with_reducible refine And.intro (Side.out ?_) ?_); rotate_left; (conv => whnf))
 | ((first | refine retF1 ?_ | refine retF2 ?_ | refine subF.leaf ?_ | refine subF.side ?_) <;> (conv => whnf) <;> repeat' (first
 | exact trivial
 | (with_reducible rfl)
 | ((with_reducible refine And.intro ?_ ?_) <;> conv => whnf)
 | omega
 | rfl
 | (refine congrArg (SV.arr _) ?_)
 | (refine congrArg (Value.int _) ?_)
 | (refine congrArg Value.bool ?_)))); all_goals (try unfold Side)
  all_goals try (repeat' (first | (with_reducible rfl) | (with_reducible refine And.intro ?_ ?_) | omega | rfl | exact Or.inl rfl | exact Or.inr rfl | exact of_decide_eq_true rfl | exact Path.imp_of (of_decide_eq_true rfl) | (focus ((try simp only [Int.reduceToNat, Int.reduceTDiv, Int.reduceTMod, minL, maxL, pickB, zHB, zSH, InK, Path.imp, zL] at *); omega)) | (refine app_le rfl ?_; omega)))
  all_goals first | exact j1 | exact o1 | exact j4 | exact o4
theorem few_eq {P : Int} {l l' : List Jb} {os os' : List Od} (h1 : l' = l.take 7) (h2 : os' = os.take 21) : FnAt Try.prog false 15 [.agg [I64 P, .arr JT l, .arr OT os]] (.strct [.lit (.int .i64 P), .own 0, .own 1]) [(0, .row 45 JT true l'), (1, .row 79 OT true os')] := by
  subst h1 h2
  exact few_at l os
end Go.Proofs.Ytmfholchenihaaa
namespace Go.Sh
set_option linter.unusedVariables false
set_option linter.unusedSimpArgs false
theorem pv_len {P : Int} {os : List Od} {pf : List Nd} : ∀ {k num : Nat} {l : List Jb} {sn : List Bool}, (pvT P os pf k num l sn).2.length = sn.length
  | 0, num, l, sn => rfl
  | k + 1, num, l, sn => by
    unfold pvT
    split
    · rfl
    split
    · split
      · split
        · rw [pv_len, pv_len]; simp
        · rw [pv_len]; simp
      · simp
    split
    · simp
    split <;> simp
theorem pv_seen {P : Int} {os : List Od} {pf : List Nd} {k num : Nat} {l : List Jb} {sn : List Bool} (h : sn.getD num false = true) : pvT P os pf (k + 1) num l sn = (false, sn) := by
  unfold pvT; rw [if_pos h]
theorem pv_split {P : Int} {os : List Od} {pf : List Nd} {k num : Nat} {l : List Jb} {sn : List Bool} (h : sn.getD num false = false) (h1 : (pf.getD num N0).1 = 1) (h2 : splitB l pf.length num (pf.getD num N0) = true) :
    pvT P os pf (k + 1) num l sn = (if (pvT P os pf k (pf.getD num N0).2.2.2.2.1.toNat (partL l (pf.getD num N0).2.1.toNat (pf.getD num N0).2.2.1) (sn.set num true)).1 = true then
          pvT P os pf k (pf.getD num N0).2.2.2.2.2.1.toNat (partR l (pf.getD num N0).2.1.toNat (pf.getD num N0).2.2.1) (pvT P os pf k (pf.getD num N0).2.2.2.2.1.toNat (partL l (pf.getD num N0).2.1.toNat (pf.getD num N0).2.2.1) (sn.set num true)).2
        else (false, (pvT P os pf k (pf.getD num N0).2.2.2.2.1.toNat (partL l (pf.getD num N0).2.1.toNat (pf.getD num N0).2.2.1) (sn.set num true)).2)) := by
  have h1' : (pf.getD num N0).kind = 1 := h1
  rw [pvT, if_neg (by rw [h]; decide), if_pos h1', if_pos h2]; rfl
theorem pv_nosplit {P : Int} {os : List Od} {pf : List Nd} {k num : Nat} {l : List Jb} {sn : List Bool} (h : sn.getD num false = false) (h1 : (pf.getD num N0).1 = 1) (h2 : splitB l pf.length num (pf.getD num N0) = false) :
    pvT P os pf (k + 1) num l sn = (false, sn.set num true) := by
  have h1' : (pf.getD num N0).kind = 1 := h1
  rw [pvT, if_neg (by rw [h]; decide), if_pos h1', if_neg (by rw [h2]; decide)]
theorem pv_crowd {P : Int} {os : List Od} {pf : List Nd} {k num : Nat} {l : List Jb} {sn : List Bool} (h : sn.getD num false = false) (h1 : (pf.getD num N0).1 = 2) :
    pvT P os pf (k + 1) num l sn = (crowdB P l (pf.getD num N0), sn.set num true) := by
  have h1' : (pf.getD num N0).kind = 2 := h1
  rw [pvT, if_neg (by rw [h]; decide), if_neg (by rw [h1']; decide), if_pos h1']
theorem pv_behind {P : Int} {os : List Od} {pf : List Nd} {k num : Nat} {l : List Jb} {sn : List Bool} (h : sn.getD num false = false) (h1 : (pf.getD num N0).1 = 3) :
    pvT P os pf (k + 1) num l sn = (behindB l os (pf.getD num N0), sn.set num true) := by
  have h1' : (pf.getD num N0).kind = 3 := h1
  rw [pvT, if_neg (by rw [h]; decide), if_neg (by rw [h1']; decide), if_neg (by rw [h1']; decide), if_pos h1']
theorem pv_else {P : Int} {os : List Od} {pf : List Nd} {k num : Nat} {l : List Jb} {sn : List Bool} (h : sn.getD num false = false) (h1 : (pf.getD num N0).1 ≠ 1) (h2 : (pf.getD num N0).1 ≠ 2) (h3 : (pf.getD num N0).1 ≠ 3) :
    pvT P os pf (k + 1) num l sn = (false, sn.set num true) := by
  have h1' : (pf.getD num N0).kind ≠ 1 := h1
  have h2' : (pf.getD num N0).kind ≠ 2 := h2
  have h3' : (pf.getD num N0).kind ≠ 3 := h3
  rw [pvT, if_neg (by rw [h]; decide), if_neg h1', if_neg h2', if_neg h3']
theorem split_iff {l : List Jb} {len num : Nat} {x : Nd} : splitB l len num x = true ↔ x.2.2.2.1 = 0 ∧ (0 ≤ x.2.1 ∧ x.2.1 < l.length) ∧ (jf l x.2.1.toNat ≤ x.2.2.1 ∧ x.2.2.1 < jt l x.2.1.toNat - jl l x.2.1.toNat) ∧ (((num : Int) < x.2.2.2.2.1 ∧ (num : Int) < x.2.2.2.2.2.1) ∧ x.2.2.2.2.1 < len ∧ x.2.2.2.2.2.1 < len) := by
  unfold splitB Nd.b Nd.job Nd.a Nd.lf Nd.rt
  simp only [Bool.and_eq_true, decide_eq_true_eq]
end Go.Sh
namespace Go.Sh
set_option linter.unusedVariables false
set_option linter.unusedSimpArgs false
theorem growR_len {P : Int} {os : List Od} {k : Nat} : ∀ {l : List Jb} {N : List Nd}, N.length ≤ 20000 → N.length ≤ (growR P os k l N).2.length ∧ (growR P os k l N).2.length ≤ 20000 := by
  induction k with
  | zero => intro l N h; exact ⟨Nat.le_refl _, h⟩
  | succ k ih =>
    intro l N h
    rw [growR_succ]
    generalize growR P os k = G at ih ⊢
    unfold growS
    split
    · exact ⟨Nat.le_refl _, h⟩
    rename_i hN
    split
    · simp; omega
    split
    · simp; omega
    split
    · simp; omega
    · rename_i j hj
      have h1 := ih (l := partL l j (midT l j)) (N := N ++ [N0]) (by simp; omega)
      have h2 := ih (l := partR l j (midT l j)) (N := (G (partL l j (midT l j)) (N ++ [N0])).2) h1.2
      simp only [List.length_append, List.length_cons, List.length_nil] at h1
      split
      · split
        · dsimp only
          rw [List.length_set]; omega
        · dsimp only; omega
      · dsimp only; omega
theorem gr_long {P : Int} {os : List Od} {k : Nat} {l : List Jb} {N : List Nd} (h : 20000 ≤ N.length) : growR P os (k + 1) l N = (false, N) := by
  rw [growR_succ]; unfold growS; rw [if_pos h]
theorem gr_late {P : Int} {os : List Od} {k : Nat} {l : List Jb} {N : List Nd} (h : ¬ 20000 ≤ N.length) {i : Nat} (h1 : lateI os l = some i) : growR P os (k + 1) l N = (true, (N ++ [N0]).set N.length (3, (i : Int), 0, 0, 0, 0, ())) := by
  rw [growR_succ]; unfold growS; rw [if_neg h, h1]
  simp
theorem gr_over {P : Int} {os : List Od} {k : Nat} {l : List Jb} {N : List Nd} (h : ¬ 20000 ≤ N.length) (h1 : lateI os l = none) {a b : Nat} (h2 : overF P l = some (a, b)) : growR P os (k + 1) l N = (true, (N ++ [N0]).set N.length (2, 0, (a : Int), (b : Int), 0, 0, ())) := by
  rw [growR_succ]; unfold growS; rw [if_neg h, h1]
  dsimp only
  rw [h2]
  simp
theorem gr_none {P : Int} {os : List Od} {k : Nat} {l : List Jb} {N : List Nd} (h : ¬ 20000 ≤ N.length) (h1 : lateI os l = none) (h2 : overF P l = none) (h3 : pickK l l.length = none) : growR P os (k + 1) l N = (false, N ++ [N0]) := by
  rw [growR_succ]; unfold growS; rw [if_neg h, h1]
  dsimp only
  rw [h2]
  dsimp only
  rw [h3]
theorem gr_pick {P : Int} {os : List Od} {k : Nat} {l : List Jb} {N : List Nd} (h : ¬ 20000 ≤ N.length) (h1 : lateI os l = none) (h2 : overF P l = none) {j : Nat} (h3 : pickK l l.length = some j) : growR P os (k + 1) l N =
    if (growR P os k (partL l j (midT l j)) (N ++ [N0])).1 = true then
      (if (growR P os k (partR l j (midT l j)) (growR P os k (partL l j (midT l j)) (N ++ [N0])).2).1 = true then
        (true, (growR P os k (partR l j (midT l j)) (growR P os k (partL l j (midT l j)) (N ++ [N0])).2).2.set N.length
          (1, (j : Int), midT l j, 0, (N.length : Int) + 1, ((growR P os k (partL l j (midT l j)) (N ++ [N0])).2.length : Int), ()))
      else (false, (growR P os k (partR l j (midT l j)) (growR P os k (partL l j (midT l j)) (N ++ [N0])).2).2))
    else (false, (growR P os k (partL l j (midT l j)) (N ++ [N0])).2) := by
  rw [growR_succ]; unfold growS; rw [if_neg h, h1]
  dsimp only
  rw [h2]
  dsimp only
  rw [h3]
def pkI (l : List Jb) (k : Nat) : Int := match pickK l k with
  | some j => (j : Int)
  | none => -1
theorem pk_zero {l : List Jb} : pkI l 0 = -1 := rfl
def pkC (l : List Jb) (k : Nat) : Prop := 0 < frT l k ∧ (pkI l k < 0 ∨ frT l k < frT l (pkI l k).toNat)
theorem pk_yes {l : List Jb} {k : Nat} (h : pkC l k) : pkI l (k + 1) = k := by
  unfold pkC pkI at h
  unfold pkI
  rw [pickK]
  cases e : pickK l k with
  | none => dsimp only; rw [if_pos h.1]
  | some j =>
    rw [e] at h
    dsimp only at h ⊢
    rw [if_pos ⟨h.1, by rcases h.2 with h2 | h2; · omega
                        · rwa [Int.toNat_natCast] at h2⟩]
theorem pk_no {l : List Jb} {k : Nat} (h : ¬ pkC l k) : pkI l (k + 1) = pkI l k := by
  unfold pkC pkI at h
  unfold pkI
  rw [pickK]
  cases e : pickK l k with
  | none =>
    rw [e] at h
    dsimp only at h ⊢
    rw [if_neg fun h1 => h ⟨h1, .inl (by omega)⟩]
  | some j =>
    rw [e] at h
    dsimp only at h ⊢
    rw [if_neg fun h1 => h ⟨h1.1, .inr (by rw [Int.toNat_natCast]; exact h1.2)⟩]
theorem pk_rg {l : List Jb} {k : Nat} : -1 ≤ pkI l k ∧ pkI l k < k := by
  unfold pkI
  cases e : pickK l k with
  | none => dsimp only; omega
  | some j =>
    have := (pickK_some e).1
    dsimp only; omega
end Go.Sh
namespace Go.Sh
set_option linter.unusedVariables false
set_option linter.unusedSimpArgs false
def outC (x : Int) : Prop := x < 0 ∨ 24 < x
instance (x : Int) : Decidable (outC x) := inferInstanceAs (Decidable (_ ∨ _))
end Go.Sh
namespace Go.Proofs.Ytmfholchenihaaa
open Go Go.Vc Go.Sh
set_option linter.unusedVariables false
set_option linter.unusedSimpArgs false
end Go.Proofs.Ytmfholchenihaaa
namespace Go.Sh
set_option linter.unusedVariables false
set_option linter.unusedSimpArgs false
end Go.Sh

