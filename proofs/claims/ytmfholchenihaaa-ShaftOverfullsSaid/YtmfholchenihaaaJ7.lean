/- Joined of: H13 H19 H20. No condition. -/
import Derived.Test.YtmfholchenihaaaJ5
import Derived.Test.YtmfholchenihaaaJ6

namespace Go.Proofs.Ytmfholchenihaaa
open Go Go.Vc Go.Sh
set_option linter.unusedVariables false
set_option linter.unusedSimpArgs false
theorem same_at {a b : List Int} (ha : a.length ≤ 1000) (hb : b.length ≤ 1000) : FnAt Try.prog false 23 [.arr (.int .i64) a, .arr (.int .i64) b] (.lit (.bool (decide (a = b)))) [] := by
  have hal : @List.length (Ty.int .i64).T a = a.length := rfl
  have hbl : @List.length (Ty.int .i64).T b = b.length := rfl
  have hno : a.length ≠ b.length → decide (a = b) = false := fun h => decide_eq_false fun e => h (by rw [e])
  have hno2 : ∀ i, a.getD i 0 ≠ b.getD i 0 → decide (a = b) = false := fun i h => decide_eq_false fun e => h (by rw [e])
  have hyes : a.length = b.length → (∀ i, i < a.length → a.getD i 0 = b.getD i 0) → decide (a = b) = true := fun h1 h2 => decide_eq_true (ext_get h1 h2)
  obtain ⟨D, hD⟩ : ∃ D, D = decide (a = b) := ⟨_, rfl⟩
  rw [← hD] at hno hno2 hyes ⊢
  clear hD
  refine FnAt.of_body tys_ok Try.func23 (by rfl) rfl Try.ntmps23 (by rw [Try.results23]) (by simp) ?_
  
  by_cases hl : a.length = b.length
  · repeat' (first
 | refine W.seq ?_
 | refine W.block ?_
 | (refine W.region tys_ok [] ?_; conv => whnf)
 | (refine W.drawAll tys_ok [] mixed rfl ?_; conv => whnf)
 | (refine W.ret ?_; conv => whnf)
 | (refine W.skip ?_; conv => whnf)
 | (refine W.exit ?_; conv => whnf)
 | (refine W.cond rfl (fun hb => ?_) (fun hb => ?_) <;> (try simp only [Int.reduceToNat, Int.reduceTDiv, Int.reduceTMod, minL, maxL, pickB, zHB, zSH] at hb) <;> (try (first | (cases hb; done) | exact absurd hb (by decide) | (exfalso; omega) | (omega))))
 | ((with_reducible refine And.intro ?_ ?_); (focus ((repeat' (first | (with_reducible rfl) | (with_reducible refine And.intro ?_ ?_) | omega | rfl | exact Or.inl rfl | exact Or.inr rfl | exact of_decide_eq_true rfl | exact Path.imp_of (of_decide_eq_true rfl) | (focus ((try simp only [Int.reduceToNat, Int.reduceTDiv, Int.reduceTMod, minL, maxL, pickB, zHB, zSH, InK, Path.imp, List.length_replicate, List.length_set, List.length_append, List.length_cons, List.length_nil] at *); omega)) | (refine app_le rfl ?_; omega))); done)); (conv => whnf))
 | ((with_reducible refine And.intro (Side.out ?_) ?_); rotate_left; (conv => whnf))
 | ((first | refine retF1 ?_ | refine retF2 ?_) <;> (conv => whnf) <;> repeat' (first
 | exact trivial
 | (with_reducible rfl)
 | ((with_reducible refine And.intro ?_ ?_) <;> conv => whnf)
 | omega
 | rfl
 | (refine congrArg (SV.arr _) ?_)
 | (refine congrArg (Value.int _) ?_)
 | (refine congrArg Value.bool ?_)))); all_goals (try unfold Side)
    all_goals try (repeat' (first | (with_reducible rfl) | (with_reducible refine And.intro ?_ ?_) | omega | rfl | exact Or.inl rfl | exact Or.inr rfl | exact of_decide_eq_true rfl | exact Path.imp_of (of_decide_eq_true rfl) | (focus ((try simp only [Int.reduceToNat, Int.reduceTDiv, Int.reduceTMod, minL, maxL, pickB, zHB, zSH, InK, Path.imp, List.length_replicate, List.length_set, List.length_append, List.length_cons, List.length_nil] at *); omega)) | (refine app_le rfl ?_; omega)))
    refine W.loop (fun i : Nat => ⟨[(0, .st false (.arr (.int .i64) (a : List Int))), (1, .st false (.arr (.int .i64) (b : List Int))), (5, .lit (.int .i64 (i)))], []⟩) (fun i => i ≤ a.length ∧ (∀ m, m < i → a.getD m 0 = b.getD m 0)) (fun i => a.length - i) (0) ?_ ?_
    · refine ⟨⟨Nat.zero_le _, by omega⟩, ?_⟩
      refine subF.ok ?_ <;> (conv => whnf) <;> repeat' (first
 | exact trivial
 | (with_reducible rfl)
 | ((with_reducible refine And.intro ?_ ?_) <;> conv => whnf)
 | omega
 | rfl
 | (refine congrArg (SV.arr _) ?_)
 | (refine congrArg (Value.int _) ?_)
 | (refine congrArg Value.bool ?_))
    · rintro i ⟨hi, hj⟩
      by_cases hil : i < a.length
      · by_cases hc : a.getD i 0 = b.getD i 0
        · repeat' (first
 | refine W.seq ?_
 | refine W.block ?_
 | (refine W.drawPh (id := 6) tys_ok [] mixed [0, 0, 3, 4, 0, 0, 48, 64, 136] [([0, 1, 2, 3, 4, 5, 6, 7, 8], 0, 511)] (by decide +kernel) ?_; conv => whnf)
 | (refine W.region tys_ok [] ?_; conv => whnf)
 | (refine W.drawAll tys_ok [] mixed rfl ?_; conv => whnf)
 | (refine W.ret ?_; conv => whnf)
 | (refine W.skip ?_; conv => whnf)
 | (refine W.exit ?_; conv => whnf)
 | (refine Both.mk ?_ ?_ <;> (conv => whnf))
 | (refine W.cond rfl (fun hb => ?_) (fun hb => ?_) <;> (try simp only [Int.reduceToNat, Int.reduceTDiv, Int.reduceTMod, minL, maxL, pickB, zHB, zSH] at hb) <;> (try (first | (cases hb; done) | exact absurd hb (by decide) | (exfalso; omega) | (omega))))
 | ((with_reducible refine And.intro ?_ ?_); (focus ((repeat' (first | (with_reducible rfl) | (with_reducible refine And.intro ?_ ?_) | omega | rfl | exact Or.inl rfl | exact Or.inr rfl | exact of_decide_eq_true rfl | exact Path.imp_of (of_decide_eq_true rfl) | (focus ((try simp only [Int.reduceToNat, Int.reduceTDiv, Int.reduceTMod, minL, maxL, pickB, zHB, zSH, InK, Path.imp, List.length_replicate, List.length_set, List.length_append, List.length_cons, List.length_nil] at *); omega)) | (refine app_le rfl ?_; omega))); done)); (conv => whnf))
 | ((with_reducible refine And.intro (Side.out ?_) ?_); rotate_left; (conv => whnf))
 | ((first | refine retF1 ?_ | refine retF2 ?_ | refine subF.leaf ?_ | refine subF.side ?_) <;> (conv => whnf) <;> repeat' (first
 | exact trivial
 | (with_reducible rfl)
 | ((with_reducible refine And.intro ?_ ?_) <;> conv => whnf)
 | omega
 | rfl
 | (refine congrArg (SV.arr _) ?_)
 | (refine congrArg (Value.int _) ?_)
 | (refine congrArg Value.bool ?_)))); all_goals (try unfold Side)
          all_goals try (repeat' (first | (with_reducible rfl) | (with_reducible refine And.intro ?_ ?_) | omega | rfl | exact Or.inl rfl | exact Or.inr rfl | exact of_decide_eq_true rfl | exact Path.imp_of (of_decide_eq_true rfl) | (focus ((try simp only [Int.reduceToNat, Int.reduceTDiv, Int.reduceTMod, minL, maxL, pickB, zHB, zSH, InK, Path.imp, List.length_replicate, List.length_set, List.length_append, List.length_cons, List.length_nil] at *); omega)) | (refine app_le rfl ?_; omega)))
          refine ⟨i + 1, ⟨⟨by omega, fun m hm => ?_⟩, by omega⟩, ?_⟩
          · by_cases e : m = i
            · subst e; exact hc
            · exact hj m (by omega)
          · refine subF.ok ?_ <;> (conv => whnf) <;> repeat' (first
 | exact trivial
 | (with_reducible rfl)
 | ((with_reducible refine And.intro ?_ ?_) <;> conv => whnf)
 | omega
 | rfl
 | (refine congrArg (SV.arr _) ?_)
 | (refine congrArg (Value.int _) ?_)
 | (refine congrArg Value.bool ?_))
        · have hn := hno2 i hc
          repeat' (first
 | refine W.seq ?_
 | refine W.block ?_
 | (refine W.drawPh (id := 6) tys_ok [] mixed [0, 0, 3, 4, 0, 0, 48, 64, 136] [([0, 1, 2, 3, 4, 5, 6, 7, 8], 0, 511)] (by decide +kernel) ?_; conv => whnf)
 | (refine W.region tys_ok [] ?_; conv => whnf)
 | (refine W.drawAll tys_ok [] mixed rfl ?_; conv => whnf)
 | (refine W.ret ?_; conv => whnf)
 | (refine W.skip ?_; conv => whnf)
 | (refine W.exit ?_; conv => whnf)
 | (refine Both.mk ?_ ?_ <;> (conv => whnf))
 | (refine W.cond rfl (fun hb => ?_) (fun hb => ?_) <;> (try simp only [Int.reduceToNat, Int.reduceTDiv, Int.reduceTMod, minL, maxL, pickB, zHB, zSH] at hb) <;> (try (first | (cases hb; done) | exact absurd hb (by decide) | (exfalso; omega) | (omega))))
 | ((with_reducible refine And.intro ?_ ?_); (focus ((repeat' (first | (with_reducible rfl) | (with_reducible refine And.intro ?_ ?_) | omega | rfl | exact Or.inl rfl | exact Or.inr rfl | exact of_decide_eq_true rfl | exact Path.imp_of (of_decide_eq_true rfl) | (focus ((try simp only [Int.reduceToNat, Int.reduceTDiv, Int.reduceTMod, minL, maxL, pickB, zHB, zSH, InK, Path.imp, List.length_replicate, List.length_set, List.length_append, List.length_cons, List.length_nil] at *); omega)) | (refine app_le rfl ?_; omega))); done)); (conv => whnf))
 | ((with_reducible refine And.intro (Side.out ?_) ?_); rotate_left; (conv => whnf))
 | ((first | refine retF1 ?_ | refine retF2 ?_ | refine subF.leaf ?_ | refine subF.side ?_) <;> (conv => whnf) <;> repeat' (first
 | exact trivial
 | (with_reducible rfl)
 | ((with_reducible refine And.intro ?_ ?_) <;> conv => whnf)
 | omega
 | rfl
 | (refine congrArg (SV.arr _) ?_)
 | (refine congrArg (Value.int _) ?_)
 | (refine congrArg Value.bool ?_)))); all_goals (try unfold Side)
          all_goals try (repeat' (first | (with_reducible rfl) | (with_reducible refine And.intro ?_ ?_) | omega | rfl | exact Or.inl rfl | exact Or.inr rfl | exact of_decide_eq_true rfl | exact Path.imp_of (of_decide_eq_true rfl) | (focus ((try simp only [Int.reduceToNat, Int.reduceTDiv, Int.reduceTMod, minL, maxL, pickB, zHB, zSH, InK, Path.imp, List.length_replicate, List.length_set, List.length_append, List.length_cons, List.length_nil] at *); omega)) | (refine app_le rfl ?_; omega)))
          all_goals exact hn.symm
      · have hie : a.length = i := by omega
        subst hie
        have hy := hyes hl hj
        repeat' (first
 | refine W.seq ?_
 | refine W.block ?_
 | (refine W.region tys_ok [] ?_; conv => whnf)
 | (refine W.drawAll tys_ok [] mixed rfl ?_; conv => whnf)
 | (refine W.ret ?_; conv => whnf)
 | (refine W.skip ?_; conv => whnf)
 | (refine W.exit ?_; conv => whnf)
 | (refine W.cond rfl (fun hb => ?_) (fun hb => ?_) <;> (try simp only [Int.reduceToNat, Int.reduceTDiv, Int.reduceTMod, minL, maxL, pickB, zHB, zSH] at hb) <;> (try (first | (cases hb; done) | exact absurd hb (by decide) | (exfalso; omega))))
 | ((with_reducible refine And.intro ?_ ?_); (focus ((repeat' (first | (with_reducible rfl) | (with_reducible refine And.intro ?_ ?_) | omega | rfl | exact Or.inl rfl | exact Or.inr rfl | exact of_decide_eq_true rfl | exact Path.imp_of (of_decide_eq_true rfl) | (focus ((try simp only [Int.reduceToNat, Int.reduceTDiv, Int.reduceTMod, minL, maxL, pickB, zHB, zSH, InK, Path.imp, List.length_replicate, List.length_set, List.length_append, List.length_cons, List.length_nil] at *); omega)) | (refine app_le rfl ?_; omega))); done)); (conv => whnf))
 | ((with_reducible refine And.intro (Side.out ?_) ?_); rotate_left; (conv => whnf))
 | ((first | refine retF1 ?_ | refine retF2 ?_) <;> (conv => whnf) <;> repeat' (first
 | exact trivial
 | (with_reducible rfl)
 | ((with_reducible refine And.intro ?_ ?_) <;> conv => whnf)
 | omega
 | rfl
 | (refine congrArg (SV.arr _) ?_)
 | (refine congrArg (Value.int _) ?_)
 | (refine congrArg Value.bool ?_)))); all_goals (try unfold Side)
        all_goals try (repeat' (first | (with_reducible rfl) | (with_reducible refine And.intro ?_ ?_) | omega | rfl | exact Or.inl rfl | exact Or.inr rfl | exact of_decide_eq_true rfl | exact Path.imp_of (of_decide_eq_true rfl) | (focus ((try simp only [Int.reduceToNat, Int.reduceTDiv, Int.reduceTMod, minL, maxL, pickB, zHB, zSH, InK, Path.imp, List.length_replicate, List.length_set, List.length_append, List.length_cons, List.length_nil] at *); omega)) | (refine app_le rfl ?_; omega)))
        all_goals exact hy.symm
  · have hn := hno hl
    repeat' (first
 | refine W.seq ?_
 | refine W.block ?_
 | (refine W.region tys_ok [] ?_; conv => whnf)
 | (refine W.drawAll tys_ok [] mixed rfl ?_; conv => whnf)
 | (refine W.ret ?_; conv => whnf)
 | (refine W.skip ?_; conv => whnf)
 | (refine W.exit ?_; conv => whnf)
 | (refine W.cond rfl (fun hb => ?_) (fun hb => ?_) <;> (try simp only [Int.reduceToNat, Int.reduceTDiv, Int.reduceTMod, minL, maxL, pickB, zHB, zSH] at hb) <;> (try (first | (cases hb; done) | exact absurd hb (by decide) | (exfalso; omega) | (omega))))
 | ((with_reducible refine And.intro ?_ ?_); (focus ((repeat' (first | (with_reducible rfl) | (with_reducible refine And.intro ?_ ?_) | omega | rfl | exact Or.inl rfl | exact Or.inr rfl | exact of_decide_eq_true rfl | exact Path.imp_of (of_decide_eq_true rfl) | (focus ((try simp only [Int.reduceToNat, Int.reduceTDiv, Int.reduceTMod, minL, maxL, pickB, zHB, zSH, InK, Path.imp, List.length_replicate, List.length_set, List.length_append, List.length_cons, List.length_nil] at *); omega)) | (refine app_le rfl ?_; omega))); done)); (conv => whnf))
 | ((with_reducible refine And.intro (Side.out ?_) ?_); rotate_left; (conv => whnf))
 | ((first | refine retF1 ?_ | refine retF2 ?_) <;> (conv => whnf) <;> repeat' (first
 | exact trivial
 | (with_reducible rfl)
 | ((with_reducible refine And.intro ?_ ?_) <;> conv => whnf)
 | omega
 | rfl
 | (refine congrArg (SV.arr _) ?_)
 | (refine congrArg (Value.int _) ?_)
 | (refine congrArg Value.bool ?_)))); all_goals (try unfold Side)
    all_goals try (repeat' (first | (with_reducible rfl) | (with_reducible refine And.intro ?_ ?_) | omega | rfl | exact Or.inl rfl | exact Or.inr rfl | exact of_decide_eq_true rfl | exact Path.imp_of (of_decide_eq_true rfl) | (focus ((try simp only [Int.reduceToNat, Int.reduceTDiv, Int.reduceTMod, minL, maxL, pickB, zHB, zSH, InK, Path.imp, List.length_replicate, List.length_set, List.length_append, List.length_cons, List.length_nil] at *); omega)) | (refine app_le rfl ?_; omega)))
    all_goals exact hn.symm
theorem cut_list {α : Type} {k : Nat} (l : List α) : List.drop 0 (List.take (minL (l.length : Int) [(k : Int)]).toNat l) = l.take k ∧ 0 ≤ minL (l.length : Int) [(k : Int)] ∧ minL (l.length : Int) [(k : Int)] ≤ l.length := by
  have e : (minL (l.length : Int) [(k : Int)]).toNat = min l.length k := by simp only [minL]; omega
  have e' : 0 ≤ minL (l.length : Int) [(k : Int)] ∧ minL (l.length : Int) [(k : Int)] ≤ l.length := by simp only [minL]; omega
  refine ⟨?_, e'⟩
  rw [e, List.drop_zero, Nat.min_comm, ← List.take_take, List.take_length]
set_option maxHeartbeats 4000000 in
theorem few_at {P : Int} (l : List Jb) (os : List Od) : FnAt Try.prog false 15 [.agg [I64 P, .arr JT l, .arr OT os]] (.strct [.lit (.int .i64 P), .own 0, .own 1]) [(0, .row 45 JT true (l.take 7)), (1, .row 79 OT true (os.take 21))] := by
  obtain ⟨j1, j2, j3⟩ := cut_list (k := 7) l
  obtain ⟨o1, o2, o3⟩ := cut_list (k := 21) os
  refine FnAt.of_body tys_ok Try.func15 (by rfl) rfl Try.ntmps15 (by rw [Try.results15]) (by simp) ?_
  
  have j4 : 0 + (List.drop 0 (List.take (minL (l.length : Int) [((7 : Nat) : Int)]).toNat l)).length ≤ 4294967296 := by rw [j1]; simp only [List.length_take]; omega
  have o4 : 0 + (List.drop 0 (List.take (minL (os.length : Int) [((21 : Nat) : Int)]).toNat os)).length ≤ 4294967296 := by rw [o1]; simp only [List.length_take]; omega
  repeat' (first
 | refine W.seq ?_
 | refine W.block ?_
 | (refine W.resub (x := Code.region 1 _ _) (Γ' := ⟨[(1, .st false (.sadr (.agg [I64 P, .arr JT l, .arr OT os]))), (2, .padr 3000 0)], [(3000, .box [.lit (.int .i64 0), .lit (.slice none 0 0), .lit (.slice none 0 0)])]⟩) ?_ (W.drawPh (id := 1) tys_ok [] mixed [0, 1, 0, 0, 8, 0, 32, 64, 128, 272, 516, 0, 0, 4096, 0, 16384, 32768, 65536, 139264, 265216, 525314, 2097151] [([0, 1, 3, 4, 5, 6, 7, 8, 9, 12, 13, 14, 15, 16, 17, 18], 3, 524287), ([], 1, 1048575), ([], 1, 2097151), ([], 1, 4194303)] (by decide +kernel) ?_); rotate_left; (conv => whnf))
 | (refine W.region tys_ok [] ?_; conv => whnf)
 | (refine W.drawAll tys_ok [] mixed rfl ?_; conv => whnf)
 | (refine W.ret ?_; conv => whnf)
 | (refine W.skip ?_; conv => whnf)
 | (refine W.exit ?_; conv => whnf)
 | (refine Both.mk ?_ ?_ <;> (conv => whnf))
 | (refine W.cond rfl (fun hb => ?_) (fun hb => ?_) <;> (try simp only [Int.reduceToNat, Int.reduceTDiv, Int.reduceTMod, minL, maxL, pickB, zHB, zSH] at hb) <;> (try (first | (cases hb; done) | exact absurd hb (by decide) | (exfalso; omega))))
 | ((with_reducible refine And.intro ?_ ?_); (focus ((repeat' (first | (with_reducible rfl) | (with_reducible refine And.intro ?_ ?_) | omega | rfl | exact Or.inl rfl | exact Or.inr rfl | exact of_decide_eq_true rfl | exact Path.imp_of (of_decide_eq_true rfl) | (focus ((try simp only [Int.reduceToNat, Int.reduceTDiv, Int.reduceTMod, minL, maxL, pickB, zHB, zSH, InK, Path.imp, List.length_replicate, List.length_set, List.length_append, List.length_cons, List.length_nil] at *); omega)) | (refine app_le rfl ?_; omega))); done)); (conv => whnf))
 | ((with_reducible refine And.intro (Side.out ?_) ?_); rotate_left; (conv => whnf))
 | ((first | refine retF1 ?_ | refine retF2 ?_ | refine subF.leaf ?_ | refine subF.side ?_) <;> (conv => whnf) <;> repeat' (first
 | exact trivial
 | (with_reducible rfl)
 | ((with_reducible refine And.intro ?_ ?_) <;> conv => whnf)
 | omega
 | rfl
 | (refine congrArg (SV.arr _) ?_)
 | (refine congrArg (Value.int _) ?_)
 | (refine congrArg Value.bool ?_)))); all_goals (try unfold Side)
  all_goals try (repeat' (first | (with_reducible rfl) | (with_reducible refine And.intro ?_ ?_) | omega | rfl | exact Or.inl rfl | exact Or.inr rfl | exact of_decide_eq_true rfl | exact Path.imp_of (of_decide_eq_true rfl) | (focus ((try simp only [Int.reduceToNat, Int.reduceTDiv, Int.reduceTMod, minL, maxL, pickB, zHB, zSH, InK, Path.imp, List.length_replicate, List.length_set, List.length_append, List.length_cons, List.length_nil] at *); omega)) | (refine app_le rfl ?_; omega)))
  all_goals first | exact j1 | exact o1 | exact j4 | exact o4
theorem few_eq {P : Int} {l l' : List Jb} {os os' : List Od} (h1 : l' = l.take 7) (h2 : os' = os.take 21) : FnAt Try.prog false 15 [.agg [I64 P, .arr JT l, .arr OT os]] (.strct [.lit (.int .i64 P), .own 0, .own 1]) [(0, .row 45 JT true l'), (1, .row 79 OT true os')] := by
  subst h1 h2
  exact few_at l os
end Go.Proofs.Ytmfholchenihaaa
namespace Go.Proofs.Ytmfholchenihaaa
open Go Go.Vc Go.Sh
set_option linter.unusedVariables false
set_option linter.unusedSimpArgs false
def lv1 : List Jb := [(0, 4, 2, 2, ()), (0, 4, 2, 2, ())]
def lv2 : List Jb := [(0, 2, 2, 1, ()), (0, 4, 2, 1, ())]
def lo2 : List Od := [(1, 0, ())]
theorem lv1_vs : VS 2 lv1 [] := by
  refine ⟨by decide, by decide, by decide, fun m hm => ?_, fun m hm => by simp at hm⟩
  match m, hm with
  | 0, _ => unfold JobOk lv1; decide
  | 1, _ => unfold JobOk lv1; decide
  | m + 2, hm => simp [lv1] at hm; omega
theorem lv2_vs : VS 1 lv2 lo2 := by
  refine ⟨by decide, by decide, by decide, fun m hm => ?_, fun m hm => ?_⟩
  · match m, hm with
    | 0, _ => unfold JobOk lv2; decide
    | 1, _ => unfold JobOk lv2; decide
    | m + 2, hm => simp [lv2] at hm; omega
  · match m, hm with
    | 0, _ => unfold OrdOk lo2 lv2; decide
    | m + 1, hm => simp [lo2] at hm
theorem lv1_first : firstT 2 lv1 [] = [0, 2] := by decide +kernel
theorem lv2_first : firstT 1 lv2 lo2 = [] := by decide +kernel
theorem lv2_ref : refT 1 lv2 lo2 = (true, [(3, 0, 0, 0, 0, 0, ())]) := by kernel_rfl
theorem lv2_proves : provesB 1 lv2 lo2 [(3, 0, 0, 0, 0, 0, ())] = true := by decide +kernel
theorem lv1_short : shortK 2 lv1 [] 24 = some (4, [0, 2]) := by
  have ok : ∀ e : Int, 2 ≤ e → okE lv1 e := fun e he i hi => by
    match i, hi with
    | 0, _ => show (0 : Int) + 2 ≤ min 4 e; omega
    | 1, _ => show (0 : Int) + 2 ≤ min 4 e; omega
    | i + 2, hi => simp [lv1] at hi; omega
  have a1 : atE 2 lv1 [] ((0 + 1 : Nat) : Int) = none := atE_no fun h => by
    have := h 0 (by decide)
    exact absurd this (by decide)
  have a2 : atE 2 lv1 [] ((1 + 1 : Nat) : Int) = none := by rw [atE_ok (ok _ (by decide))]; decide +kernel
  have a3 : atE 2 lv1 [] ((2 + 1 : Nat) : Int) = none := by rw [atE_ok (ok _ (by decide))]; decide +kernel
  have a4 : atE 2 lv1 [] ((3 + 1 : Nat) : Int) = some [0, 2] := by rw [atE_ok (ok _ (by decide))]; decide +kernel
  exact shortK_hit (shortK_miss (shortK_miss (shortK_miss rfl a1) a2) a3) a4 (by decide)
set_option maxHeartbeats 4000000 in
theorem lives_at : FnAt Try.prog false 18 [] (.lit (.bool true)) [] := by
  have c1 := First_ok lv1_vs lv1_first (by decide)
  have c2 := Short_at lv1_vs
  have e1 : shT 2 lv1 [] = [0, 2] := by unfold shT; rw [lv1_short]
  have e2 : shE 2 lv1 [] = 4 := by unfold shE; rw [lv1_short]; rfl
  rw [e1, e2, if_neg (by decide)] at c2
  have c3 := Refuse_ok lv2_vs lv2_first (by rw [lv2_ref])
  rw [lv2_ref] at c3
  have c4 := Proves_ok (pf := [(3, 0, 0, 0, 0, 0, ())]) lv2_vs (by decide)
  rw [lv2_proves] at c4
  have c5 := same_at (a := [0, 2]) (b := [0, 2]) (by decide) (by decide)
  refine FnAt.of_body tys_ok Try.func18 (by rfl) rfl Try.ntmps18 (by rw [Try.results18]) (by simp) ?_
  
  repeat' (first
 | refine W.seq ?_
 | refine W.block ?_
 | (refine W.resub (x := Code.region 2 _ _) (Γ' := ⟨[(1, .st true (.sadr (.agg [I64 2, .arr JT lv1, .arr OT []])))], []⟩) ?_ (W.region tys_ok [] ?_); rotate_left; (conv => whnf))
 | (refine W.resub (x := Code.region 5 _ _) (Γ' := ⟨[(2, .st true (.narr (.int .i64) ([0, 2] : List Int))), (3, .lit (.int .i64 (0))), (4, .st true (.narr (.int .i64) ([0, 2] : List Int))), (5, .lit (.int .i64 (4))), (6, .lit (.int .i64 (0))), (7, .st true (.sadr (.agg [I64 1, .arr JT lv2, .arr OT lo2])))], []⟩) ?_ (W.region tys_ok [] ?_); rotate_left; (conv => whnf))
 | (refine W.resub (x := Code.region 7 _ _) (Γ' := ⟨[(2, .st true (.arr (.int .i64) ([0, 2] : List Int))), (3, .lit (.int .i64 (0))), (4, .st true (.arr (.int .i64) ([0, 2] : List Int))), (5, .lit (.int .i64 (4))), (6, .lit (.int .i64 (0))), (8, .st true (.arr NT ([(3, 0, 0, 0, 0, 0, ())] : List Nd))), (9, .lit (.int .i64 (0))), (10, .lit (.bool (true))), (11, .lit (.int .i64 (0)))], []⟩) ?_ (W.region tys_ok [] ?_); rotate_left; (conv => whnf))
 | (refine W.region tys_ok [] ?_; conv => whnf)
 | (refine W.drawAll tys_ok [] mixed rfl ?_; conv => whnf)
 | (refine W.ret ?_; conv => whnf)
 | (refine W.skip ?_; conv => whnf)
 | (refine W.exit ?_; conv => whnf)
 | (refine call_at (al := true) (c1) rfl rfl rfl rfl ?_; conv => whnf)
 | (refine call_at (al := true) (c2) rfl rfl rfl rfl ?_; conv => whnf)
 | (refine call_at (al := true) (c3) rfl rfl rfl rfl ?_; conv => whnf)
 | (refine call_at (al := false) (c4) rfl rfl rfl rfl ?_; conv => whnf)
 | (refine call_at (al := false) (c5) rfl rfl rfl rfl ?_; conv => whnf)
 | (refine W.cond rfl (fun hb => ?_) (fun hb => ?_) <;> (try simp only [Int.reduceToNat, Int.reduceTDiv, Int.reduceTMod, minL, maxL, pickB, zHB, zSH] at hb) <;> (try (first | (cases hb; done) | exact absurd hb (by decide) | (exfalso; omega))))
 | ((with_reducible refine And.intro ?_ ?_); (focus ((repeat' (first | (with_reducible rfl) | (with_reducible refine And.intro ?_ ?_) | omega | rfl | exact Or.inl rfl | exact Or.inr rfl | exact of_decide_eq_true rfl | exact Path.imp_of (of_decide_eq_true rfl) | (focus ((try simp only [Int.reduceToNat, Int.reduceTDiv, Int.reduceTMod, minL, maxL, pickB, zHB, zSH, InK, Path.imp, List.length_replicate, List.length_set, List.length_append, List.length_cons, List.length_nil] at *); omega)) | (refine app_le rfl ?_; omega))); done)); (conv => whnf))
 | ((with_reducible refine And.intro (Side.out ?_) ?_); rotate_left; (conv => whnf))
 | ((first | refine retF1 ?_ | refine retF2 ?_) <;> (conv => whnf) <;> repeat' (first
 | exact trivial
 | (with_reducible rfl)
 | ((with_reducible refine And.intro ?_ ?_) <;> conv => whnf)
 | omega
 | rfl
 | (refine congrArg (SV.arr _) ?_)
 | (refine congrArg (Value.int _) ?_)
 | (refine congrArg Value.bool ?_)))); all_goals (try unfold Side)
  all_goals try (repeat' (first | (with_reducible rfl) | (with_reducible refine And.intro ?_ ?_) | omega | rfl | exact Or.inl rfl | exact Or.inr rfl | exact of_decide_eq_true rfl | exact Path.imp_of (of_decide_eq_true rfl) | (focus ((try simp only [Int.reduceToNat, Int.reduceTDiv, Int.reduceTMod, minL, maxL, pickB, zHB, zSH, InK, Path.imp, List.length_replicate, List.length_set, List.length_append, List.length_cons, List.length_nil] at *); omega)) | (refine app_le rfl ?_; omega)))
  all_goals try refine subF.ok ?_ <;> (conv => whnf) <;> repeat' (first
 | exact trivial
 | (with_reducible rfl)
 | ((with_reducible refine And.intro ?_ ?_) <;> conv => whnf)
 | omega
 | rfl
 | (refine congrArg (SV.arr _) ?_)
 | (refine congrArg (Value.int _) ?_)
 | (refine congrArg Value.bool ?_))
end Go.Proofs.Ytmfholchenihaaa
namespace Go.Proofs.Ytmfholchenihaaa
open Go Go.Vc Go.Sh
set_option linter.unusedVariables false
set_option linter.unusedSimpArgs false
set_option maxHeartbeats 4000000 in
theorem ShaftOverfulls_at (P : Int) (l0 : List Jb) (os0 : List Od) (a b : Int) : FnAt Try.prog false 9 [.agg [I64 P, .arr JT l0, .arr OT os0], I64 a, I64 b] (.lit (.bool true)) [] := by
  obtain ⟨l, hl⟩ : ∃ l, l = l0.take 7 := ⟨_, rfl⟩
  obtain ⟨os, hos⟩ : ∃ os, os = os0.take 21 := ⟨_, rfl⟩
  have hll : l.length ≤ 1000 := by rw [hl, List.length_take]; omega
  have hlo : os.length ≤ 1000 := by rw [hos, List.length_take]; omega
  have hfw := few_eq (P := P) hl hos
  have hv := validR_at (P := P) hll hlo
  by_cases h : VS P l os
  · rw [validB_yes h] at hv
    have hr := overfullR_at (P := P) (l := l) (os := os) (by have := h.pw; omega) (bd_of h)
    by_cases hab : 0 ≤ a ∧ a < b ∧ b ≤ 24
    · have hn := Needs_ok h hab
      have hnr := needsR_at (P := P) (os := os) (bd_of h) (a := a) (b := b) (by omega)
      cases he : ovB P l with
      | true =>
        have ho := Overfull_yes h he
        rw [he] at hr
        refine FnAt.of_body tys_ok Try.func9 (by rfl) rfl Try.ntmps9 (by rw [Try.results9]) (by simp) ?_
  
        repeat' (first
 | refine W.seq ?_
 | refine W.block ?_
 | (refine W.resub (x := Code.region 2 _ _) (Γ' := ⟨[(1, .lit (.int .i64 (a))), (2, .lit (.int .i64 (b))), (7, .st true (.sadr (.agg [I64 P, .arr JT l, .arr OT os])))], []⟩) ?_ (W.region tys_ok [] ?_); rotate_left; (conv => whnf))
 | (refine W.region tys_ok [] ?_; conv => whnf)
 | (refine W.drawAll tys_ok [] mixed rfl ?_; conv => whnf)
 | (refine W.ret ?_; conv => whnf)
 | (refine W.skip ?_; conv => whnf)
 | (refine W.exit ?_; conv => whnf)
 | (refine call_at (al := false) (hfw) rfl rfl rfl rfl ?_; conv => whnf)
 | (refine call_at (al := false) (ho) rfl rfl rfl rfl ?_; conv => whnf)
 | (refine call_at (al := false) (hn) rfl rfl rfl rfl ?_; conv => whnf)
 | (refine call_at (al := false) (hv) rfl rfl rfl rfl ?_; conv => whnf)
 | (refine call_at (al := false) (hr) rfl rfl rfl rfl ?_; conv => whnf)
 | (refine call_at (al := false) (hnr) rfl rfl rfl rfl ?_; conv => whnf)
 | (refine call_at (al := false) (lives_at) rfl rfl rfl rfl ?_; conv => whnf)
 | (refine W.cond rfl (fun hb => ?_) (fun hb => ?_) <;> (try simp only [Int.reduceToNat, Int.reduceTDiv, Int.reduceTMod, minL, maxL, pickB, zHB, zSH] at hb) <;> (try (first | (cases hb; done) | exact absurd hb (by decide) | (exfalso; omega) | (omega))))
 | ((with_reducible refine And.intro ?_ ?_); (focus ((repeat' (first | (with_reducible rfl) | (with_reducible refine And.intro ?_ ?_) | omega | rfl | exact Or.inl rfl | exact Or.inr rfl | exact of_decide_eq_true rfl | exact Path.imp_of (of_decide_eq_true rfl) | (focus ((try simp only [Int.reduceToNat, Int.reduceTDiv, Int.reduceTMod, minL, maxL, pickB, zHB, zSH, InK, Path.imp, List.length_replicate, List.length_set, List.length_append, List.length_cons, List.length_nil] at *); omega)) | (refine app_le rfl ?_; omega))); done)); (conv => whnf))
 | ((with_reducible refine And.intro (Side.out ?_) ?_); rotate_left; (conv => whnf))
 | ((first | refine retF1 ?_ | refine retF2 ?_) <;> (conv => whnf) <;> repeat' (first
 | exact trivial
 | (with_reducible rfl)
 | ((with_reducible refine And.intro ?_ ?_) <;> conv => whnf)
 | omega
 | rfl
 | (refine congrArg (SV.arr _) ?_)
 | (refine congrArg (Value.int _) ?_)
 | (refine congrArg Value.bool ?_)))); all_goals (try unfold Side)
        all_goals try (repeat' (first | (with_reducible rfl) | (with_reducible refine And.intro ?_ ?_) | omega | rfl | exact Or.inl rfl | exact Or.inr rfl | exact of_decide_eq_true rfl | exact Path.imp_of (of_decide_eq_true rfl) | (focus ((try simp only [Int.reduceToNat, Int.reduceTDiv, Int.reduceTMod, minL, maxL, pickB, zHB, zSH, InK, Path.imp, List.length_replicate, List.length_set, List.length_append, List.length_cons, List.length_nil] at *); omega)) | (refine app_le rfl ?_; omega)))
        all_goals try refine subF.ok ?_ <;> (conv => whnf) <;> repeat' (first
 | exact trivial
 | (with_reducible rfl)
 | ((with_reducible refine And.intro ?_ ?_) <;> conv => whnf)
 | omega
 | rfl
 | (refine congrArg (SV.arr _) ?_)
 | (refine congrArg (Value.int _) ?_)
 | (refine congrArg Value.bool ?_))
        all_goals simp [pickB]
      | false =>
        have ho := Overfull_none h he
        rw [he] at hr
        have e1 : ovA P l = 0 := by
          unfold ovB at he; unfold ovA
          cases e : overF P l with
          | none => rfl
          | some r => rw [e] at he; cases he
        have e2 : ovE P l = 0 := by
          unfold ovB at he; unfold ovE
          cases e : overF P l with
          | none => rfl
          | some r => rw [e] at he; cases he
        rw [e1, e2] at hr
        refine FnAt.of_body tys_ok Try.func9 (by rfl) rfl Try.ntmps9 (by rw [Try.results9]) (by simp) ?_
  
        repeat' (first
 | refine W.seq ?_
 | refine W.block ?_
 | (refine W.resub (x := Code.region 2 _ _) (Γ' := ⟨[(1, .lit (.int .i64 (a))), (2, .lit (.int .i64 (b))), (7, .st true (.sadr (.agg [I64 P, .arr JT l, .arr OT os])))], []⟩) ?_ (W.region tys_ok [] ?_); rotate_left; (conv => whnf))
 | (refine W.region tys_ok [] ?_; conv => whnf)
 | (refine W.drawAll tys_ok [] mixed rfl ?_; conv => whnf)
 | (refine W.ret ?_; conv => whnf)
 | (refine W.skip ?_; conv => whnf)
 | (refine W.exit ?_; conv => whnf)
 | (refine call_at (al := false) (hfw) rfl rfl rfl rfl ?_; conv => whnf)
 | (refine call_at (al := false) (ho) rfl rfl rfl rfl ?_; conv => whnf)
 | (refine call_at (al := false) (hn) rfl rfl rfl rfl ?_; conv => whnf)
 | (refine call_at (al := false) (hv) rfl rfl rfl rfl ?_; conv => whnf)
 | (refine call_at (al := false) (hr) rfl rfl rfl rfl ?_; conv => whnf)
 | (refine call_at (al := false) (hnr) rfl rfl rfl rfl ?_; conv => whnf)
 | (refine call_at (al := false) (lives_at) rfl rfl rfl rfl ?_; conv => whnf)
 | (refine W.cond rfl (fun hb => ?_) (fun hb => ?_) <;> (try simp only [Int.reduceToNat, Int.reduceTDiv, Int.reduceTMod, minL, maxL, pickB, zHB, zSH] at hb) <;> (try (first | (cases hb; done) | exact absurd hb (by decide) | (exfalso; omega) | (omega))))
 | ((with_reducible refine And.intro ?_ ?_); (focus ((repeat' (first | (with_reducible rfl) | (with_reducible refine And.intro ?_ ?_) | omega | rfl | exact Or.inl rfl | exact Or.inr rfl | exact of_decide_eq_true rfl | exact Path.imp_of (of_decide_eq_true rfl) | (focus ((try simp only [Int.reduceToNat, Int.reduceTDiv, Int.reduceTMod, minL, maxL, pickB, zHB, zSH, InK, Path.imp, List.length_replicate, List.length_set, List.length_append, List.length_cons, List.length_nil] at *); omega)) | (refine app_le rfl ?_; omega))); done)); (conv => whnf))
 | ((with_reducible refine And.intro (Side.out ?_) ?_); rotate_left; (conv => whnf))
 | ((first | refine retF1 ?_ | refine retF2 ?_) <;> (conv => whnf) <;> repeat' (first
 | exact trivial
 | (with_reducible rfl)
 | ((with_reducible refine And.intro ?_ ?_) <;> conv => whnf)
 | omega
 | rfl
 | (refine congrArg (SV.arr _) ?_)
 | (refine congrArg (Value.int _) ?_)
 | (refine congrArg Value.bool ?_)))); all_goals (try unfold Side)
        all_goals try (repeat' (first | (with_reducible rfl) | (with_reducible refine And.intro ?_ ?_) | omega | rfl | exact Or.inl rfl | exact Or.inr rfl | exact of_decide_eq_true rfl | exact Path.imp_of (of_decide_eq_true rfl) | (focus ((try simp only [Int.reduceToNat, Int.reduceTDiv, Int.reduceTMod, minL, maxL, pickB, zHB, zSH, InK, Path.imp, List.length_replicate, List.length_set, List.length_append, List.length_cons, List.length_nil] at *); omega)) | (refine app_le rfl ?_; omega)))
        all_goals try refine subF.ok ?_ <;> (conv => whnf) <;> repeat' (first
 | exact trivial
 | (with_reducible rfl)
 | ((with_reducible refine And.intro ?_ ?_) <;> conv => whnf)
 | omega
 | rfl
 | (refine congrArg (SV.arr _) ?_)
 | (refine congrArg (Value.int _) ?_)
 | (refine congrArg Value.bool ?_))
        all_goals simp [pickB]
    · have hn := Needs_bad h hab
      cases he : ovB P l with
      | true =>
        have ho := Overfull_yes h he
        rw [he] at hr
        refine FnAt.of_body tys_ok Try.func9 (by rfl) rfl Try.ntmps9 (by rw [Try.results9]) (by simp) ?_
  
        repeat' (first
 | refine W.seq ?_
 | refine W.block ?_
 | (refine W.resub (x := Code.region 2 _ _) (Γ' := ⟨[(1, .lit (.int .i64 (a))), (2, .lit (.int .i64 (b))), (7, .st true (.sadr (.agg [I64 P, .arr JT l, .arr OT os])))], []⟩) ?_ (W.region tys_ok [] ?_); rotate_left; (conv => whnf))
 | (refine W.region tys_ok [] ?_; conv => whnf)
 | (refine W.drawAll tys_ok [] mixed rfl ?_; conv => whnf)
 | (refine W.ret ?_; conv => whnf)
 | (refine W.skip ?_; conv => whnf)
 | (refine W.exit ?_; conv => whnf)
 | (refine call_at (al := false) (hfw) rfl rfl rfl rfl ?_; conv => whnf)
 | (refine call_at (al := false) (ho) rfl rfl rfl rfl ?_; conv => whnf)
 | (refine call_at (al := false) (hn) rfl rfl rfl rfl ?_; conv => whnf)
 | (refine call_at (al := false) (hv) rfl rfl rfl rfl ?_; conv => whnf)
 | (refine call_at (al := false) (hr) rfl rfl rfl rfl ?_; conv => whnf)
 | (refine call_at (al := false) (lives_at) rfl rfl rfl rfl ?_; conv => whnf)
 | (refine W.cond rfl (fun hb => ?_) (fun hb => ?_) <;> (try simp only [Int.reduceToNat, Int.reduceTDiv, Int.reduceTMod, minL, maxL, pickB, zHB, zSH] at hb) <;> (try (first | (cases hb; done) | exact absurd hb (by decide) | (exfalso; omega) | (omega))))
 | ((with_reducible refine And.intro ?_ ?_); (focus ((repeat' (first | (with_reducible rfl) | (with_reducible refine And.intro ?_ ?_) | omega | rfl | exact Or.inl rfl | exact Or.inr rfl | exact of_decide_eq_true rfl | exact Path.imp_of (of_decide_eq_true rfl) | (focus ((try simp only [Int.reduceToNat, Int.reduceTDiv, Int.reduceTMod, minL, maxL, pickB, zHB, zSH, InK, Path.imp, List.length_replicate, List.length_set, List.length_append, List.length_cons, List.length_nil] at *); omega)) | (refine app_le rfl ?_; omega))); done)); (conv => whnf))
 | ((with_reducible refine And.intro (Side.out ?_) ?_); rotate_left; (conv => whnf))
 | ((first | refine retF1 ?_ | refine retF2 ?_) <;> (conv => whnf) <;> repeat' (first
 | exact trivial
 | (with_reducible rfl)
 | ((with_reducible refine And.intro ?_ ?_) <;> conv => whnf)
 | omega
 | rfl
 | (refine congrArg (SV.arr _) ?_)
 | (refine congrArg (Value.int _) ?_)
 | (refine congrArg Value.bool ?_)))); all_goals (try unfold Side)
        all_goals try (repeat' (first | (with_reducible rfl) | (with_reducible refine And.intro ?_ ?_) | omega | rfl | exact Or.inl rfl | exact Or.inr rfl | exact of_decide_eq_true rfl | exact Path.imp_of (of_decide_eq_true rfl) | (focus ((try simp only [Int.reduceToNat, Int.reduceTDiv, Int.reduceTMod, minL, maxL, pickB, zHB, zSH, InK, Path.imp, List.length_replicate, List.length_set, List.length_append, List.length_cons, List.length_nil] at *); omega)) | (refine app_le rfl ?_; omega)))
        all_goals try refine subF.ok ?_ <;> (conv => whnf) <;> repeat' (first
 | exact trivial
 | (with_reducible rfl)
 | ((with_reducible refine And.intro ?_ ?_) <;> conv => whnf)
 | omega
 | rfl
 | (refine congrArg (SV.arr _) ?_)
 | (refine congrArg (Value.int _) ?_)
 | (refine congrArg Value.bool ?_))
        all_goals simp [pickB]
      | false =>
        have ho := Overfull_none h he
        rw [he] at hr
        have e1 : ovA P l = 0 := by
          unfold ovB at he; unfold ovA
          cases e : overF P l with
          | none => rfl
          | some r => rw [e] at he; cases he
        have e2 : ovE P l = 0 := by
          unfold ovB at he; unfold ovE
          cases e : overF P l with
          | none => rfl
          | some r => rw [e] at he; cases he
        rw [e1, e2] at hr
        refine FnAt.of_body tys_ok Try.func9 (by rfl) rfl Try.ntmps9 (by rw [Try.results9]) (by simp) ?_
  
        repeat' (first
 | refine W.seq ?_
 | refine W.block ?_
 | (refine W.resub (x := Code.region 2 _ _) (Γ' := ⟨[(1, .lit (.int .i64 (a))), (2, .lit (.int .i64 (b))), (7, .st true (.sadr (.agg [I64 P, .arr JT l, .arr OT os])))], []⟩) ?_ (W.region tys_ok [] ?_); rotate_left; (conv => whnf))
 | (refine W.region tys_ok [] ?_; conv => whnf)
 | (refine W.drawAll tys_ok [] mixed rfl ?_; conv => whnf)
 | (refine W.ret ?_; conv => whnf)
 | (refine W.skip ?_; conv => whnf)
 | (refine W.exit ?_; conv => whnf)
 | (refine call_at (al := false) (hfw) rfl rfl rfl rfl ?_; conv => whnf)
 | (refine call_at (al := false) (ho) rfl rfl rfl rfl ?_; conv => whnf)
 | (refine call_at (al := false) (hn) rfl rfl rfl rfl ?_; conv => whnf)
 | (refine call_at (al := false) (hv) rfl rfl rfl rfl ?_; conv => whnf)
 | (refine call_at (al := false) (hr) rfl rfl rfl rfl ?_; conv => whnf)
 | (refine call_at (al := false) (lives_at) rfl rfl rfl rfl ?_; conv => whnf)
 | (refine W.cond rfl (fun hb => ?_) (fun hb => ?_) <;> (try simp only [Int.reduceToNat, Int.reduceTDiv, Int.reduceTMod, minL, maxL, pickB, zHB, zSH] at hb) <;> (try (first | (cases hb; done) | exact absurd hb (by decide) | (exfalso; omega) | (omega))))
 | ((with_reducible refine And.intro ?_ ?_); (focus ((repeat' (first | (with_reducible rfl) | (with_reducible refine And.intro ?_ ?_) | omega | rfl | exact Or.inl rfl | exact Or.inr rfl | exact of_decide_eq_true rfl | exact Path.imp_of (of_decide_eq_true rfl) | (focus ((try simp only [Int.reduceToNat, Int.reduceTDiv, Int.reduceTMod, minL, maxL, pickB, zHB, zSH, InK, Path.imp, List.length_replicate, List.length_set, List.length_append, List.length_cons, List.length_nil] at *); omega)) | (refine app_le rfl ?_; omega))); done)); (conv => whnf))
 | ((with_reducible refine And.intro (Side.out ?_) ?_); rotate_left; (conv => whnf))
 | ((first | refine retF1 ?_ | refine retF2 ?_) <;> (conv => whnf) <;> repeat' (first
 | exact trivial
 | (with_reducible rfl)
 | ((with_reducible refine And.intro ?_ ?_) <;> conv => whnf)
 | omega
 | rfl
 | (refine congrArg (SV.arr _) ?_)
 | (refine congrArg (Value.int _) ?_)
 | (refine congrArg Value.bool ?_)))); all_goals (try unfold Side)
        all_goals try (repeat' (first | (with_reducible rfl) | (with_reducible refine And.intro ?_ ?_) | omega | rfl | exact Or.inl rfl | exact Or.inr rfl | exact of_decide_eq_true rfl | exact Path.imp_of (of_decide_eq_true rfl) | (focus ((try simp only [Int.reduceToNat, Int.reduceTDiv, Int.reduceTMod, minL, maxL, pickB, zHB, zSH, InK, Path.imp, List.length_replicate, List.length_set, List.length_append, List.length_cons, List.length_nil] at *); omega)) | (refine app_le rfl ?_; omega)))
        all_goals try refine subF.ok ?_ <;> (conv => whnf) <;> repeat' (first
 | exact trivial
 | (with_reducible rfl)
 | ((with_reducible refine And.intro ?_ ?_) <;> conv => whnf)
 | omega
 | rfl
 | (refine congrArg (SV.arr _) ?_)
 | (refine congrArg (Value.int _) ?_)
 | (refine congrArg Value.bool ?_))
        all_goals simp [pickB]
  · rw [validB_no h] at hv
    have ho := Overfull_no hll hlo h
    have hn := Needs_no hll hlo h (a := a) (b := b)
    refine FnAt.of_body tys_ok Try.func9 (by rfl) rfl Try.ntmps9 (by rw [Try.results9]) (by simp) ?_
  
    repeat' (first
 | refine W.seq ?_
 | refine W.block ?_
 | (refine W.resub (x := Code.region 2 _ _) (Γ' := ⟨[(1, .lit (.int .i64 (a))), (2, .lit (.int .i64 (b))), (7, .st true (.sadr (.agg [I64 P, .arr JT l, .arr OT os])))], []⟩) ?_ (W.region tys_ok [] ?_); rotate_left; (conv => whnf))
 | (refine W.region tys_ok [] ?_; conv => whnf)
 | (refine W.drawAll tys_ok [] mixed rfl ?_; conv => whnf)
 | (refine W.ret ?_; conv => whnf)
 | (refine W.skip ?_; conv => whnf)
 | (refine W.exit ?_; conv => whnf)
 | (refine call_at (al := false) (hfw) rfl rfl rfl rfl ?_; conv => whnf)
 | (refine call_at (al := false) (ho) rfl rfl rfl rfl ?_; conv => whnf)
 | (refine call_at (al := false) (hn) rfl rfl rfl rfl ?_; conv => whnf)
 | (refine call_at (al := false) (hv) rfl rfl rfl rfl ?_; conv => whnf)
 | (refine call_at (al := false) (lives_at) rfl rfl rfl rfl ?_; conv => whnf)
 | (refine W.cond rfl (fun hb => ?_) (fun hb => ?_) <;> (try simp only [Int.reduceToNat, Int.reduceTDiv, Int.reduceTMod, minL, maxL, pickB, zHB, zSH] at hb) <;> (try (first | (cases hb; done) | exact absurd hb (by decide) | (exfalso; omega))))
 | ((with_reducible refine And.intro ?_ ?_); (focus ((repeat' (first | (with_reducible rfl) | (with_reducible refine And.intro ?_ ?_) | omega | rfl | exact Or.inl rfl | exact Or.inr rfl | exact of_decide_eq_true rfl | exact Path.imp_of (of_decide_eq_true rfl) | (focus ((try simp only [Int.reduceToNat, Int.reduceTDiv, Int.reduceTMod, minL, maxL, pickB, zHB, zSH, InK, Path.imp, List.length_replicate, List.length_set, List.length_append, List.length_cons, List.length_nil] at *); omega)) | (refine app_le rfl ?_; omega))); done)); (conv => whnf))
 | ((with_reducible refine And.intro (Side.out ?_) ?_); rotate_left; (conv => whnf))
 | ((first | refine retF1 ?_ | refine retF2 ?_) <;> (conv => whnf) <;> repeat' (first
 | exact trivial
 | (with_reducible rfl)
 | ((with_reducible refine And.intro ?_ ?_) <;> conv => whnf)
 | omega
 | rfl
 | (refine congrArg (SV.arr _) ?_)
 | (refine congrArg (Value.int _) ?_)
 | (refine congrArg Value.bool ?_)))); all_goals (try unfold Side)
    all_goals try (repeat' (first | (with_reducible rfl) | (with_reducible refine And.intro ?_ ?_) | omega | rfl | exact Or.inl rfl | exact Or.inr rfl | exact of_decide_eq_true rfl | exact Path.imp_of (of_decide_eq_true rfl) | (focus ((try simp only [Int.reduceToNat, Int.reduceTDiv, Int.reduceTMod, minL, maxL, pickB, zHB, zSH, InK, Path.imp, List.length_replicate, List.length_set, List.length_append, List.length_cons, List.length_nil] at *); omega)) | (refine app_le rfl ?_; omega)))
    all_goals try refine subF.ok ?_ <;> (conv => whnf) <;> repeat' (first
 | exact trivial
 | (with_reducible rfl)
 | ((with_reducible refine And.intro ?_ ?_) <;> conv => whnf)
 | omega
 | rfl
 | (refine congrArg (SV.arr _) ?_)
 | (refine congrArg (Value.int _) ?_)
 | (refine congrArg Value.bool ?_))
    all_goals simp [pickB]
end Go.Proofs.Ytmfholchenihaaa
