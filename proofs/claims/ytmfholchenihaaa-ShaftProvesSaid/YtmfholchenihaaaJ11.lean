/- Joined of: H19 H25. No condition. -/
import Derived.Test.YtmfholchenihaaaJ10
import Derived.Test.YtmfholchenihaaaJ8

namespace Go.Proofs.Ytmfholchenihaaa
open Go Go.Vc Go.Sh
set_option linter.unusedVariables false
set_option linter.unusedSimpArgs false
def lv1 : List Jb := [(0, 4, 2, 2, ()), (0, 4, 2, 2, ())]
def lv2 : List Jb := [(0, 2, 2, 1, ()), (0, 4, 2, 1, ())]
def lo2 : List Od := [(1, 0, ())]
theorem lv1_vs : VS 2 lv1 [] := by
  refine ⟨by decide, by decide, by decide, fun m hm => ?_, fun m hm => by simp at hm⟩
  match m, hm with
  | 0, _ => unfold JobOk lv1; decide
  | 1, _ => unfold JobOk lv1; decide
  | m + 2, hm => simp [lv1] at hm; omega
theorem lv2_vs : VS 1 lv2 lo2 := by
  refine ⟨by decide, by decide, by decide, fun m hm => ?_, fun m hm => ?_⟩
  · match m, hm with
    | 0, _ => unfold JobOk lv2; decide
    | 1, _ => unfold JobOk lv2; decide
    | m + 2, hm => simp [lv2] at hm; omega
  · match m, hm with
    | 0, _ => unfold OrdOk lo2 lv2; decide
    | m + 1, hm => simp [lo2] at hm
theorem lv1_first : firstT 2 lv1 [] = [0, 2] := by decide +kernel
theorem lv2_first : firstT 1 lv2 lo2 = [] := by decide +kernel
theorem lv2_ref : refT 1 lv2 lo2 = (true, [(3, 0, 0, 0, 0, 0, ())]) := by kernel_rfl
theorem lv2_proves : provesB 1 lv2 lo2 [(3, 0, 0, 0, 0, 0, ())] = true := by decide +kernel
theorem lv1_short : shortK 2 lv1 [] 24 = some (4, [0, 2]) := by
  have ok : ∀ e : Int, 2 ≤ e → okE lv1 e := fun e he i hi => by
    match i, hi with
    | 0, _ => show (0 : Int) + 2 ≤ min 4 e; omega
    | 1, _ => show (0 : Int) + 2 ≤ min 4 e; omega
    | i + 2, hi => simp [lv1] at hi; omega
  have a1 : atE 2 lv1 [] ((0 + 1 : Nat) : Int) = none := atE_no fun h => by
    have := h 0 (by decide)
    exact absurd this (by decide)
  have a2 : atE 2 lv1 [] ((1 + 1 : Nat) : Int) = none := by rw [atE_ok (ok _ (by decide))]; decide +kernel
  have a3 : atE 2 lv1 [] ((2 + 1 : Nat) : Int) = none := by rw [atE_ok (ok _ (by decide))]; decide +kernel
  have a4 : atE 2 lv1 [] ((3 + 1 : Nat) : Int) = some [0, 2] := by rw [atE_ok (ok _ (by decide))]; decide +kernel
  exact shortK_hit (shortK_miss (shortK_miss (shortK_miss rfl a1) a2) a3) a4 (by decide)
set_option maxHeartbeats 4000000 in
theorem lives_at : FnAt Try.prog false 18 [] (.lit (.bool true)) [] := by
  have c1 := First_ok lv1_vs lv1_first (by decide)
  have c2 := Short_at lv1_vs
  have e1 : shT 2 lv1 [] = [0, 2] := by unfold shT; rw [lv1_short]
  have e2 : shE 2 lv1 [] = 4 := by unfold shE; rw [lv1_short]; rfl
  rw [e1, e2, if_neg (by decide)] at c2
  have c3 := Refuse_ok lv2_vs lv2_first (by rw [lv2_ref])
  rw [lv2_ref] at c3
  have c4 := Proves_ok (pf := [(3, 0, 0, 0, 0, 0, ())]) lv2_vs (by decide)
  rw [lv2_proves] at c4
  have c5 := same_at (a := [0, 2]) (b := [0, 2]) (by decide) (by decide)
  refine FnAt.of_body tys_ok Try.func18 (by rfl) rfl Try.ntmps18 (by rw [Try.results18]) (by simp) ?_
  
  repeat' (first
 | refine W.seq ?_
 | refine W.block ?_
 | (refine W.resub (x := Code.region 2 _ _) (Γ' := ⟨[(1, .st true (.sadr (.agg [I64 2, .arr JT lv1, .arr OT []])))], []⟩) ?_ (W.region tys_ok [] ?_); rotate_left; (conv => whnf))
 | (refine W.resub (x := Code.region 5 _ _) (Γ' := ⟨[(2, .st true (.narr (.int .i64) ([0, 2] : List Int))), (3, .lit (.int .i64 (0))), (4, .st true (.narr (.int .i64) ([0, 2] : List Int))), (5, .lit (.int .i64 (4))), (6, .lit (.int .i64 (0))), (7, .st true (.sadr (.agg [I64 1, .arr JT lv2, .arr OT lo2])))], []⟩) ?_ (W.region tys_ok [] ?_); rotate_left; (conv => whnf))
 | (refine W.resub (x := Code.region 7 _ _) (Γ' := ⟨[(2, .st true (.arr (.int .i64) ([0, 2] : List Int))), (3, .lit (.int .i64 (0))), (4, .st true (.arr (.int .i64) ([0, 2] : List Int))), (5, .lit (.int .i64 (4))), (6, .lit (.int .i64 (0))), (8, .st true (.arr NT ([(3, 0, 0, 0, 0, 0, ())] : List Nd))), (9, .lit (.int .i64 (0))), (10, .lit (.bool (true))), (11, .lit (.int .i64 (0)))], []⟩) ?_ (W.region tys_ok [] ?_); rotate_left; (conv => whnf))
 | (refine W.region tys_ok [] ?_; conv => whnf)
 | (refine W.drawAll tys_ok [] mixed rfl ?_; conv => whnf)
 | (refine W.ret ?_; conv => whnf)
 | (refine W.skip ?_; conv => whnf)
 | (refine W.exit ?_; conv => whnf)
 | (refine call_at (al := true) (c1) rfl rfl rfl rfl ?_; conv => whnf)
 | (refine call_at (al := true) (c2) rfl rfl rfl rfl ?_; conv => whnf)
 | (refine call_at (al := true) (c3) rfl rfl rfl rfl ?_; conv => whnf)
 | (refine call_at (al := false) (c4) rfl rfl rfl rfl ?_; conv => whnf)
 | (refine call_at (al := false) (c5) rfl rfl rfl rfl ?_; conv => whnf)
 | (refine W.cond rfl (fun hb => ?_) (fun hb => ?_) <;> (try simp only [Int.reduceToNat, Int.reduceTDiv, Int.reduceTMod, minL, maxL, pickB, zHB, zSH] at hb) <;> (try (first | (cases hb; done) | exact absurd hb (by decide) | (exfalso; omega))))
 | ((with_reducible refine And.intro ?_ ?_); (focus ((repeat' (first | (with_reducible rfl) | (with_reducible refine And.intro ?_ ?_) | omega | rfl | exact Or.inl rfl | exact Or.inr rfl | exact of_decide_eq_true rfl | exact Path.imp_of (of_decide_eq_true rfl) | (focus ((try simp only [Int.reduceToNat, Int.reduceTDiv, Int.reduceTMod, minL, maxL, pickB, zHB, zSH, InK, Path.imp, List.length_replicate, List.length_set, List.length_append, List.length_cons, List.length_nil] at *); omega)) | (refine app_le rfl ?_; omega))); done)); (conv => whnf))
 | ((with_reducible refine And.intro (Side.out ?_) ?_); rotate_left; (conv => whnf))
 | ((first | refine retF1 ?_ | refine retF2 ?_) <;> (conv => whnf) <;> repeat' (first
 | exact trivial
 | (with_reducible rfl)
 | ((with_reducible refine And.intro ?_ ?_) <;> conv => whnf)
 | omega
 | rfl
 | (refine congrArg (SV.arr _) ?_)
 | (refine congrArg (Value.int _) ?_)
 | (refine congrArg Value.bool ?_)))); all_goals (try unfold Side)
  all_goals try (repeat' (first | (with_reducible rfl) | (with_reducible refine And.intro ?_ ?_) | omega | rfl | exact Or.inl rfl | exact Or.inr rfl | exact of_decide_eq_true rfl | exact Path.imp_of (of_decide_eq_true rfl) | (focus ((try simp only [Int.reduceToNat, Int.reduceTDiv, Int.reduceTMod, minL, maxL, pickB, zHB, zSH, InK, Path.imp, List.length_replicate, List.length_set, List.length_append, List.length_cons, List.length_nil] at *); omega)) | (refine app_le rfl ?_; omega)))
  all_goals try refine subF.ok ?_ <;> (conv => whnf) <;> repeat' (first
 | exact trivial
 | (with_reducible rfl)
 | ((with_reducible refine And.intro ?_ ?_) <;> conv => whnf)
 | omega
 | rfl
 | (refine congrArg (SV.arr _) ?_)
 | (refine congrArg (Value.int _) ?_)
 | (refine congrArg Value.bool ?_))
end Go.Proofs.Ytmfholchenihaaa
namespace Go.Proofs.Ytmfholchenihaaa
open Go Go.Vc Go.Sh
set_option linter.unusedVariables false
set_option linter.unusedSimpArgs false
set_option maxHeartbeats 8000000 in
theorem ShaftProves_at (P : Int) (l0 : List Jb) (os0 : List Od) (y : List Nd) : FnAt Try.prog false 5 [.agg [I64 P, .arr JT l0, .arr OT os0], .arr NT y] (.lit (.bool true)) [] := by
  obtain ⟨l, hl⟩ : ∃ l, l = l0.take 7 := ⟨_, rfl⟩
  obtain ⟨os, hos⟩ : ∃ os, os = os0.take 21 := ⟨_, rfl⟩
  obtain ⟨s, hs⟩ : ∃ s, s = y.take 20001 := ⟨_, rfl⟩
  have hll : l.length ≤ 1000 := by rw [hl, List.length_take]; omega
  have hlo : os.length ≤ 1000 := by rw [hos, List.length_take]; omega
  have hls : s.length ≤ 20001 := by rw [hs, List.length_take]; omega
  have hls2 : @List.length NT.T s = s.length := rfl
  have hll2 : @List.length JT.T l = l.length := rfl
  have hfw := few_eq (P := P) hl hos
  have hv := validR_at (P := P) hll hlo
  obtain ⟨j1, j2, j3⟩ := cut_list (k := 20001) y
  have j4 : 0 + (List.drop 0 (List.take (minL (y.length : Int) [((20001 : Nat) : Int)]).toNat y)).length ≤ 4294967296 := by rw [j1]; simp only [List.length_take]; omega
  rw [← hs] at j1
  by_cases h : VS P l os
  · rw [validB_yes h] at hv
    by_cases hlen : s.length ≤ 20000
    · have hf := Proves_ok h hlen
      have hr := rProves_at h hlen
      refine FnAt.of_body tys_ok Try.func5 (by rfl) rfl Try.ntmps5 (by rw [Try.results5]) (by simp) ?_
  
      repeat' (first
 | refine W.seq ?_
 | refine W.block ?_
 | (refine W.drawPhTo (id := 1) tys_ok [] mixed [0, 1, 0, 0, 0, 16, 32, 72, 134, 0, 771, 2047] [([3, 4, 5, 6, 7], 5, 1023), ([], 1, 2047), ([11], 0, 4095)] ⟨[(5, .st true (.sadr (.agg [I64 P, .arr JT l, .arr OT os]))), (6, .st true (.arr NT s))], []⟩ (by decide +kernel) ?_ ?_ <;> (conv => whnf))
 | (refine W.region tys_ok [] ?_; conv => whnf)
 | (refine W.drawAll tys_ok [] mixed rfl ?_; conv => whnf)
 | (refine W.ret ?_; conv => whnf)
 | (refine W.skip ?_; conv => whnf)
 | (refine W.exit ?_; conv => whnf)
 | (refine call_at (al := false) (hfw) rfl rfl rfl rfl ?_; conv => whnf)
 | (refine call_at (al := false) (hf) rfl rfl rfl rfl ?_; conv => whnf)
 | (refine call_at (al := false) (hv) rfl rfl rfl rfl ?_; conv => whnf)
 | (refine call_at (al := false) (hr) rfl rfl rfl rfl ?_; conv => whnf)
 | (refine call_at (al := false) (lives_at) rfl rfl rfl rfl ?_; conv => whnf)
 | (refine Both.mk ?_ ?_ <;> (conv => whnf))
 | (refine W.cond rfl (fun hb => ?_) (fun hb => ?_) <;> (try simp only [Int.reduceToNat, Int.reduceTDiv, Int.reduceTMod, minL, maxL, pickB, zHB, zSH] at hb) <;> (try (first | (cases hb; done) | exact absurd hb (by decide) | (exfalso; omega) | (omega))))
 | ((with_reducible refine And.intro ?_ ?_); (focus ((repeat' (first | (with_reducible rfl) | (with_reducible refine And.intro ?_ ?_) | omega | rfl | exact Or.inl rfl | exact Or.inr rfl | exact of_decide_eq_true rfl | exact Path.imp_of (of_decide_eq_true rfl) | (focus ((try simp only [Int.reduceToNat, Int.reduceTDiv, Int.reduceTMod, minL, maxL, pickB, zHB, zSH, InK, Path.imp, List.length_replicate, List.length_set, List.length_append, List.length_cons, List.length_nil] at *); omega)) | (refine app_le rfl ?_; omega))); done)); (conv => whnf))
 | ((with_reducible refine And.intro (Side.out ?_) ?_); rotate_left; (conv => whnf))
 | ((first | refine retF1 ?_ | refine retF2 ?_ | refine subF.leaf ?_ | refine subF.side ?_) <;> (conv => whnf) <;> repeat' (first
 | exact trivial
 | (with_reducible rfl)
 | ((with_reducible refine And.intro ?_ ?_) <;> conv => whnf)
 | omega
 | rfl
 | (refine congrArg (SV.arr _) ?_)
 | (refine congrArg (Value.int _) ?_)
 | (refine congrArg Value.bool ?_)))); all_goals (try unfold Side)
      all_goals try (repeat' (first | (with_reducible rfl) | (with_reducible refine And.intro ?_ ?_) | omega | rfl | exact Or.inl rfl | exact Or.inr rfl | exact of_decide_eq_true rfl | exact Path.imp_of (of_decide_eq_true rfl) | (focus ((try simp only [Int.reduceToNat, Int.reduceTDiv, Int.reduceTMod, minL, maxL, pickB, zHB, zSH, InK, Path.imp, List.length_replicate, List.length_set, List.length_append, List.length_cons, List.length_nil] at *); omega)) | (refine app_le rfl ?_; omega)))
      all_goals try (first | exact j1 | exact j4)
      all_goals simp [pickB]
    · have hf := Proves_long (pf := s) h (by omega)
      refine FnAt.of_body tys_ok Try.func5 (by rfl) rfl Try.ntmps5 (by rw [Try.results5]) (by simp) ?_
  
      repeat' (first
 | refine W.seq ?_
 | refine W.block ?_
 | (refine W.drawPhTo (id := 1) tys_ok [] mixed [0, 1, 0, 0, 0, 16, 32, 72, 134, 0, 771, 2047] [([3, 4, 5, 6, 7], 5, 1023), ([], 1, 2047), ([11], 0, 4095)] ⟨[(5, .st true (.sadr (.agg [I64 P, .arr JT l, .arr OT os]))), (6, .st true (.arr NT s))], []⟩ (by decide +kernel) ?_ ?_ <;> (conv => whnf))
 | (refine W.region tys_ok [] ?_; conv => whnf)
 | (refine W.drawAll tys_ok [] mixed rfl ?_; conv => whnf)
 | (refine W.ret ?_; conv => whnf)
 | (refine W.skip ?_; conv => whnf)
 | (refine W.exit ?_; conv => whnf)
 | (refine call_at (al := false) (hfw) rfl rfl rfl rfl ?_; conv => whnf)
 | (refine call_at (al := false) (hf) rfl rfl rfl rfl ?_; conv => whnf)
 | (refine call_at (al := false) (hv) rfl rfl rfl rfl ?_; conv => whnf)
 | (refine call_at (al := false) (lives_at) rfl rfl rfl rfl ?_; conv => whnf)
 | (refine Both.mk ?_ ?_ <;> (conv => whnf))
 | (refine W.cond rfl (fun hb => ?_) (fun hb => ?_) <;> (try simp only [Int.reduceToNat, Int.reduceTDiv, Int.reduceTMod, minL, maxL, pickB, zHB, zSH] at hb) <;> (try (first | (cases hb; done) | exact absurd hb (by decide) | (exfalso; omega) | (omega))))
 | ((with_reducible refine And.intro ?_ ?_); (focus ((repeat' (first | (with_reducible rfl) | (with_reducible refine And.intro ?_ ?_) | omega | rfl | exact Or.inl rfl | exact Or.inr rfl | exact of_decide_eq_true rfl | exact Path.imp_of (of_decide_eq_true rfl) | (focus ((try simp only [Int.reduceToNat, Int.reduceTDiv, Int.reduceTMod, minL, maxL, pickB, zHB, zSH, InK, Path.imp, List.length_replicate, List.length_set, List.length_append, List.length_cons, List.length_nil] at *); omega)) | (refine app_le rfl ?_; omega))); done)); (conv => whnf))
 | ((with_reducible refine And.intro (Side.out ?_) ?_); rotate_left; (conv => whnf))
 | ((first | refine retF1 ?_ | refine retF2 ?_ | refine subF.leaf ?_ | refine subF.side ?_) <;> (conv => whnf) <;> repeat' (first
 | exact trivial
 | (with_reducible rfl)
 | ((with_reducible refine And.intro ?_ ?_) <;> conv => whnf)
 | omega
 | rfl
 | (refine congrArg (SV.arr _) ?_)
 | (refine congrArg (Value.int _) ?_)
 | (refine congrArg Value.bool ?_)))); all_goals (try unfold Side)
      all_goals try (repeat' (first | (with_reducible rfl) | (with_reducible refine And.intro ?_ ?_) | omega | rfl | exact Or.inl rfl | exact Or.inr rfl | exact of_decide_eq_true rfl | exact Path.imp_of (of_decide_eq_true rfl) | (focus ((try simp only [Int.reduceToNat, Int.reduceTDiv, Int.reduceTMod, minL, maxL, pickB, zHB, zSH, InK, Path.imp, List.length_replicate, List.length_set, List.length_append, List.length_cons, List.length_nil] at *); omega)) | (refine app_le rfl ?_; omega)))
      all_goals try (first | exact j1 | exact j4)
      all_goals simp [pickB]
  · rw [validB_no h] at hv
    have hf := Proves_no (pf := s) hll hlo h
    refine FnAt.of_body tys_ok Try.func5 (by rfl) rfl Try.ntmps5 (by rw [Try.results5]) (by simp) ?_
  
    repeat' (first
 | refine W.seq ?_
 | refine W.block ?_
 | (refine W.drawPhTo (id := 1) tys_ok [] mixed [0, 1, 0, 0, 0, 16, 32, 72, 134, 0, 771, 2047] [([3, 4, 5, 6, 7], 5, 1023), ([], 1, 2047), ([11], 0, 4095)] ⟨[(5, .st true (.sadr (.agg [I64 P, .arr JT l, .arr OT os]))), (6, .st true (.arr NT s))], []⟩ (by decide +kernel) ?_ ?_ <;> (conv => whnf))
 | (refine W.region tys_ok [] ?_; conv => whnf)
 | (refine W.drawAll tys_ok [] mixed rfl ?_; conv => whnf)
 | (refine W.ret ?_; conv => whnf)
 | (refine W.skip ?_; conv => whnf)
 | (refine W.exit ?_; conv => whnf)
 | (refine call_at (al := false) (hfw) rfl rfl rfl rfl ?_; conv => whnf)
 | (refine call_at (al := false) (hf) rfl rfl rfl rfl ?_; conv => whnf)
 | (refine call_at (al := false) (hv) rfl rfl rfl rfl ?_; conv => whnf)
 | (refine call_at (al := false) (lives_at) rfl rfl rfl rfl ?_; conv => whnf)
 | (refine Both.mk ?_ ?_ <;> (conv => whnf))
 | (refine W.cond rfl (fun hb => ?_) (fun hb => ?_) <;> (try simp only [Int.reduceToNat, Int.reduceTDiv, Int.reduceTMod, minL, maxL, pickB, zHB, zSH] at hb) <;> (try (first | (cases hb; done) | exact absurd hb (by decide) | (exfalso; omega) | (omega))))
 | ((with_reducible refine And.intro ?_ ?_); (focus ((repeat' (first | (with_reducible rfl) | (with_reducible refine And.intro ?_ ?_) | omega | rfl | exact Or.inl rfl | exact Or.inr rfl | exact of_decide_eq_true rfl | exact Path.imp_of (of_decide_eq_true rfl) | (focus ((try simp only [Int.reduceToNat, Int.reduceTDiv, Int.reduceTMod, minL, maxL, pickB, zHB, zSH, InK, Path.imp, List.length_replicate, List.length_set, List.length_append, List.length_cons, List.length_nil] at *); omega)) | (refine app_le rfl ?_; omega))); done)); (conv => whnf))
 | ((with_reducible refine And.intro (Side.out ?_) ?_); rotate_left; (conv => whnf))
 | ((first | refine retF1 ?_ | refine retF2 ?_ | refine subF.leaf ?_ | refine subF.side ?_) <;> (conv => whnf) <;> repeat' (first
 | exact trivial
 | (with_reducible rfl)
 | ((with_reducible refine And.intro ?_ ?_) <;> conv => whnf)
 | omega
 | rfl
 | (refine congrArg (SV.arr _) ?_)
 | (refine congrArg (Value.int _) ?_)
 | (refine congrArg Value.bool ?_)))); all_goals (try unfold Side)
    all_goals try (repeat' (first | (with_reducible rfl) | (with_reducible refine And.intro ?_ ?_) | omega | rfl | exact Or.inl rfl | exact Or.inr rfl | exact of_decide_eq_true rfl | exact Path.imp_of (of_decide_eq_true rfl) | (focus ((try simp only [Int.reduceToNat, Int.reduceTDiv, Int.reduceTMod, minL, maxL, pickB, zHB, zSH, InK, Path.imp, List.length_replicate, List.length_set, List.length_append, List.length_cons, List.length_nil] at *); omega)) | (refine app_le rfl ?_; omega)))
    all_goals try (first | exact j1 | exact j4)
    all_goals simp [pickB]
end Go.Proofs.Ytmfholchenihaaa
