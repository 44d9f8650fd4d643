/- Joined of: S7 S8 Sm6 S9 Sm7 S10 S26 Se1 Se2 Se3 Se4 Se5 Sd1 Sm8 Sm9 Sc1. No condition. -/
import Derived.Test.YtdfajcfkdfjoeabJ4

/- The step that follows a step: the program's and the document's. No condition. -/
namespace Go.Proofs.Ytdfajcfkdfjoeab
open Go Go.Vc Go.Scr
set_option linter.unusedVariables false
set_option linter.unusedSimpArgs false

theorem around_p : FnAt Try.prog false 27 [.lit (.int .i64 1)] (.strct [.lit (.int .i64 0), .lit (.int .i64 2), .lit (.int .i64 1), .lit (.int .i64 3)]) [] := by
  refine FnAt.of_body tys_ok Try.func27 (by rfl) rfl Try.ntmps27 (by rw [Try.results27]) (by simp) ?_
  
  repeat' (first
 | refine W.seq ?_
 | refine W.block ?_
 | (refine W.region tys_ok [] ?_; conv => whnf)
 | (refine W.drawAll tys_ok [] mixed rfl ?_; conv => whnf)
 | (refine W.ret ?_; conv => whnf)
 | (refine W.skip ?_; conv => whnf)
 | (refine W.exit ?_; conv => whnf)

    | (refine W.cond rfl (fun hb => ?_) (fun hb => ?_) <;> (try simp only [Int.reduceToNat, Int.reduceTDiv, Int.reduceTMod, minL, maxL, pickB, zHB] at hb) <;> (try (first | (cases hb; done) | exact absurd hb (by decide) | (exfalso; omega))))
    | ((with_reducible refine And.intro ?_ ?_); (focus ((repeat' (first | (with_reducible rfl) | (with_reducible refine And.intro ?_ ?_) | omega | rfl | exact Or.inl rfl | exact Or.inr rfl | exact of_decide_eq_true rfl | exact Path.imp_of (of_decide_eq_true rfl) | (focus ((try simp only [Int.reduceToNat, Int.reduceTDiv, Int.reduceTMod, minL, maxL, pickB, zHB, InK, Path.imp, List.length_replicate, List.length_set, List.length_append, List.length_cons, List.length_nil] at *); omega)) | (refine app_le rfl ?_; omega))); done)); (conv => whnf))
    | ((with_reducible refine And.intro (Side.out ?_) ?_); rotate_left; (conv => whnf))
    | (refine retF1 ?_ <;> (conv => whnf) <;> repeat' (first
 | exact trivial
 | (with_reducible rfl)
 | ((with_reducible refine And.intro ?_ ?_) <;> conv => whnf)
 | omega
 | rfl
 | (refine congrArg (SV.arr _) ?_)
 | (refine congrArg (Value.int _) ?_)
 | (refine congrArg Value.bool ?_)))
 | (refine retF2 ?_ <;> (conv => whnf) <;> repeat' (first
 | exact trivial
 | (with_reducible rfl)
 | ((with_reducible refine And.intro ?_ ?_) <;> conv => whnf)
 | omega
 | rfl
 | (refine congrArg (SV.arr _) ?_)
 | (refine congrArg (Value.int _) ?_)
 | (refine congrArg Value.bool ?_)))); all_goals (try unfold Side)
  all_goals try (repeat' (first | (with_reducible rfl) | (with_reducible refine And.intro ?_ ?_) | omega | rfl | exact Or.inl rfl | exact Or.inr rfl | exact of_decide_eq_true rfl | exact Path.imp_of (of_decide_eq_true rfl) | (focus ((try simp only [Int.reduceToNat, Int.reduceTDiv, Int.reduceTMod, minL, maxL, pickB, zHB, InK, Path.imp, List.length_replicate, List.length_set, List.length_append, List.length_cons, List.length_nil] at *); omega)) | (refine app_le rfl ?_; omega)))
theorem around_m : FnAt Try.prog false 27 [.lit (.int .i64 (-1))] (.strct [.lit (.int .i64 0), .lit (.int .i64 3), .lit (.int .i64 1), .lit (.int .i64 2)]) [] := by
  refine FnAt.of_body tys_ok Try.func27 (by rfl) rfl Try.ntmps27 (by rw [Try.results27]) (by simp) ?_
  
  repeat' (first
 | refine W.seq ?_
 | refine W.block ?_
 | (refine W.region tys_ok [] ?_; conv => whnf)
 | (refine W.drawAll tys_ok [] mixed rfl ?_; conv => whnf)
 | (refine W.ret ?_; conv => whnf)
 | (refine W.skip ?_; conv => whnf)
 | (refine W.exit ?_; conv => whnf)

    | (refine W.cond rfl (fun hb => ?_) (fun hb => ?_) <;> (try simp only [Int.reduceToNat, Int.reduceTDiv, Int.reduceTMod, minL, maxL, pickB, zHB] at hb) <;> (try (first | (cases hb; done) | exact absurd hb (by decide) | (exfalso; omega))))
    | ((with_reducible refine And.intro ?_ ?_); (focus ((repeat' (first | (with_reducible rfl) | (with_reducible refine And.intro ?_ ?_) | omega | rfl | exact Or.inl rfl | exact Or.inr rfl | exact of_decide_eq_true rfl | exact Path.imp_of (of_decide_eq_true rfl) | (focus ((try simp only [Int.reduceToNat, Int.reduceTDiv, Int.reduceTMod, minL, maxL, pickB, zHB, InK, Path.imp, List.length_replicate, List.length_set, List.length_append, List.length_cons, List.length_nil] at *); omega)) | (refine app_le rfl ?_; omega))); done)); (conv => whnf))
    | ((with_reducible refine And.intro (Side.out ?_) ?_); rotate_left; (conv => whnf))
    | (refine retF1 ?_ <;> (conv => whnf) <;> repeat' (first
 | exact trivial
 | (with_reducible rfl)
 | ((with_reducible refine And.intro ?_ ?_) <;> conv => whnf)
 | omega
 | rfl
 | (refine congrArg (SV.arr _) ?_)
 | (refine congrArg (Value.int _) ?_)
 | (refine congrArg Value.bool ?_)))
 | (refine retF2 ?_ <;> (conv => whnf) <;> repeat' (first
 | exact trivial
 | (with_reducible rfl)
 | ((with_reducible refine And.intro ?_ ?_) <;> conv => whnf)
 | omega
 | rfl
 | (refine congrArg (SV.arr _) ?_)
 | (refine congrArg (Value.int _) ?_)
 | (refine congrArg Value.bool ?_)))); all_goals (try unfold Side)
  all_goals try (repeat' (first | (with_reducible rfl) | (with_reducible refine And.intro ?_ ?_) | omega | rfl | exact Or.inl rfl | exact Or.inr rfl | exact of_decide_eq_true rfl | exact Path.imp_of (of_decide_eq_true rfl) | (focus ((try simp only [Int.reduceToNat, Int.reduceTDiv, Int.reduceTMod, minL, maxL, pickB, zHB, InK, Path.imp, List.length_replicate, List.length_set, List.length_append, List.length_cons, List.length_nil] at *); omega)) | (refine app_le rfl ?_; omega)))
theorem index_at (xs : List Int) (v : Int) (hl : xs.length ≤ 1000) : FnAt Try.prog false 28 [.arr (.int .i64) xs, .lit (.int .i64 v)] (.lit (.int .i64 (fidx (fun x => decide (v = x)) 0 xs))) [] := by
  refine FnAt.of_body tys_ok Try.func28 (by rfl) rfl Try.ntmps28 (by rw [Try.results28]) (by simp) ?_
  
  repeat' (first
 | refine W.seq ?_
 | refine W.block ?_
 | (refine W.region tys_ok [] ?_; conv => whnf)
 | (refine W.drawAll tys_ok [] mixed rfl ?_; conv => whnf)
 | (refine W.ret ?_; conv => whnf)
 | (refine W.skip ?_; conv => whnf)
 | (refine W.exit ?_; conv => whnf)

    | (refine W.cond rfl (fun hb => ?_) (fun hb => ?_) <;> (try simp only [Int.reduceToNat, Int.reduceTDiv, Int.reduceTMod, minL, maxL, pickB, zHB] at hb) <;> (try (first | (cases hb; done) | exact absurd hb (by decide) | (exfalso; omega))))
    | ((with_reducible refine And.intro ?_ ?_); (focus ((repeat' (first | (with_reducible rfl) | (with_reducible refine And.intro ?_ ?_) | omega | rfl | exact Or.inl rfl | exact Or.inr rfl | exact of_decide_eq_true rfl | exact Path.imp_of (of_decide_eq_true rfl) | (focus ((try simp only [Int.reduceToNat, Int.reduceTDiv, Int.reduceTMod, minL, maxL, pickB, zHB, InK, Path.imp, List.length_replicate, List.length_set, List.length_append, List.length_cons, List.length_nil] at *); omega)) | (refine app_le rfl ?_; omega))); done)); (conv => whnf))
    | ((with_reducible refine And.intro (Side.out ?_) ?_); rotate_left; (conv => whnf))
    | (refine retF1 ?_ <;> (conv => whnf) <;> repeat' (first
 | exact trivial
 | (with_reducible rfl)
 | ((with_reducible refine And.intro ?_ ?_) <;> conv => whnf)
 | omega
 | rfl
 | (refine congrArg (SV.arr _) ?_)
 | (refine congrArg (Value.int _) ?_)
 | (refine congrArg Value.bool ?_)))
 | (refine retF2 ?_ <;> (conv => whnf) <;> repeat' (first
 | exact trivial
 | (with_reducible rfl)
 | ((with_reducible refine And.intro ?_ ?_) <;> conv => whnf)
 | omega
 | rfl
 | (refine congrArg (SV.arr _) ?_)
 | (refine congrArg (Value.int _) ?_)
 | (refine congrArg Value.bool ?_)))); all_goals (try unfold Side)
  refine W.loop (fun i : Nat => ⟨[(0, .st false (.arr (.int .i64) (xs : List Int))), (1, .lit (.int .i64 (v))), (7, .lit (.int .i64 (@List.length (Ty.int .i64).T xs))), (8, .lit (.int .i64 (i)))], []⟩) (fun i => i ≤ xs.length ∧ fidx (fun x => decide (v = x)) 0 xs = fidx (fun x => decide (v = x)) i (xs.drop i)) (fun i => xs.length - i) (0) ?_ ?_
  · refine ⟨⟨Nat.zero_le _, rfl⟩, ?_⟩
    refine subF.ok ?_ <;> (conv => whnf) <;> repeat' (first
 | exact trivial
 | (with_reducible rfl)
 | ((with_reducible refine And.intro ?_ ?_) <;> conv => whnf)
 | omega
 | rfl
 | (refine congrArg (SV.arr _) ?_)
 | (refine congrArg (Value.int _) ?_)
 | (refine congrArg Value.bool ?_))
  · rintro i ⟨hi, hv⟩
    by_cases hil : i < xs.length
    · rw [drop_getD 0 hil, fidx] at hv
      repeat' (first
 | refine W.seq ?_
 | refine W.block ?_
 | (refine W.region tys_ok [] ?_; conv => whnf)
 | (refine W.drawAll tys_ok [] mixed rfl ?_; conv => whnf)
 | (refine W.ret ?_; conv => whnf)
 | (refine W.skip ?_; conv => whnf)
 | (refine W.exit ?_; conv => whnf)

    | (refine W.cond rfl (fun hb => ?_) (fun hb => ?_) <;> (try simp only [Int.reduceToNat, Int.reduceTDiv, Int.reduceTMod, minL, maxL, pickB, zHB] at hb) <;> (try (first | (cases hb; done) | exact absurd hb (by decide) | (exfalso; omega))))
    | ((with_reducible refine And.intro ?_ ?_); (focus ((repeat' (first | (with_reducible rfl) | (with_reducible refine And.intro ?_ ?_) | omega | rfl | exact Or.inl rfl | exact Or.inr rfl | exact of_decide_eq_true rfl | exact Path.imp_of (of_decide_eq_true rfl) | (focus ((try simp only [Int.reduceToNat, Int.reduceTDiv, Int.reduceTMod, minL, maxL, pickB, zHB, InK, Path.imp, List.length_replicate, List.length_set, List.length_append, List.length_cons, List.length_nil] at *); omega)) | (refine app_le rfl ?_; omega))); done)); (conv => whnf))
    | ((with_reducible refine And.intro (Side.out ?_) ?_); rotate_left; (conv => whnf))
    | (refine retF1 ?_ <;> (conv => whnf) <;> repeat' (first
 | exact trivial
 | (with_reducible rfl)
 | ((with_reducible refine And.intro ?_ ?_) <;> conv => whnf)
 | omega
 | rfl
 | (refine congrArg (SV.arr _) ?_)
 | (refine congrArg (Value.int _) ?_)
 | (refine congrArg Value.bool ?_)))
 | (refine retF2 ?_ <;> (conv => whnf) <;> repeat' (first
 | exact trivial
 | (with_reducible rfl)
 | ((with_reducible refine And.intro ?_ ?_) <;> conv => whnf)
 | omega
 | rfl
 | (refine congrArg (SV.arr _) ?_)
 | (refine congrArg (Value.int _) ?_)
 | (refine congrArg Value.bool ?_)))); all_goals (try unfold Side)
      all_goals try (repeat' (first | (with_reducible rfl) | (with_reducible refine And.intro ?_ ?_) | omega | rfl | exact Or.inl rfl | exact Or.inr rfl | exact of_decide_eq_true rfl | exact Path.imp_of (of_decide_eq_true rfl) | (focus ((try simp only [Int.reduceToNat, Int.reduceTDiv, Int.reduceTMod, minL, maxL, pickB, zHB, InK, Path.imp, List.length_replicate, List.length_set, List.length_append, List.length_cons, List.length_nil] at *); omega)) | (refine app_le rfl ?_; omega)))
      · rw [hv, decide_eq_true hb]; rfl
      · refine ⟨i + 1, ⟨⟨by omega, ?_⟩, by omega⟩, ?_⟩
        · rw [hv, decide_eq_false hb]; rfl
        · refine subF.ok ?_ <;> (conv => whnf) <;> repeat' (first
 | exact trivial
 | (with_reducible rfl)
 | ((with_reducible refine And.intro ?_ ?_) <;> conv => whnf)
 | omega
 | rfl
 | (refine congrArg (SV.arr _) ?_)
 | (refine congrArg (Value.int _) ?_)
 | (refine congrArg Value.bool ?_))
    · have hie : xs.length = i := by omega
      subst hie
      rw [List.drop_length, fidx] at hv
      repeat' (first
 | refine W.seq ?_
 | refine W.block ?_
 | (refine W.region tys_ok [] ?_; conv => whnf)
 | (refine W.drawAll tys_ok [] mixed rfl ?_; conv => whnf)
 | (refine W.ret ?_; conv => whnf)
 | (refine W.skip ?_; conv => whnf)
 | (refine W.exit ?_; conv => whnf)

    | (refine W.cond rfl (fun hb => ?_) (fun hb => ?_) <;> (try simp only [Int.reduceToNat, Int.reduceTDiv, Int.reduceTMod, minL, maxL, pickB, zHB] at hb) <;> (try (first | (cases hb; done) | exact absurd hb (by decide) | (exfalso; omega))))
    | ((with_reducible refine And.intro ?_ ?_); (focus ((repeat' (first | (with_reducible rfl) | (with_reducible refine And.intro ?_ ?_) | omega | rfl | exact Or.inl rfl | exact Or.inr rfl | exact of_decide_eq_true rfl | exact Path.imp_of (of_decide_eq_true rfl) | (focus ((try simp only [Int.reduceToNat, Int.reduceTDiv, Int.reduceTMod, minL, maxL, pickB, zHB, InK, Path.imp, List.length_replicate, List.length_set, List.length_append, List.length_cons, List.length_nil] at *); omega)) | (refine app_le rfl ?_; omega))); done)); (conv => whnf))
    | ((with_reducible refine And.intro (Side.out ?_) ?_); rotate_left; (conv => whnf))
    | (refine retF1 ?_ <;> (conv => whnf) <;> repeat' (first
 | exact trivial
 | (with_reducible rfl)
 | ((with_reducible refine And.intro ?_ ?_) <;> conv => whnf)
 | omega
 | rfl
 | (refine congrArg (SV.arr _) ?_)
 | (refine congrArg (Value.int _) ?_)
 | (refine congrArg Value.bool ?_)))
 | (refine retF2 ?_ <;> (conv => whnf) <;> repeat' (first
 | exact trivial
 | (with_reducible rfl)
 | ((with_reducible refine And.intro ?_ ?_) <;> conv => whnf)
 | omega
 | rfl
 | (refine congrArg (SV.arr _) ?_)
 | (refine congrArg (Value.int _) ?_)
 | (refine congrArg Value.bool ?_)))); all_goals (try unfold Side)
      all_goals try (repeat' (first | (with_reducible rfl) | (with_reducible refine And.intro ?_ ?_) | omega | rfl | exact Or.inl rfl | exact Or.inr rfl | exact of_decide_eq_true rfl | exact Path.imp_of (of_decide_eq_true rfl) | (focus ((try simp only [Int.reduceToNat, Int.reduceTDiv, Int.reduceTMod, minL, maxL, pickB, zHB, InK, Path.imp, List.length_replicate, List.length_set, List.length_append, List.length_cons, List.length_nil] at *); omega)) | (refine app_le rfl ?_; omega)))
      all_goals exact hv.symm
theorem index_lit (xs : List Int) (v j : Int) (hl : xs.length ≤ 1000) (h : fidx (fun x => decide (v = x)) 0 xs = j) : FnAt Try.prog false 28 [.arr (.int .i64) xs, .lit (.int .i64 v)] (.lit (.int .i64 j)) [] := by
  rw [← h]; exact index_at xs v hl

set_option maxHeartbeats 4000000 in
theorem next_fpp {w s : List Int} {n x p q : Nat} {st : Int} (h : Word w n) (hn : n ≤ 10) (hl : s.length = n) (h0 : -((2 * n : Nat) : Int) ≤ st) (h1 : st < (2 * n : Nat)) (hx : x < n) (hpq : p < q) (hq : q < 2 * n)
    (hpl : placesT w x = [(p : Int), (q : Int)]) (hwa : w.getD p 0 = x) (hc : 0 ≤ st) (hat : (st + 1).tmod ((2 * n : Nat) : Int) = p) (hs : s.getD x 0 = 1) : FnAt Try.prog false 23 [curveT n w, .lit (.int .i64 st), .arr (.int .i64) s] (.lit (.int .i64 (-1 - ((q : Int) + (2 * n : Nat) - 1).tmod (2 * n : Nat)))) [] := by
  have hwl : @List.length (Ty.int .i64).T w = 2 * n := h.len
  have hsl : @List.length (Ty.int .i64).T s = n := hl
  have hPl : @List.length (Ty.sl (.int .i64)).T (PT w n) = n := PT_len
  have hPx : (PT w n).getD x [] = [(p : Int), (q : Int)] := (PT_get hx).trans hpl
  have hPs : @List.length (Ty.int .i64).T (@List.getD (Ty.sl (.int .i64)).T (PT w n) x (Ty.sl (.int .i64)).dflt) = 2 := by
    show ((PT w n).getD x []).length = 2
    rw [hPx]; rfl
  have hPs2 : ((PT w n).getD x []).length = 2 := hPs
  have hp2 : ((PT w n).getD x []).getD 0 0 = (p : Int) := by rw [hPx]; rfl
  have hq2 : ((PT w n).getD x []).getD 1 0 = (q : Int) := by rw [hPx]; rfl
  have ht0 := Int.tmod_nonneg (a := (q : Int) + (2 * n : Nat) - 1) (2 * n : Nat) (by omega)
  have ht1 := Int.tmod_lt_of_pos ((q : Int) + (2 * n : Nat) - 1) (b := (2 * n : Nat)) (by omega)
  have har : FnAt Try.prog false 27 [.lit (.int .i64 (s.getD x 0))] (.strct [.lit (.int .i64 0), .lit (.int .i64 2), .lit (.int .i64 1), .lit (.int .i64 3)]) [] := by
    rw [hs]; exact around_p
  refine FnAt.of_body tys_ok Try.func23 (by rfl) rfl Try.ntmps23 (by rw [Try.results23]) (by simp) ?_
  
  repeat' (first
 | refine W.seq ?_
 | refine W.block ?_
 | (refine W.resub (x := Code.region 6 _ _) (Γ' := ⟨[(0, .st false (curveT n w)), (1, .lit (.int .i64 (st))), (2, .st false (.arr (.int .i64) (s : List Int))), (7, .lit (.int .i64 (@List.length (Ty.int .i64).T w))), (8, .lit (.int .i64 (p))), (9, .lit (.bool (true)))], []⟩) ?_ (W.region tys_ok [] ?_); rotate_left; (conv => whnf))
 | (refine W.resub (x := Code.region 7 _ _) (Γ' := ⟨[(0, .st false (curveT n w)), (1, .lit (.int .i64 (st))), (2, .st false (.arr (.int .i64) (s : List Int))), (7, .lit (.int .i64 (@List.length (Ty.int .i64).T w))), (8, .lit (.int .i64 (p))), (9, .lit (.bool (true))), (10, .lit (.int .i64 (x)))], []⟩) ?_ (W.region tys_ok [] ?_); rotate_left; (conv => whnf))
 | (refine W.resub (x := Code.region 13 _ _) (Γ' := ⟨[(0, .st false (curveT n w)), (1, .lit (.int .i64 (st))), (2, .st false (.arr (.int .i64) (s : List Int))), (7, .lit (.int .i64 (@List.length (Ty.int .i64).T w))), (8, .lit (.int .i64 (p))), (9, .lit (.bool (true))), (10, .lit (.int .i64 (x))), (11, .lit (.int .i64 (0))), (12, .st true (.sadr (.agg [.lit (.int .i64 0), .lit (.int .i64 2), .lit (.int .i64 1), .lit (.int .i64 3)])))], []⟩) ?_ (W.region tys_ok [] ?_); rotate_left; (conv => whnf))
 | (refine W.resub (x := Code.region 15 _ _) (Γ' := ⟨[(0, .st false (curveT n w)), (1, .lit (.int .i64 (st))), (2, .st false (.arr (.int .i64) (s : List Int))), (7, .lit (.int .i64 ((2 * n : Nat)))), (8, .lit (.int .i64 (p))), (9, .lit (.bool (true))), (13, .lit (.int .i64 (2))), (14, .lit (.int .i64 (q)))], []⟩) ?_ (W.region tys_ok [] ?_); rotate_left; (conv => whnf))
 | (refine W.region tys_ok [] ?_; conv => whnf)
 | (refine W.drawAll tys_ok [] mixed rfl ?_; conv => whnf)
 | (refine W.ret ?_; conv => whnf)
 | (refine W.skip ?_; conv => whnf)
 | (refine W.exit ?_; conv => whnf)
 | (refine call_at (al := false) (har) rfl rfl rfl rfl ?_; conv => whnf)
 | (refine call_at (al := false) (index_lit [0, 2, 1, 3] 0 0 (by decide) rfl) rfl rfl rfl rfl ?_; conv => whnf)

    | (refine W.cond rfl (fun hb => ?_) (fun hb => ?_) <;> (try simp only [Int.reduceToNat, Int.reduceTDiv, Int.reduceTMod, minL, maxL, pickB, zHB] at hb) <;> (try (first | (cases hb; done) | exact absurd hb (by decide) | (exfalso; omega))))
    | ((with_reducible refine And.intro ?_ ?_); (focus ((repeat' (first | (with_reducible rfl) | (with_reducible refine And.intro ?_ ?_) | omega | rfl | exact Or.inl rfl | exact Or.inr rfl | exact of_decide_eq_true rfl | exact Path.imp_of (of_decide_eq_true rfl) | (focus ((try simp only [Int.reduceToNat, Int.reduceTDiv, Int.reduceTMod, minL, maxL, pickB, zHB, InK, Path.imp, List.length_replicate, List.length_set, List.length_append, List.length_cons, List.length_nil] at *); omega)) | (refine app_le rfl ?_; omega))); done)); (conv => whnf))
    | ((with_reducible refine And.intro (Side.out ?_) ?_); rotate_left; (conv => whnf))
    | (refine retF1 ?_ <;> (conv => whnf) <;> repeat' (first
 | exact trivial
 | (with_reducible rfl)
 | ((with_reducible refine And.intro ?_ ?_) <;> conv => whnf)
 | omega
 | rfl
 | (refine congrArg (SV.arr _) ?_)
 | (refine congrArg (Value.int _) ?_)
 | (refine congrArg Value.bool ?_)))
 | (refine retF2 ?_ <;> (conv => whnf) <;> repeat' (first
 | exact trivial
 | (with_reducible rfl)
 | ((with_reducible refine And.intro ?_ ?_) <;> conv => whnf)
 | omega
 | rfl
 | (refine congrArg (SV.arr _) ?_)
 | (refine congrArg (Value.int _) ?_)
 | (refine congrArg Value.bool ?_)))); all_goals (try unfold Side)
  all_goals try (repeat' (first | (with_reducible rfl) | (with_reducible refine And.intro ?_ ?_) | omega | rfl | exact Or.inl rfl | exact Or.inr rfl | exact of_decide_eq_true rfl | exact Path.imp_of (of_decide_eq_true rfl) | (focus ((try simp only [Int.reduceToNat, Int.reduceTDiv, Int.reduceTMod, minL, maxL, pickB, zHB, InK, Path.imp, List.length_replicate, List.length_set, List.length_append, List.length_cons, List.length_nil] at *); omega)) | (refine app_le rfl ?_; omega)))
  all_goals first | (refine subF.ok ?_ <;> (conv => whnf) <;> repeat' (first
 | exact trivial
 | (with_reducible rfl)
 | ((with_reducible refine And.intro ?_ ?_) <;> conv => whnf)
 | omega
 | rfl
 | (refine congrArg (SV.arr _) ?_)
 | (refine congrArg (Value.int _) ?_)
 | (refine congrArg Value.bool ?_))) | skip
  all_goals try (repeat' (first | (with_reducible rfl) | (with_reducible refine And.intro ?_ ?_) | omega | rfl | exact Or.inl rfl | exact Or.inr rfl | exact of_decide_eq_true rfl | exact Path.imp_of (of_decide_eq_true rfl) | (focus ((try simp only [Int.reduceToNat, Int.reduceTDiv, Int.reduceTMod, minL, maxL, pickB, zHB, InK, Path.imp, List.length_replicate, List.length_set, List.length_append, List.length_cons, List.length_nil] at *); omega)) | (refine app_le rfl ?_; omega)))
  all_goals (rw [hwl]; exact hat)
set_option maxHeartbeats 4000000 in
theorem next_fpq {w s : List Int} {n x p q : Nat} {st : Int} (h : Word w n) (hn : n ≤ 10) (hl : s.length = n) (h0 : -((2 * n : Nat) : Int) ≤ st) (h1 : st < (2 * n : Nat)) (hx : x < n) (hpq : p < q) (hq : q < 2 * n)
    (hpl : placesT w x = [(p : Int), (q : Int)]) (hwa : w.getD q 0 = x) (hc : 0 ≤ st) (hat : (st + 1).tmod ((2 * n : Nat) : Int) = q) (hs : s.getD x 0 = 1) : FnAt Try.prog false 23 [curveT n w, .lit (.int .i64 st), .arr (.int .i64) s] (.lit (.int .i64 ((p : Int)))) [] := by
  have hwl : @List.length (Ty.int .i64).T w = 2 * n := h.len
  have hsl : @List.length (Ty.int .i64).T s = n := hl
  have hPl : @List.length (Ty.sl (.int .i64)).T (PT w n) = n := PT_len
  have hPx : (PT w n).getD x [] = [(p : Int), (q : Int)] := (PT_get hx).trans hpl
  have hPs : @List.length (Ty.int .i64).T (@List.getD (Ty.sl (.int .i64)).T (PT w n) x (Ty.sl (.int .i64)).dflt) = 2 := by
    show ((PT w n).getD x []).length = 2
    rw [hPx]; rfl
  have hPs2 : ((PT w n).getD x []).length = 2 := hPs
  have hp2 : ((PT w n).getD x []).getD 0 0 = (p : Int) := by rw [hPx]; rfl
  have hq2 : ((PT w n).getD x []).getD 1 0 = (q : Int) := by rw [hPx]; rfl
  have ht0 := Int.tmod_nonneg (a := (p : Int) + (2 * n : Nat) - 1) (2 * n : Nat) (by omega)
  have ht1 := Int.tmod_lt_of_pos ((p : Int) + (2 * n : Nat) - 1) (b := (2 * n : Nat)) (by omega)
  have har : FnAt Try.prog false 27 [.lit (.int .i64 (s.getD x 0))] (.strct [.lit (.int .i64 0), .lit (.int .i64 2), .lit (.int .i64 1), .lit (.int .i64 3)]) [] := by
    rw [hs]; exact around_p
  refine FnAt.of_body tys_ok Try.func23 (by rfl) rfl Try.ntmps23 (by rw [Try.results23]) (by simp) ?_
  
  repeat' (first
 | refine W.seq ?_
 | refine W.block ?_
 | (refine W.resub (x := Code.region 6 _ _) (Γ' := ⟨[(0, .st false (curveT n w)), (1, .lit (.int .i64 (st))), (2, .st false (.arr (.int .i64) (s : List Int))), (7, .lit (.int .i64 (@List.length (Ty.int .i64).T w))), (8, .lit (.int .i64 (q))), (9, .lit (.bool (true)))], []⟩) ?_ (W.region tys_ok [] ?_); rotate_left; (conv => whnf))
 | (refine W.resub (x := Code.region 7 _ _) (Γ' := ⟨[(0, .st false (curveT n w)), (1, .lit (.int .i64 (st))), (2, .st false (.arr (.int .i64) (s : List Int))), (7, .lit (.int .i64 (@List.length (Ty.int .i64).T w))), (8, .lit (.int .i64 (q))), (9, .lit (.bool (true))), (10, .lit (.int .i64 (x)))], []⟩) ?_ (W.region tys_ok [] ?_); rotate_left; (conv => whnf))
 | (refine W.resub (x := Code.region 13 _ _) (Γ' := ⟨[(0, .st false (curveT n w)), (1, .lit (.int .i64 (st))), (2, .st false (.arr (.int .i64) (s : List Int))), (7, .lit (.int .i64 (@List.length (Ty.int .i64).T w))), (8, .lit (.int .i64 (q))), (9, .lit (.bool (true))), (10, .lit (.int .i64 (x))), (11, .lit (.int .i64 (2))), (12, .st true (.sadr (.agg [.lit (.int .i64 0), .lit (.int .i64 2), .lit (.int .i64 1), .lit (.int .i64 3)])))], []⟩) ?_ (W.region tys_ok [] ?_); rotate_left; (conv => whnf))
 | (refine W.resub (x := Code.region 15 _ _) (Γ' := ⟨[(0, .st false (curveT n w)), (1, .lit (.int .i64 (st))), (2, .st false (.arr (.int .i64) (s : List Int))), (7, .lit (.int .i64 ((2 * n : Nat)))), (8, .lit (.int .i64 (q))), (9, .lit (.bool (true))), (13, .lit (.int .i64 (1))), (14, .lit (.int .i64 (p)))], []⟩) ?_ (W.region tys_ok [] ?_); rotate_left; (conv => whnf))
 | (refine W.region tys_ok [] ?_; conv => whnf)
 | (refine W.drawAll tys_ok [] mixed rfl ?_; conv => whnf)
 | (refine W.ret ?_; conv => whnf)
 | (refine W.skip ?_; conv => whnf)
 | (refine W.exit ?_; conv => whnf)
 | (refine call_at (al := false) (har) rfl rfl rfl rfl ?_; conv => whnf)
 | (refine call_at (al := false) (index_lit [0, 2, 1, 3] 2 1 (by decide) rfl) rfl rfl rfl rfl ?_; conv => whnf)

    | (refine W.cond rfl (fun hb => ?_) (fun hb => ?_) <;> (try simp only [Int.reduceToNat, Int.reduceTDiv, Int.reduceTMod, minL, maxL, pickB, zHB] at hb) <;> (try (first | (cases hb; done) | exact absurd hb (by decide) | (exfalso; omega))))
    | ((with_reducible refine And.intro ?_ ?_); (focus ((repeat' (first | (with_reducible rfl) | (with_reducible refine And.intro ?_ ?_) | omega | rfl | exact Or.inl rfl | exact Or.inr rfl | exact of_decide_eq_true rfl | exact Path.imp_of (of_decide_eq_true rfl) | (focus ((try simp only [Int.reduceToNat, Int.reduceTDiv, Int.reduceTMod, minL, maxL, pickB, zHB, InK, Path.imp, List.length_replicate, List.length_set, List.length_append, List.length_cons, List.length_nil] at *); omega)) | (refine app_le rfl ?_; omega))); done)); (conv => whnf))
    | ((with_reducible refine And.intro (Side.out ?_) ?_); rotate_left; (conv => whnf))
    | (refine retF1 ?_ <;> (conv => whnf) <;> repeat' (first
 | exact trivial
 | (with_reducible rfl)
 | ((with_reducible refine And.intro ?_ ?_) <;> conv => whnf)
 | omega
 | rfl
 | (refine congrArg (SV.arr _) ?_)
 | (refine congrArg (Value.int _) ?_)
 | (refine congrArg Value.bool ?_)))
 | (refine retF2 ?_ <;> (conv => whnf) <;> repeat' (first
 | exact trivial
 | (with_reducible rfl)
 | ((with_reducible refine And.intro ?_ ?_) <;> conv => whnf)
 | omega
 | rfl
 | (refine congrArg (SV.arr _) ?_)
 | (refine congrArg (Value.int _) ?_)
 | (refine congrArg Value.bool ?_)))); all_goals (try unfold Side)
  all_goals try (repeat' (first | (with_reducible rfl) | (with_reducible refine And.intro ?_ ?_) | omega | rfl | exact Or.inl rfl | exact Or.inr rfl | exact of_decide_eq_true rfl | exact Path.imp_of (of_decide_eq_true rfl) | (focus ((try simp only [Int.reduceToNat, Int.reduceTDiv, Int.reduceTMod, minL, maxL, pickB, zHB, InK, Path.imp, List.length_replicate, List.length_set, List.length_append, List.length_cons, List.length_nil] at *); omega)) | (refine app_le rfl ?_; omega)))
  all_goals first | (refine subF.ok ?_ <;> (conv => whnf) <;> repeat' (first
 | exact trivial
 | (with_reducible rfl)
 | ((with_reducible refine And.intro ?_ ?_) <;> conv => whnf)
 | omega
 | rfl
 | (refine congrArg (SV.arr _) ?_)
 | (refine congrArg (Value.int _) ?_)
 | (refine congrArg Value.bool ?_))) | skip
  all_goals try (repeat' (first | (with_reducible rfl) | (with_reducible refine And.intro ?_ ?_) | omega | rfl | exact Or.inl rfl | exact Or.inr rfl | exact of_decide_eq_true rfl | exact Path.imp_of (of_decide_eq_true rfl) | (focus ((try simp only [Int.reduceToNat, Int.reduceTDiv, Int.reduceTMod, minL, maxL, pickB, zHB, InK, Path.imp, List.length_replicate, List.length_set, List.length_append, List.length_cons, List.length_nil] at *); omega)) | (refine app_le rfl ?_; omega)))
  all_goals (rw [hwl]; exact hat)
set_option maxHeartbeats 4000000 in
theorem next_fmp {w s : List Int} {n x p q : Nat} {st : Int} (h : Word w n) (hn : n ≤ 10) (hl : s.length = n) (h0 : -((2 * n : Nat) : Int) ≤ st) (h1 : st < (2 * n : Nat)) (hx : x < n) (hpq : p < q) (hq : q < 2 * n)
    (hpl : placesT w x = [(p : Int), (q : Int)]) (hwa : w.getD p 0 = x) (hc : 0 ≤ st) (hat : (st + 1).tmod ((2 * n : Nat) : Int) = p) (hs : s.getD x 0 = -1) : FnAt Try.prog false 23 [curveT n w, .lit (.int .i64 st), .arr (.int .i64) s] (.lit (.int .i64 ((q : Int)))) [] := by
  have hwl : @List.length (Ty.int .i64).T w = 2 * n := h.len
  have hsl : @List.length (Ty.int .i64).T s = n := hl
  have hPl : @List.length (Ty.sl (.int .i64)).T (PT w n) = n := PT_len
  have hPx : (PT w n).getD x [] = [(p : Int), (q : Int)] := (PT_get hx).trans hpl
  have hPs : @List.length (Ty.int .i64).T (@List.getD (Ty.sl (.int .i64)).T (PT w n) x (Ty.sl (.int .i64)).dflt) = 2 := by
    show ((PT w n).getD x []).length = 2
    rw [hPx]; rfl
  have hPs2 : ((PT w n).getD x []).length = 2 := hPs
  have hp2 : ((PT w n).getD x []).getD 0 0 = (p : Int) := by rw [hPx]; rfl
  have hq2 : ((PT w n).getD x []).getD 1 0 = (q : Int) := by rw [hPx]; rfl
  have ht0 := Int.tmod_nonneg (a := (q : Int) + (2 * n : Nat) - 1) (2 * n : Nat) (by omega)
  have ht1 := Int.tmod_lt_of_pos ((q : Int) + (2 * n : Nat) - 1) (b := (2 * n : Nat)) (by omega)
  have har : FnAt Try.prog false 27 [.lit (.int .i64 (s.getD x 0))] (.strct [.lit (.int .i64 0), .lit (.int .i64 3), .lit (.int .i64 1), .lit (.int .i64 2)]) [] := by
    rw [hs]; exact around_m
  refine FnAt.of_body tys_ok Try.func23 (by rfl) rfl Try.ntmps23 (by rw [Try.results23]) (by simp) ?_
  
  repeat' (first
 | refine W.seq ?_
 | refine W.block ?_
 | (refine W.resub (x := Code.region 6 _ _) (Γ' := ⟨[(0, .st false (curveT n w)), (1, .lit (.int .i64 (st))), (2, .st false (.arr (.int .i64) (s : List Int))), (7, .lit (.int .i64 (@List.length (Ty.int .i64).T w))), (8, .lit (.int .i64 (p))), (9, .lit (.bool (true)))], []⟩) ?_ (W.region tys_ok [] ?_); rotate_left; (conv => whnf))
 | (refine W.resub (x := Code.region 7 _ _) (Γ' := ⟨[(0, .st false (curveT n w)), (1, .lit (.int .i64 (st))), (2, .st false (.arr (.int .i64) (s : List Int))), (7, .lit (.int .i64 (@List.length (Ty.int .i64).T w))), (8, .lit (.int .i64 (p))), (9, .lit (.bool (true))), (10, .lit (.int .i64 (x)))], []⟩) ?_ (W.region tys_ok [] ?_); rotate_left; (conv => whnf))
 | (refine W.resub (x := Code.region 13 _ _) (Γ' := ⟨[(0, .st false (curveT n w)), (1, .lit (.int .i64 (st))), (2, .st false (.arr (.int .i64) (s : List Int))), (7, .lit (.int .i64 (@List.length (Ty.int .i64).T w))), (8, .lit (.int .i64 (p))), (9, .lit (.bool (true))), (10, .lit (.int .i64 (x))), (11, .lit (.int .i64 (0))), (12, .st true (.sadr (.agg [.lit (.int .i64 0), .lit (.int .i64 3), .lit (.int .i64 1), .lit (.int .i64 2)])))], []⟩) ?_ (W.region tys_ok [] ?_); rotate_left; (conv => whnf))
 | (refine W.resub (x := Code.region 15 _ _) (Γ' := ⟨[(0, .st false (curveT n w)), (1, .lit (.int .i64 (st))), (2, .st false (.arr (.int .i64) (s : List Int))), (7, .lit (.int .i64 ((2 * n : Nat)))), (8, .lit (.int .i64 (p))), (9, .lit (.bool (true))), (13, .lit (.int .i64 (3))), (14, .lit (.int .i64 (q)))], []⟩) ?_ (W.region tys_ok [] ?_); rotate_left; (conv => whnf))
 | (refine W.region tys_ok [] ?_; conv => whnf)
 | (refine W.drawAll tys_ok [] mixed rfl ?_; conv => whnf)
 | (refine W.ret ?_; conv => whnf)
 | (refine W.skip ?_; conv => whnf)
 | (refine W.exit ?_; conv => whnf)
 | (refine call_at (al := false) (har) rfl rfl rfl rfl ?_; conv => whnf)
 | (refine call_at (al := false) (index_lit [0, 3, 1, 2] 0 0 (by decide) rfl) rfl rfl rfl rfl ?_; conv => whnf)

    | (refine W.cond rfl (fun hb => ?_) (fun hb => ?_) <;> (try simp only [Int.reduceToNat, Int.reduceTDiv, Int.reduceTMod, minL, maxL, pickB, zHB] at hb) <;> (try (first | (cases hb; done) | exact absurd hb (by decide) | (exfalso; omega))))
    | ((with_reducible refine And.intro ?_ ?_); (focus ((repeat' (first | (with_reducible rfl) | (with_reducible refine And.intro ?_ ?_) | omega | rfl | exact Or.inl rfl | exact Or.inr rfl | exact of_decide_eq_true rfl | exact Path.imp_of (of_decide_eq_true rfl) | (focus ((try simp only [Int.reduceToNat, Int.reduceTDiv, Int.reduceTMod, minL, maxL, pickB, zHB, InK, Path.imp, List.length_replicate, List.length_set, List.length_append, List.length_cons, List.length_nil] at *); omega)) | (refine app_le rfl ?_; omega))); done)); (conv => whnf))
    | ((with_reducible refine And.intro (Side.out ?_) ?_); rotate_left; (conv => whnf))
    | (refine retF1 ?_ <;> (conv => whnf) <;> repeat' (first
 | exact trivial
 | (with_reducible rfl)
 | ((with_reducible refine And.intro ?_ ?_) <;> conv => whnf)
 | omega
 | rfl
 | (refine congrArg (SV.arr _) ?_)
 | (refine congrArg (Value.int _) ?_)
 | (refine congrArg Value.bool ?_)))
 | (refine retF2 ?_ <;> (conv => whnf) <;> repeat' (first
 | exact trivial
 | (with_reducible rfl)
 | ((with_reducible refine And.intro ?_ ?_) <;> conv => whnf)
 | omega
 | rfl
 | (refine congrArg (SV.arr _) ?_)
 | (refine congrArg (Value.int _) ?_)
 | (refine congrArg Value.bool ?_)))); all_goals (try unfold Side)
  all_goals try (repeat' (first | (with_reducible rfl) | (with_reducible refine And.intro ?_ ?_) | omega | rfl | exact Or.inl rfl | exact Or.inr rfl | exact of_decide_eq_true rfl | exact Path.imp_of (of_decide_eq_true rfl) | (focus ((try simp only [Int.reduceToNat, Int.reduceTDiv, Int.reduceTMod, minL, maxL, pickB, zHB, InK, Path.imp, List.length_replicate, List.length_set, List.length_append, List.length_cons, List.length_nil] at *); omega)) | (refine app_le rfl ?_; omega)))
  all_goals first | (refine subF.ok ?_ <;> (conv => whnf) <;> repeat' (first
 | exact trivial
 | (with_reducible rfl)
 | ((with_reducible refine And.intro ?_ ?_) <;> conv => whnf)
 | omega
 | rfl
 | (refine congrArg (SV.arr _) ?_)
 | (refine congrArg (Value.int _) ?_)
 | (refine congrArg Value.bool ?_))) | skip
  all_goals try (repeat' (first | (with_reducible rfl) | (with_reducible refine And.intro ?_ ?_) | omega | rfl | exact Or.inl rfl | exact Or.inr rfl | exact of_decide_eq_true rfl | exact Path.imp_of (of_decide_eq_true rfl) | (focus ((try simp only [Int.reduceToNat, Int.reduceTDiv, Int.reduceTMod, minL, maxL, pickB, zHB, InK, Path.imp, List.length_replicate, List.length_set, List.length_append, List.length_cons, List.length_nil] at *); omega)) | (refine app_le rfl ?_; omega)))
  all_goals (rw [hwl]; exact hat)
set_option maxHeartbeats 4000000 in
theorem next_fmq {w s : List Int} {n x p q : Nat} {st : Int} (h : Word w n) (hn : n ≤ 10) (hl : s.length = n) (h0 : -((2 * n : Nat) : Int) ≤ st) (h1 : st < (2 * n : Nat)) (hx : x < n) (hpq : p < q) (hq : q < 2 * n)
    (hpl : placesT w x = [(p : Int), (q : Int)]) (hwa : w.getD q 0 = x) (hc : 0 ≤ st) (hat : (st + 1).tmod ((2 * n : Nat) : Int) = q) (hs : s.getD x 0 = -1) : FnAt Try.prog false 23 [curveT n w, .lit (.int .i64 st), .arr (.int .i64) s] (.lit (.int .i64 (-1 - ((p : Int) + (2 * n : Nat) - 1).tmod (2 * n : Nat)))) [] := by
  have hwl : @List.length (Ty.int .i64).T w = 2 * n := h.len
  have hsl : @List.length (Ty.int .i64).T s = n := hl
  have hPl : @List.length (Ty.sl (.int .i64)).T (PT w n) = n := PT_len
  have hPx : (PT w n).getD x [] = [(p : Int), (q : Int)] := (PT_get hx).trans hpl
  have hPs : @List.length (Ty.int .i64).T (@List.getD (Ty.sl (.int .i64)).T (PT w n) x (Ty.sl (.int .i64)).dflt) = 2 := by
    show ((PT w n).getD x []).length = 2
    rw [hPx]; rfl
  have hPs2 : ((PT w n).getD x []).length = 2 := hPs
  have hp2 : ((PT w n).getD x []).getD 0 0 = (p : Int) := by rw [hPx]; rfl
  have hq2 : ((PT w n).getD x []).getD 1 0 = (q : Int) := by rw [hPx]; rfl
  have ht0 := Int.tmod_nonneg (a := (p : Int) + (2 * n : Nat) - 1) (2 * n : Nat) (by omega)
  have ht1 := Int.tmod_lt_of_pos ((p : Int) + (2 * n : Nat) - 1) (b := (2 * n : Nat)) (by omega)
  have har : FnAt Try.prog false 27 [.lit (.int .i64 (s.getD x 0))] (.strct [.lit (.int .i64 0), .lit (.int .i64 3), .lit (.int .i64 1), .lit (.int .i64 2)]) [] := by
    rw [hs]; exact around_m
  refine FnAt.of_body tys_ok Try.func23 (by rfl) rfl Try.ntmps23 (by rw [Try.results23]) (by simp) ?_
  
  repeat' (first
 | refine W.seq ?_
 | refine W.block ?_
 | (refine W.resub (x := Code.region 6 _ _) (Γ' := ⟨[(0, .st false (curveT n w)), (1, .lit (.int .i64 (st))), (2, .st false (.arr (.int .i64) (s : List Int))), (7, .lit (.int .i64 (@List.length (Ty.int .i64).T w))), (8, .lit (.int .i64 (q))), (9, .lit (.bool (true)))], []⟩) ?_ (W.region tys_ok [] ?_); rotate_left; (conv => whnf))
 | (refine W.resub (x := Code.region 7 _ _) (Γ' := ⟨[(0, .st false (curveT n w)), (1, .lit (.int .i64 (st))), (2, .st false (.arr (.int .i64) (s : List Int))), (7, .lit (.int .i64 (@List.length (Ty.int .i64).T w))), (8, .lit (.int .i64 (q))), (9, .lit (.bool (true))), (10, .lit (.int .i64 (x)))], []⟩) ?_ (W.region tys_ok [] ?_); rotate_left; (conv => whnf))
 | (refine W.resub (x := Code.region 13 _ _) (Γ' := ⟨[(0, .st false (curveT n w)), (1, .lit (.int .i64 (st))), (2, .st false (.arr (.int .i64) (s : List Int))), (7, .lit (.int .i64 (@List.length (Ty.int .i64).T w))), (8, .lit (.int .i64 (q))), (9, .lit (.bool (true))), (10, .lit (.int .i64 (x))), (11, .lit (.int .i64 (2))), (12, .st true (.sadr (.agg [.lit (.int .i64 0), .lit (.int .i64 3), .lit (.int .i64 1), .lit (.int .i64 2)])))], []⟩) ?_ (W.region tys_ok [] ?_); rotate_left; (conv => whnf))
 | (refine W.resub (x := Code.region 15 _ _) (Γ' := ⟨[(0, .st false (curveT n w)), (1, .lit (.int .i64 (st))), (2, .st false (.arr (.int .i64) (s : List Int))), (7, .lit (.int .i64 ((2 * n : Nat)))), (8, .lit (.int .i64 (q))), (9, .lit (.bool (true))), (13, .lit (.int .i64 (0))), (14, .lit (.int .i64 (p)))], []⟩) ?_ (W.region tys_ok [] ?_); rotate_left; (conv => whnf))
 | (refine W.region tys_ok [] ?_; conv => whnf)
 | (refine W.drawAll tys_ok [] mixed rfl ?_; conv => whnf)
 | (refine W.ret ?_; conv => whnf)
 | (refine W.skip ?_; conv => whnf)
 | (refine W.exit ?_; conv => whnf)
 | (refine call_at (al := false) (har) rfl rfl rfl rfl ?_; conv => whnf)
 | (refine call_at (al := false) (index_lit [0, 3, 1, 2] 2 3 (by decide) rfl) rfl rfl rfl rfl ?_; conv => whnf)

    | (refine W.cond rfl (fun hb => ?_) (fun hb => ?_) <;> (try simp only [Int.reduceToNat, Int.reduceTDiv, Int.reduceTMod, minL, maxL, pickB, zHB] at hb) <;> (try (first | (cases hb; done) | exact absurd hb (by decide) | (exfalso; omega))))
    | ((with_reducible refine And.intro ?_ ?_); (focus ((repeat' (first | (with_reducible rfl) | (with_reducible refine And.intro ?_ ?_) | omega | rfl | exact Or.inl rfl | exact Or.inr rfl | exact of_decide_eq_true rfl | exact Path.imp_of (of_decide_eq_true rfl) | (focus ((try simp only [Int.reduceToNat, Int.reduceTDiv, Int.reduceTMod, minL, maxL, pickB, zHB, InK, Path.imp, List.length_replicate, List.length_set, List.length_append, List.length_cons, List.length_nil] at *); omega)) | (refine app_le rfl ?_; omega))); done)); (conv => whnf))
    | ((with_reducible refine And.intro (Side.out ?_) ?_); rotate_left; (conv => whnf))
    | (refine retF1 ?_ <;> (conv => whnf) <;> repeat' (first
 | exact trivial
 | (with_reducible rfl)
 | ((with_reducible refine And.intro ?_ ?_) <;> conv => whnf)
 | omega
 | rfl
 | (refine congrArg (SV.arr _) ?_)
 | (refine congrArg (Value.int _) ?_)
 | (refine congrArg Value.bool ?_)))
 | (refine retF2 ?_ <;> (conv => whnf) <;> repeat' (first
 | exact trivial
 | (with_reducible rfl)
 | ((with_reducible refine And.intro ?_ ?_) <;> conv => whnf)
 | omega
 | rfl
 | (refine congrArg (SV.arr _) ?_)
 | (refine congrArg (Value.int _) ?_)
 | (refine congrArg Value.bool ?_)))); all_goals (try unfold Side)
  all_goals try (repeat' (first | (with_reducible rfl) | (with_reducible refine And.intro ?_ ?_) | omega | rfl | exact Or.inl rfl | exact Or.inr rfl | exact of_decide_eq_true rfl | exact Path.imp_of (of_decide_eq_true rfl) | (focus ((try simp only [Int.reduceToNat, Int.reduceTDiv, Int.reduceTMod, minL, maxL, pickB, zHB, InK, Path.imp, List.length_replicate, List.length_set, List.length_append, List.length_cons, List.length_nil] at *); omega)) | (refine app_le rfl ?_; omega)))
  all_goals first | (refine subF.ok ?_ <;> (conv => whnf) <;> repeat' (first
 | exact trivial
 | (with_reducible rfl)
 | ((with_reducible refine And.intro ?_ ?_) <;> conv => whnf)
 | omega
 | rfl
 | (refine congrArg (SV.arr _) ?_)
 | (refine congrArg (Value.int _) ?_)
 | (refine congrArg Value.bool ?_))) | skip
  all_goals try (repeat' (first | (with_reducible rfl) | (with_reducible refine And.intro ?_ ?_) | omega | rfl | exact Or.inl rfl | exact Or.inr rfl | exact of_decide_eq_true rfl | exact Path.imp_of (of_decide_eq_true rfl) | (focus ((try simp only [Int.reduceToNat, Int.reduceTDiv, Int.reduceTMod, minL, maxL, pickB, zHB, InK, Path.imp, List.length_replicate, List.length_set, List.length_append, List.length_cons, List.length_nil] at *); omega)) | (refine app_le rfl ?_; omega)))
  all_goals (rw [hwl]; exact hat)
set_option maxHeartbeats 4000000 in
theorem next_bpp {w s : List Int} {n x p q : Nat} {st : Int} (h : Word w n) (hn : n ≤ 10) (hl : s.length = n) (h0 : -((2 * n : Nat) : Int) ≤ st) (h1 : st < (2 * n : Nat)) (hx : x < n) (hpq : p < q) (hq : q < 2 * n)
    (hpl : placesT w x = [(p : Int), (q : Int)]) (hwa : w.getD p 0 = x) (hc : st < 0) (hat : -1 - st = (p : Int)) (hs : s.getD x 0 = 1) : FnAt Try.prog false 23 [curveT n w, .lit (.int .i64 st), .arr (.int .i64) s] (.lit (.int .i64 ((q : Int)))) [] := by
  have hwl : @List.length (Ty.int .i64).T w = 2 * n := h.len
  have hsl : @List.length (Ty.int .i64).T s = n := hl
  have hPl : @List.length (Ty.sl (.int .i64)).T (PT w n) = n := PT_len
  have hPx : (PT w n).getD x [] = [(p : Int), (q : Int)] := (PT_get hx).trans hpl
  have hPs : @List.length (Ty.int .i64).T (@List.getD (Ty.sl (.int .i64)).T (PT w n) x (Ty.sl (.int .i64)).dflt) = 2 := by
    show ((PT w n).getD x []).length = 2
    rw [hPx]; rfl
  have hPs2 : ((PT w n).getD x []).length = 2 := hPs
  have hp2 : ((PT w n).getD x []).getD 0 0 = (p : Int) := by rw [hPx]; rfl
  have hq2 : ((PT w n).getD x []).getD 1 0 = (q : Int) := by rw [hPx]; rfl
  have ht0 := Int.tmod_nonneg (a := (q : Int) + (2 * n : Nat) - 1) (2 * n : Nat) (by omega)
  have ht1 := Int.tmod_lt_of_pos ((q : Int) + (2 * n : Nat) - 1) (b := (2 * n : Nat)) (by omega)
  have har : FnAt Try.prog false 27 [.lit (.int .i64 (s.getD x 0))] (.strct [.lit (.int .i64 0), .lit (.int .i64 2), .lit (.int .i64 1), .lit (.int .i64 3)]) [] := by
    rw [hs]; exact around_p
  refine FnAt.of_body tys_ok Try.func23 (by rfl) rfl Try.ntmps23 (by rw [Try.results23]) (by simp) ?_
  
  repeat' (first
 | refine W.seq ?_
 | refine W.block ?_
 | (refine W.resub (x := Code.region 6 _ _) (Γ' := ⟨[(0, .st false (curveT n w)), (1, .lit (.int .i64 (st))), (2, .st false (.arr (.int .i64) (s : List Int))), (7, .lit (.int .i64 (@List.length (Ty.int .i64).T w))), (8, .lit (.int .i64 (p))), (9, .lit (.bool (false)))], []⟩) ?_ (W.region tys_ok [] ?_); rotate_left; (conv => whnf))
 | (refine W.resub (x := Code.region 7 _ _) (Γ' := ⟨[(0, .st false (curveT n w)), (1, .lit (.int .i64 (st))), (2, .st false (.arr (.int .i64) (s : List Int))), (7, .lit (.int .i64 (@List.length (Ty.int .i64).T w))), (8, .lit (.int .i64 (p))), (9, .lit (.bool (false))), (10, .lit (.int .i64 (x)))], []⟩) ?_ (W.region tys_ok [] ?_); rotate_left; (conv => whnf))
 | (refine W.resub (x := Code.region 13 _ _) (Γ' := ⟨[(0, .st false (curveT n w)), (1, .lit (.int .i64 (st))), (2, .st false (.arr (.int .i64) (s : List Int))), (7, .lit (.int .i64 (@List.length (Ty.int .i64).T w))), (8, .lit (.int .i64 (p))), (9, .lit (.bool (false))), (10, .lit (.int .i64 (x))), (11, .lit (.int .i64 (1))), (12, .st true (.sadr (.agg [.lit (.int .i64 0), .lit (.int .i64 2), .lit (.int .i64 1), .lit (.int .i64 3)])))], []⟩) ?_ (W.region tys_ok [] ?_); rotate_left; (conv => whnf))
 | (refine W.resub (x := Code.region 15 _ _) (Γ' := ⟨[(0, .st false (curveT n w)), (1, .lit (.int .i64 (st))), (2, .st false (.arr (.int .i64) (s : List Int))), (7, .lit (.int .i64 ((2 * n : Nat)))), (8, .lit (.int .i64 (p))), (9, .lit (.bool (false))), (13, .lit (.int .i64 (3))), (14, .lit (.int .i64 (q)))], []⟩) ?_ (W.region tys_ok [] ?_); rotate_left; (conv => whnf))
 | (refine W.region tys_ok [] ?_; conv => whnf)
 | (refine W.drawAll tys_ok [] mixed rfl ?_; conv => whnf)
 | (refine W.ret ?_; conv => whnf)
 | (refine W.skip ?_; conv => whnf)
 | (refine W.exit ?_; conv => whnf)
 | (refine call_at (al := false) (har) rfl rfl rfl rfl ?_; conv => whnf)
 | (refine call_at (al := false) (index_lit [0, 2, 1, 3] 1 2 (by decide) rfl) rfl rfl rfl rfl ?_; conv => whnf)

    | (refine W.cond rfl (fun hb => ?_) (fun hb => ?_) <;> (try simp only [Int.reduceToNat, Int.reduceTDiv, Int.reduceTMod, minL, maxL, pickB, zHB] at hb) <;> (try (first | (cases hb; done) | exact absurd hb (by decide) | (exfalso; omega))))
    | ((with_reducible refine And.intro ?_ ?_); (focus ((repeat' (first | (with_reducible rfl) | (with_reducible refine And.intro ?_ ?_) | omega | rfl | exact Or.inl rfl | exact Or.inr rfl | exact of_decide_eq_true rfl | exact Path.imp_of (of_decide_eq_true rfl) | (focus ((try simp only [Int.reduceToNat, Int.reduceTDiv, Int.reduceTMod, minL, maxL, pickB, zHB, InK, Path.imp, List.length_replicate, List.length_set, List.length_append, List.length_cons, List.length_nil] at *); omega)) | (refine app_le rfl ?_; omega))); done)); (conv => whnf))
    | ((with_reducible refine And.intro (Side.out ?_) ?_); rotate_left; (conv => whnf))
    | (refine retF1 ?_ <;> (conv => whnf) <;> repeat' (first
 | exact trivial
 | (with_reducible rfl)
 | ((with_reducible refine And.intro ?_ ?_) <;> conv => whnf)
 | omega
 | rfl
 | (refine congrArg (SV.arr _) ?_)
 | (refine congrArg (Value.int _) ?_)
 | (refine congrArg Value.bool ?_)))
 | (refine retF2 ?_ <;> (conv => whnf) <;> repeat' (first
 | exact trivial
 | (with_reducible rfl)
 | ((with_reducible refine And.intro ?_ ?_) <;> conv => whnf)
 | omega
 | rfl
 | (refine congrArg (SV.arr _) ?_)
 | (refine congrArg (Value.int _) ?_)
 | (refine congrArg Value.bool ?_)))); all_goals (try unfold Side)
  all_goals try (repeat' (first | (with_reducible rfl) | (with_reducible refine And.intro ?_ ?_) | omega | rfl | exact Or.inl rfl | exact Or.inr rfl | exact of_decide_eq_true rfl | exact Path.imp_of (of_decide_eq_true rfl) | (focus ((try simp only [Int.reduceToNat, Int.reduceTDiv, Int.reduceTMod, minL, maxL, pickB, zHB, InK, Path.imp, List.length_replicate, List.length_set, List.length_append, List.length_cons, List.length_nil] at *); omega)) | (refine app_le rfl ?_; omega)))
  all_goals first | (refine subF.ok ?_ <;> (conv => whnf) <;> repeat' (first
 | exact trivial
 | (with_reducible rfl)
 | ((with_reducible refine And.intro ?_ ?_) <;> conv => whnf)
 | omega
 | rfl
 | (refine congrArg (SV.arr _) ?_)
 | (refine congrArg (Value.int _) ?_)
 | (refine congrArg Value.bool ?_))) | skip
  all_goals try (repeat' (first | (with_reducible rfl) | (with_reducible refine And.intro ?_ ?_) | omega | rfl | exact Or.inl rfl | exact Or.inr rfl | exact of_decide_eq_true rfl | exact Path.imp_of (of_decide_eq_true rfl) | (focus ((try simp only [Int.reduceToNat, Int.reduceTDiv, Int.reduceTMod, minL, maxL, pickB, zHB, InK, Path.imp, List.length_replicate, List.length_set, List.length_append, List.length_cons, List.length_nil] at *); omega)) | (refine app_le rfl ?_; omega)))
set_option maxHeartbeats 4000000 in
theorem next_bpq {w s : List Int} {n x p q : Nat} {st : Int} (h : Word w n) (hn : n ≤ 10) (hl : s.length = n) (h0 : -((2 * n : Nat) : Int) ≤ st) (h1 : st < (2 * n : Nat)) (hx : x < n) (hpq : p < q) (hq : q < 2 * n)
    (hpl : placesT w x = [(p : Int), (q : Int)]) (hwa : w.getD q 0 = x) (hc : st < 0) (hat : -1 - st = (q : Int)) (hs : s.getD x 0 = 1) : FnAt Try.prog false 23 [curveT n w, .lit (.int .i64 st), .arr (.int .i64) s] (.lit (.int .i64 (-1 - ((p : Int) + (2 * n : Nat) - 1).tmod (2 * n : Nat)))) [] := by
  have hwl : @List.length (Ty.int .i64).T w = 2 * n := h.len
  have hsl : @List.length (Ty.int .i64).T s = n := hl
  have hPl : @List.length (Ty.sl (.int .i64)).T (PT w n) = n := PT_len
  have hPx : (PT w n).getD x [] = [(p : Int), (q : Int)] := (PT_get hx).trans hpl
  have hPs : @List.length (Ty.int .i64).T (@List.getD (Ty.sl (.int .i64)).T (PT w n) x (Ty.sl (.int .i64)).dflt) = 2 := by
    show ((PT w n).getD x []).length = 2
    rw [hPx]; rfl
  have hPs2 : ((PT w n).getD x []).length = 2 := hPs
  have hp2 : ((PT w n).getD x []).getD 0 0 = (p : Int) := by rw [hPx]; rfl
  have hq2 : ((PT w n).getD x []).getD 1 0 = (q : Int) := by rw [hPx]; rfl
  have ht0 := Int.tmod_nonneg (a := (p : Int) + (2 * n : Nat) - 1) (2 * n : Nat) (by omega)
  have ht1 := Int.tmod_lt_of_pos ((p : Int) + (2 * n : Nat) - 1) (b := (2 * n : Nat)) (by omega)
  have har : FnAt Try.prog false 27 [.lit (.int .i64 (s.getD x 0))] (.strct [.lit (.int .i64 0), .lit (.int .i64 2), .lit (.int .i64 1), .lit (.int .i64 3)]) [] := by
    rw [hs]; exact around_p
  refine FnAt.of_body tys_ok Try.func23 (by rfl) rfl Try.ntmps23 (by rw [Try.results23]) (by simp) ?_
  
  repeat' (first
 | refine W.seq ?_
 | refine W.block ?_
 | (refine W.resub (x := Code.region 6 _ _) (Γ' := ⟨[(0, .st false (curveT n w)), (1, .lit (.int .i64 (st))), (2, .st false (.arr (.int .i64) (s : List Int))), (7, .lit (.int .i64 (@List.length (Ty.int .i64).T w))), (8, .lit (.int .i64 (q))), (9, .lit (.bool (false)))], []⟩) ?_ (W.region tys_ok [] ?_); rotate_left; (conv => whnf))
 | (refine W.resub (x := Code.region 7 _ _) (Γ' := ⟨[(0, .st false (curveT n w)), (1, .lit (.int .i64 (st))), (2, .st false (.arr (.int .i64) (s : List Int))), (7, .lit (.int .i64 (@List.length (Ty.int .i64).T w))), (8, .lit (.int .i64 (q))), (9, .lit (.bool (false))), (10, .lit (.int .i64 (x)))], []⟩) ?_ (W.region tys_ok [] ?_); rotate_left; (conv => whnf))
 | (refine W.resub (x := Code.region 13 _ _) (Γ' := ⟨[(0, .st false (curveT n w)), (1, .lit (.int .i64 (st))), (2, .st false (.arr (.int .i64) (s : List Int))), (7, .lit (.int .i64 (@List.length (Ty.int .i64).T w))), (8, .lit (.int .i64 (q))), (9, .lit (.bool (false))), (10, .lit (.int .i64 (x))), (11, .lit (.int .i64 (3))), (12, .st true (.sadr (.agg [.lit (.int .i64 0), .lit (.int .i64 2), .lit (.int .i64 1), .lit (.int .i64 3)])))], []⟩) ?_ (W.region tys_ok [] ?_); rotate_left; (conv => whnf))
 | (refine W.resub (x := Code.region 15 _ _) (Γ' := ⟨[(0, .st false (curveT n w)), (1, .lit (.int .i64 (st))), (2, .st false (.arr (.int .i64) (s : List Int))), (7, .lit (.int .i64 ((2 * n : Nat)))), (8, .lit (.int .i64 (q))), (9, .lit (.bool (false))), (13, .lit (.int .i64 (0))), (14, .lit (.int .i64 (p)))], []⟩) ?_ (W.region tys_ok [] ?_); rotate_left; (conv => whnf))
 | (refine W.region tys_ok [] ?_; conv => whnf)
 | (refine W.drawAll tys_ok [] mixed rfl ?_; conv => whnf)
 | (refine W.ret ?_; conv => whnf)
 | (refine W.skip ?_; conv => whnf)
 | (refine W.exit ?_; conv => whnf)
 | (refine call_at (al := false) (har) rfl rfl rfl rfl ?_; conv => whnf)
 | (refine call_at (al := false) (index_lit [0, 2, 1, 3] 3 3 (by decide) rfl) rfl rfl rfl rfl ?_; conv => whnf)

    | (refine W.cond rfl (fun hb => ?_) (fun hb => ?_) <;> (try simp only [Int.reduceToNat, Int.reduceTDiv, Int.reduceTMod, minL, maxL, pickB, zHB] at hb) <;> (try (first | (cases hb; done) | exact absurd hb (by decide) | (exfalso; omega))))
    | ((with_reducible refine And.intro ?_ ?_); (focus ((repeat' (first | (with_reducible rfl) | (with_reducible refine And.intro ?_ ?_) | omega | rfl | exact Or.inl rfl | exact Or.inr rfl | exact of_decide_eq_true rfl | exact Path.imp_of (of_decide_eq_true rfl) | (focus ((try simp only [Int.reduceToNat, Int.reduceTDiv, Int.reduceTMod, minL, maxL, pickB, zHB, InK, Path.imp, List.length_replicate, List.length_set, List.length_append, List.length_cons, List.length_nil] at *); omega)) | (refine app_le rfl ?_; omega))); done)); (conv => whnf))
    | ((with_reducible refine And.intro (Side.out ?_) ?_); rotate_left; (conv => whnf))
    | (refine retF1 ?_ <;> (conv => whnf) <;> repeat' (first
 | exact trivial
 | (with_reducible rfl)
 | ((with_reducible refine And.intro ?_ ?_) <;> conv => whnf)
 | omega
 | rfl
 | (refine congrArg (SV.arr _) ?_)
 | (refine congrArg (Value.int _) ?_)
 | (refine congrArg Value.bool ?_)))
 | (refine retF2 ?_ <;> (conv => whnf) <;> repeat' (first
 | exact trivial
 | (with_reducible rfl)
 | ((with_reducible refine And.intro ?_ ?_) <;> conv => whnf)
 | omega
 | rfl
 | (refine congrArg (SV.arr _) ?_)
 | (refine congrArg (Value.int _) ?_)
 | (refine congrArg Value.bool ?_)))); all_goals (try unfold Side)
  all_goals try (repeat' (first | (with_reducible rfl) | (with_reducible refine And.intro ?_ ?_) | omega | rfl | exact Or.inl rfl | exact Or.inr rfl | exact of_decide_eq_true rfl | exact Path.imp_of (of_decide_eq_true rfl) | (focus ((try simp only [Int.reduceToNat, Int.reduceTDiv, Int.reduceTMod, minL, maxL, pickB, zHB, InK, Path.imp, List.length_replicate, List.length_set, List.length_append, List.length_cons, List.length_nil] at *); omega)) | (refine app_le rfl ?_; omega)))
  all_goals first | (refine subF.ok ?_ <;> (conv => whnf) <;> repeat' (first
 | exact trivial
 | (with_reducible rfl)
 | ((with_reducible refine And.intro ?_ ?_) <;> conv => whnf)
 | omega
 | rfl
 | (refine congrArg (SV.arr _) ?_)
 | (refine congrArg (Value.int _) ?_)
 | (refine congrArg Value.bool ?_))) | skip
  all_goals try (repeat' (first | (with_reducible rfl) | (with_reducible refine And.intro ?_ ?_) | omega | rfl | exact Or.inl rfl | exact Or.inr rfl | exact of_decide_eq_true rfl | exact Path.imp_of (of_decide_eq_true rfl) | (focus ((try simp only [Int.reduceToNat, Int.reduceTDiv, Int.reduceTMod, minL, maxL, pickB, zHB, InK, Path.imp, List.length_replicate, List.length_set, List.length_append, List.length_cons, List.length_nil] at *); omega)) | (refine app_le rfl ?_; omega)))
set_option maxHeartbeats 4000000 in
theorem next_bmp {w s : List Int} {n x p q : Nat} {st : Int} (h : Word w n) (hn : n ≤ 10) (hl : s.length = n) (h0 : -((2 * n : Nat) : Int) ≤ st) (h1 : st < (2 * n : Nat)) (hx : x < n) (hpq : p < q) (hq : q < 2 * n)
    (hpl : placesT w x = [(p : Int), (q : Int)]) (hwa : w.getD p 0 = x) (hc : st < 0) (hat : -1 - st = (p : Int)) (hs : s.getD x 0 = -1) : FnAt Try.prog false 23 [curveT n w, .lit (.int .i64 st), .arr (.int .i64) s] (.lit (.int .i64 (-1 - ((q : Int) + (2 * n : Nat) - 1).tmod (2 * n : Nat)))) [] := by
  have hwl : @List.length (Ty.int .i64).T w = 2 * n := h.len
  have hsl : @List.length (Ty.int .i64).T s = n := hl
  have hPl : @List.length (Ty.sl (.int .i64)).T (PT w n) = n := PT_len
  have hPx : (PT w n).getD x [] = [(p : Int), (q : Int)] := (PT_get hx).trans hpl
  have hPs : @List.length (Ty.int .i64).T (@List.getD (Ty.sl (.int .i64)).T (PT w n) x (Ty.sl (.int .i64)).dflt) = 2 := by
    show ((PT w n).getD x []).length = 2
    rw [hPx]; rfl
  have hPs2 : ((PT w n).getD x []).length = 2 := hPs
  have hp2 : ((PT w n).getD x []).getD 0 0 = (p : Int) := by rw [hPx]; rfl
  have hq2 : ((PT w n).getD x []).getD 1 0 = (q : Int) := by rw [hPx]; rfl
  have ht0 := Int.tmod_nonneg (a := (q : Int) + (2 * n : Nat) - 1) (2 * n : Nat) (by omega)
  have ht1 := Int.tmod_lt_of_pos ((q : Int) + (2 * n : Nat) - 1) (b := (2 * n : Nat)) (by omega)
  have har : FnAt Try.prog false 27 [.lit (.int .i64 (s.getD x 0))] (.strct [.lit (.int .i64 0), .lit (.int .i64 3), .lit (.int .i64 1), .lit (.int .i64 2)]) [] := by
    rw [hs]; exact around_m
  refine FnAt.of_body tys_ok Try.func23 (by rfl) rfl Try.ntmps23 (by rw [Try.results23]) (by simp) ?_
  
  repeat' (first
 | refine W.seq ?_
 | refine W.block ?_
 | (refine W.resub (x := Code.region 6 _ _) (Γ' := ⟨[(0, .st false (curveT n w)), (1, .lit (.int .i64 (st))), (2, .st false (.arr (.int .i64) (s : List Int))), (7, .lit (.int .i64 (@List.length (Ty.int .i64).T w))), (8, .lit (.int .i64 (p))), (9, .lit (.bool (false)))], []⟩) ?_ (W.region tys_ok [] ?_); rotate_left; (conv => whnf))
 | (refine W.resub (x := Code.region 7 _ _) (Γ' := ⟨[(0, .st false (curveT n w)), (1, .lit (.int .i64 (st))), (2, .st false (.arr (.int .i64) (s : List Int))), (7, .lit (.int .i64 (@List.length (Ty.int .i64).T w))), (8, .lit (.int .i64 (p))), (9, .lit (.bool (false))), (10, .lit (.int .i64 (x)))], []⟩) ?_ (W.region tys_ok [] ?_); rotate_left; (conv => whnf))
 | (refine W.resub (x := Code.region 13 _ _) (Γ' := ⟨[(0, .st false (curveT n w)), (1, .lit (.int .i64 (st))), (2, .st false (.arr (.int .i64) (s : List Int))), (7, .lit (.int .i64 (@List.length (Ty.int .i64).T w))), (8, .lit (.int .i64 (p))), (9, .lit (.bool (false))), (10, .lit (.int .i64 (x))), (11, .lit (.int .i64 (1))), (12, .st true (.sadr (.agg [.lit (.int .i64 0), .lit (.int .i64 3), .lit (.int .i64 1), .lit (.int .i64 2)])))], []⟩) ?_ (W.region tys_ok [] ?_); rotate_left; (conv => whnf))
 | (refine W.resub (x := Code.region 15 _ _) (Γ' := ⟨[(0, .st false (curveT n w)), (1, .lit (.int .i64 (st))), (2, .st false (.arr (.int .i64) (s : List Int))), (7, .lit (.int .i64 ((2 * n : Nat)))), (8, .lit (.int .i64 (p))), (9, .lit (.bool (false))), (13, .lit (.int .i64 (2))), (14, .lit (.int .i64 (q)))], []⟩) ?_ (W.region tys_ok [] ?_); rotate_left; (conv => whnf))
 | (refine W.region tys_ok [] ?_; conv => whnf)
 | (refine W.drawAll tys_ok [] mixed rfl ?_; conv => whnf)
 | (refine W.ret ?_; conv => whnf)
 | (refine W.skip ?_; conv => whnf)
 | (refine W.exit ?_; conv => whnf)
 | (refine call_at (al := false) (har) rfl rfl rfl rfl ?_; conv => whnf)
 | (refine call_at (al := false) (index_lit [0, 3, 1, 2] 1 2 (by decide) rfl) rfl rfl rfl rfl ?_; conv => whnf)

    | (refine W.cond rfl (fun hb => ?_) (fun hb => ?_) <;> (try simp only [Int.reduceToNat, Int.reduceTDiv, Int.reduceTMod, minL, maxL, pickB, zHB] at hb) <;> (try (first | (cases hb; done) | exact absurd hb (by decide) | (exfalso; omega))))
    | ((with_reducible refine And.intro ?_ ?_); (focus ((repeat' (first | (with_reducible rfl) | (with_reducible refine And.intro ?_ ?_) | omega | rfl | exact Or.inl rfl | exact Or.inr rfl | exact of_decide_eq_true rfl | exact Path.imp_of (of_decide_eq_true rfl) | (focus ((try simp only [Int.reduceToNat, Int.reduceTDiv, Int.reduceTMod, minL, maxL, pickB, zHB, InK, Path.imp, List.length_replicate, List.length_set, List.length_append, List.length_cons, List.length_nil] at *); omega)) | (refine app_le rfl ?_; omega))); done)); (conv => whnf))
    | ((with_reducible refine And.intro (Side.out ?_) ?_); rotate_left; (conv => whnf))
    | (refine retF1 ?_ <;> (conv => whnf) <;> repeat' (first
 | exact trivial
 | (with_reducible rfl)
 | ((with_reducible refine And.intro ?_ ?_) <;> conv => whnf)
 | omega
 | rfl
 | (refine congrArg (SV.arr _) ?_)
 | (refine congrArg (Value.int _) ?_)
 | (refine congrArg Value.bool ?_)))
 | (refine retF2 ?_ <;> (conv => whnf) <;> repeat' (first
 | exact trivial
 | (with_reducible rfl)
 | ((with_reducible refine And.intro ?_ ?_) <;> conv => whnf)
 | omega
 | rfl
 | (refine congrArg (SV.arr _) ?_)
 | (refine congrArg (Value.int _) ?_)
 | (refine congrArg Value.bool ?_)))); all_goals (try unfold Side)
  all_goals try (repeat' (first | (with_reducible rfl) | (with_reducible refine And.intro ?_ ?_) | omega | rfl | exact Or.inl rfl | exact Or.inr rfl | exact of_decide_eq_true rfl | exact Path.imp_of (of_decide_eq_true rfl) | (focus ((try simp only [Int.reduceToNat, Int.reduceTDiv, Int.reduceTMod, minL, maxL, pickB, zHB, InK, Path.imp, List.length_replicate, List.length_set, List.length_append, List.length_cons, List.length_nil] at *); omega)) | (refine app_le rfl ?_; omega)))
  all_goals first | (refine subF.ok ?_ <;> (conv => whnf) <;> repeat' (first
 | exact trivial
 | (with_reducible rfl)
 | ((with_reducible refine And.intro ?_ ?_) <;> conv => whnf)
 | omega
 | rfl
 | (refine congrArg (SV.arr _) ?_)
 | (refine congrArg (Value.int _) ?_)
 | (refine congrArg Value.bool ?_))) | skip
  all_goals try (repeat' (first | (with_reducible rfl) | (with_reducible refine And.intro ?_ ?_) | omega | rfl | exact Or.inl rfl | exact Or.inr rfl | exact of_decide_eq_true rfl | exact Path.imp_of (of_decide_eq_true rfl) | (focus ((try simp only [Int.reduceToNat, Int.reduceTDiv, Int.reduceTMod, minL, maxL, pickB, zHB, InK, Path.imp, List.length_replicate, List.length_set, List.length_append, List.length_cons, List.length_nil] at *); omega)) | (refine app_le rfl ?_; omega)))
set_option maxHeartbeats 4000000 in
theorem next_bmq {w s : List Int} {n x p q : Nat} {st : Int} (h : Word w n) (hn : n ≤ 10) (hl : s.length = n) (h0 : -((2 * n : Nat) : Int) ≤ st) (h1 : st < (2 * n : Nat)) (hx : x < n) (hpq : p < q) (hq : q < 2 * n)
    (hpl : placesT w x = [(p : Int), (q : Int)]) (hwa : w.getD q 0 = x) (hc : st < 0) (hat : -1 - st = (q : Int)) (hs : s.getD x 0 = -1) : FnAt Try.prog false 23 [curveT n w, .lit (.int .i64 st), .arr (.int .i64) s] (.lit (.int .i64 ((p : Int)))) [] := by
  have hwl : @List.length (Ty.int .i64).T w = 2 * n := h.len
  have hsl : @List.length (Ty.int .i64).T s = n := hl
  have hPl : @List.length (Ty.sl (.int .i64)).T (PT w n) = n := PT_len
  have hPx : (PT w n).getD x [] = [(p : Int), (q : Int)] := (PT_get hx).trans hpl
  have hPs : @List.length (Ty.int .i64).T (@List.getD (Ty.sl (.int .i64)).T (PT w n) x (Ty.sl (.int .i64)).dflt) = 2 := by
    show ((PT w n).getD x []).length = 2
    rw [hPx]; rfl
  have hPs2 : ((PT w n).getD x []).length = 2 := hPs
  have hp2 : ((PT w n).getD x []).getD 0 0 = (p : Int) := by rw [hPx]; rfl
  have hq2 : ((PT w n).getD x []).getD 1 0 = (q : Int) := by rw [hPx]; rfl
  have ht0 := Int.tmod_nonneg (a := (p : Int) + (2 * n : Nat) - 1) (2 * n : Nat) (by omega)
  have ht1 := Int.tmod_lt_of_pos ((p : Int) + (2 * n : Nat) - 1) (b := (2 * n : Nat)) (by omega)
  have har : FnAt Try.prog false 27 [.lit (.int .i64 (s.getD x 0))] (.strct [.lit (.int .i64 0), .lit (.int .i64 3), .lit (.int .i64 1), .lit (.int .i64 2)]) [] := by
    rw [hs]; exact around_m
  refine FnAt.of_body tys_ok Try.func23 (by rfl) rfl Try.ntmps23 (by rw [Try.results23]) (by simp) ?_
  
  repeat' (first
 | refine W.seq ?_
 | refine W.block ?_
 | (refine W.resub (x := Code.region 6 _ _) (Γ' := ⟨[(0, .st false (curveT n w)), (1, .lit (.int .i64 (st))), (2, .st false (.arr (.int .i64) (s : List Int))), (7, .lit (.int .i64 (@List.length (Ty.int .i64).T w))), (8, .lit (.int .i64 (q))), (9, .lit (.bool (false)))], []⟩) ?_ (W.region tys_ok [] ?_); rotate_left; (conv => whnf))
 | (refine W.resub (x := Code.region 7 _ _) (Γ' := ⟨[(0, .st false (curveT n w)), (1, .lit (.int .i64 (st))), (2, .st false (.arr (.int .i64) (s : List Int))), (7, .lit (.int .i64 (@List.length (Ty.int .i64).T w))), (8, .lit (.int .i64 (q))), (9, .lit (.bool (false))), (10, .lit (.int .i64 (x)))], []⟩) ?_ (W.region tys_ok [] ?_); rotate_left; (conv => whnf))
 | (refine W.resub (x := Code.region 13 _ _) (Γ' := ⟨[(0, .st false (curveT n w)), (1, .lit (.int .i64 (st))), (2, .st false (.arr (.int .i64) (s : List Int))), (7, .lit (.int .i64 (@List.length (Ty.int .i64).T w))), (8, .lit (.int .i64 (q))), (9, .lit (.bool (false))), (10, .lit (.int .i64 (x))), (11, .lit (.int .i64 (3))), (12, .st true (.sadr (.agg [.lit (.int .i64 0), .lit (.int .i64 3), .lit (.int .i64 1), .lit (.int .i64 2)])))], []⟩) ?_ (W.region tys_ok [] ?_); rotate_left; (conv => whnf))
 | (refine W.resub (x := Code.region 15 _ _) (Γ' := ⟨[(0, .st false (curveT n w)), (1, .lit (.int .i64 (st))), (2, .st false (.arr (.int .i64) (s : List Int))), (7, .lit (.int .i64 ((2 * n : Nat)))), (8, .lit (.int .i64 (q))), (9, .lit (.bool (false))), (13, .lit (.int .i64 (1))), (14, .lit (.int .i64 (p)))], []⟩) ?_ (W.region tys_ok [] ?_); rotate_left; (conv => whnf))
 | (refine W.region tys_ok [] ?_; conv => whnf)
 | (refine W.drawAll tys_ok [] mixed rfl ?_; conv => whnf)
 | (refine W.ret ?_; conv => whnf)
 | (refine W.skip ?_; conv => whnf)
 | (refine W.exit ?_; conv => whnf)
 | (refine call_at (al := false) (har) rfl rfl rfl rfl ?_; conv => whnf)
 | (refine call_at (al := false) (index_lit [0, 3, 1, 2] 3 1 (by decide) rfl) rfl rfl rfl rfl ?_; conv => whnf)

    | (refine W.cond rfl (fun hb => ?_) (fun hb => ?_) <;> (try simp only [Int.reduceToNat, Int.reduceTDiv, Int.reduceTMod, minL, maxL, pickB, zHB] at hb) <;> (try (first | (cases hb; done) | exact absurd hb (by decide) | (exfalso; omega))))
    | ((with_reducible refine And.intro ?_ ?_); (focus ((repeat' (first | (with_reducible rfl) | (with_reducible refine And.intro ?_ ?_) | omega | rfl | exact Or.inl rfl | exact Or.inr rfl | exact of_decide_eq_true rfl | exact Path.imp_of (of_decide_eq_true rfl) | (focus ((try simp only [Int.reduceToNat, Int.reduceTDiv, Int.reduceTMod, minL, maxL, pickB, zHB, InK, Path.imp, List.length_replicate, List.length_set, List.length_append, List.length_cons, List.length_nil] at *); omega)) | (refine app_le rfl ?_; omega))); done)); (conv => whnf))
    | ((with_reducible refine And.intro (Side.out ?_) ?_); rotate_left; (conv => whnf))
    | (refine retF1 ?_ <;> (conv => whnf) <;> repeat' (first
 | exact trivial
 | (with_reducible rfl)
 | ((with_reducible refine And.intro ?_ ?_) <;> conv => whnf)
 | omega
 | rfl
 | (refine congrArg (SV.arr _) ?_)
 | (refine congrArg (Value.int _) ?_)
 | (refine congrArg Value.bool ?_)))
 | (refine retF2 ?_ <;> (conv => whnf) <;> repeat' (first
 | exact trivial
 | (with_reducible rfl)
 | ((with_reducible refine And.intro ?_ ?_) <;> conv => whnf)
 | omega
 | rfl
 | (refine congrArg (SV.arr _) ?_)
 | (refine congrArg (Value.int _) ?_)
 | (refine congrArg Value.bool ?_)))); all_goals (try unfold Side)
  all_goals try (repeat' (first | (with_reducible rfl) | (with_reducible refine And.intro ?_ ?_) | omega | rfl | exact Or.inl rfl | exact Or.inr rfl | exact of_decide_eq_true rfl | exact Path.imp_of (of_decide_eq_true rfl) | (focus ((try simp only [Int.reduceToNat, Int.reduceTDiv, Int.reduceTMod, minL, maxL, pickB, zHB, InK, Path.imp, List.length_replicate, List.length_set, List.length_append, List.length_cons, List.length_nil] at *); omega)) | (refine app_le rfl ?_; omega)))
  all_goals first | (refine subF.ok ?_ <;> (conv => whnf) <;> repeat' (first
 | exact trivial
 | (with_reducible rfl)
 | ((with_reducible refine And.intro ?_ ?_) <;> conv => whnf)
 | omega
 | rfl
 | (refine congrArg (SV.arr _) ?_)
 | (refine congrArg (Value.int _) ?_)
 | (refine congrArg Value.bool ?_))) | skip
  all_goals try (repeat' (first | (with_reducible rfl) | (with_reducible refine And.intro ?_ ?_) | omega | rfl | exact Or.inl rfl | exact Or.inr rfl | exact of_decide_eq_true rfl | exact Path.imp_of (of_decide_eq_true rfl) | (focus ((try simp only [Int.reduceToNat, Int.reduceTDiv, Int.reduceTMod, minL, maxL, pickB, zHB, InK, Path.imp, List.length_replicate, List.length_set, List.length_append, List.length_cons, List.length_nil] at *); omega)) | (refine app_le rfl ?_; omega)))
end Go.Proofs.Ytdfajcfkdfjoeab
/- The step that follows a step: the two agree. No condition. -/
namespace Go.Proofs.Ytdfajcfkdfjoeab
open Go Go.Vc Go.Scr
set_option linter.unusedVariables false
set_option linter.unusedSimpArgs false

theorem next_at {w s : List Int} {n : Nat} (h : Word w n) (hn : n ≤ 10) (hs : signsB s n = true) {st : Int} (h0 : -((2 * n : Nat) : Int) ≤ st) (h1 : st < (2 * n : Nat)) : FnAt Try.prog false 23 [curveT n w, .lit (.int .i64 st), .arr (.int .i64) s] (.lit (.int .i64 (nextT w s st))) [] := by
  simp only [signsB, Bool.and_eq_true, decide_eq_true_eq] at hs
  obtain ⟨a, x, p, q, ha, hat, hx, hwa, hpq, hq, hpl, hpp, hsg, hnx⟩ := at_of h hs.1 hs.2 h0 h1
  rw [hnx]
  by_cases hc : 0 ≤ st
  · have hd : decide (0 ≤ st) = true := decide_eq_true hc
    have hat' : (st + 1).tmod ((2 * n : Nat) : Int) = a := by rw [atT, if_pos hc] at hat; exact hat
    rcases hpp with rfl | rfl <;> rcases hsg with hsg | hsg
    · have := next_fpp h hn hs.2 h0 h1 hx hpq hq hpl hwa hc hat' hsg
      have e1 : decide (s.getD x 0 = 1) = true := decide_eq_true hsg
      have e2 : decide (a = a) = true := decide_eq_true rfl
      rw [hd, e1, e2, show (a : Int) + q - a = q by omega]
      exact this
    · have := next_fmp h hn hs.2 h0 h1 hx hpq hq hpl hwa hc hat' hsg
      have e1 : decide (s.getD x 0 = 1) = false := decide_eq_false (by rw [hsg]; decide)
      have e2 : decide (a = a) = true := decide_eq_true rfl
      rw [hd, e1, e2, show (a : Int) + q - a = q by omega]
      exact this
    · have := next_fpq h hn hs.2 h0 h1 hx hpq hq hpl hwa hc hat' hsg
      have e1 : decide (s.getD x 0 = 1) = true := decide_eq_true hsg
      have e2 : decide (a = p) = false := decide_eq_false (by omega)
      rw [hd, e1, e2, show (p : Int) + a - a = p by omega]
      exact this
    · have := next_fmq h hn hs.2 h0 h1 hx hpq hq hpl hwa hc hat' hsg
      have e1 : decide (s.getD x 0 = 1) = false := decide_eq_false (by rw [hsg]; decide)
      have e2 : decide (a = p) = false := decide_eq_false (by omega)
      rw [hd, e1, e2, show (p : Int) + a - a = p by omega]
      exact this
  · have hd : decide (0 ≤ st) = false := decide_eq_false hc
    have hat' : -1 - st = (a : Int) := by rw [atT, if_neg hc] at hat; exact hat
    have hc' : st < 0 := by omega
    rcases hpp with rfl | rfl <;> rcases hsg with hsg | hsg
    · have := next_bpp h hn hs.2 h0 h1 hx hpq hq hpl hwa hc' hat' hsg
      have e1 : decide (s.getD x 0 = 1) = true := decide_eq_true hsg
      have e2 : decide (a = a) = true := decide_eq_true rfl
      rw [hd, e1, e2, show (a : Int) + q - a = q by omega]
      exact this
    · have := next_bmp h hn hs.2 h0 h1 hx hpq hq hpl hwa hc' hat' hsg
      have e1 : decide (s.getD x 0 = 1) = false := decide_eq_false (by rw [hsg]; decide)
      have e2 : decide (a = a) = true := decide_eq_true rfl
      rw [hd, e1, e2, show (a : Int) + q - a = q by omega]
      exact this
    · have := next_bpq h hn hs.2 h0 h1 hx hpq hq hpl hwa hc' hat' hsg
      have e1 : decide (s.getD x 0 = 1) = true := decide_eq_true hsg
      have e2 : decide (a = p) = false := decide_eq_false (by omega)
      rw [hd, e1, e2, show (p : Int) + a - a = p by omega]
      exact this
    · have := next_bmq h hn hs.2 h0 h1 hx hpq hq hpl hwa hc' hat' hsg
      have e1 : decide (s.getD x 0 = 1) = false := decide_eq_false (by rw [hsg]; decide)
      have e2 : decide (a = p) = false := decide_eq_false (by omega)
      rw [hd, e1, e2, show (p : Int) + a - a = p by omega]
      exact this

end Go.Proofs.Ytdfajcfkdfjoeab
/- Faces as lists: what the loops know. No condition. -/
namespace Go.Scr
set_option linter.unusedVariables false
set_option linter.unusedSimpArgs false

theorem Wk.init {nx : Int → Int} {m : Nat} {seen : List Int} {b : Int} (h1 : seen.Nodup) (h2 : ∀ x ∈ seen, -(m : Int) ≤ x ∧ x < m) (h3 : -(m : Int) ≤ b) (h4 : b < m) : Wk nx m seen b b [] :=
  ⟨by simpa using h1, by simpa using h2, ⟨h3, h4⟩, rfl, fun i hi => by simp at hi, fun h => absurd rfl h⟩
theorem facesK_ok {nx : Int → Int} {m : Nat} (hr : ∀ s, -(m : Int) ≤ s → s < m → -(m : Int) ≤ nx s ∧ nx s < m) : ∀ k, k ≤ 2 * m → (facesK nx m k).flatten.Nodup ∧ ∀ x ∈ (facesK nx m k).flatten, -(m : Int) ≤ x ∧ x < m
  | 0, _ => by simp [facesK]
  | k + 1, hk => by
    obtain ⟨h1, h2⟩ := facesK_ok hr k (by omega)
    rw [facesK, faceAdd]
    split
    · exact ⟨h1, h2⟩
    · obtain ⟨st, h3, _⟩ := walk_ok hr (2 * m + 1) ((k : Int) - m) [] (Wk.init (b := (k : Int) - m) h1 h2 (by omega) (by omega)) (by simp)
      rw [List.flatten_append, List.flatten_singleton]
      exact ⟨h3.nd, h3.rg⟩
theorem walk_more {nx : Int → Int} {seen : List Int} {m : Nat} {step : Int} {face : List Int} (hl : face.length ≤ 2 * m) (h : ¬ (step ∈ seen ∨ step ∈ face)) : walk nx seen (2 * m + 1 - face.length) step face = walk nx seen (2 * m + 1 - (face ++ [step]).length) (nx step) (face ++ [step]) := by
  rw [List.length_append, List.length_singleton, show 2 * m + 1 - face.length = (2 * m + 1 - (face.length + 1)) + 1 by omega, walk, if_neg h]
theorem walk_end {nx : Int → Int} {seen : List Int} {m : Nat} {step : Int} {face : List Int} (hl : face.length ≤ 2 * m) (h : step ∈ seen ∨ step ∈ face) : walk nx seen (2 * m + 1 - face.length) step face = face := by
  rw [show 2 * m + 1 - face.length = (2 * m - face.length) + 1 by omega, walk, if_pos h]
theorem facesK_skip {nx : Int → Int} {m k : Nat} (h : (k : Int) - m ∈ (facesK nx m k).flatten) : facesK nx m (k + 1) = facesK nx m k := by rw [facesK, faceAdd, if_pos h]
theorem facesK_push {nx : Int → Int} {m k : Nat} (h : ¬ (k : Int) - m ∈ (facesK nx m k).flatten) : facesK nx m (k + 1) = facesK nx m k ++ [walk nx (facesK nx m k).flatten (2 * m + 1) ((k : Int) - m) []] := by rw [facesK, faceAdd, if_neg h]
theorem facesK_len {nx : Int → Int} {m : Nat} : ∀ k, (facesK nx m k).length ≤ k
  | 0 => by simp [facesK]
  | k + 1 => by
    have := facesK_len (nx := nx) (m := m) k
    rw [facesK, faceAdd]; split
    · omega
    · simp; omega
theorem facesK_lens {nx : Int → Int} {m : Nat} (hr : ∀ s, -(m : Int) ≤ s → s < m → -(m : Int) ≤ nx s ∧ nx s < m) (k : Nat) (hk : k ≤ 2 * m) : ∀ i, i < (facesK nx m k).length → ((facesK nx m k).getD i []).length ≤ 2 * m := fun i hi => by
  obtain ⟨h1, h2⟩ := facesK_ok hr k hk
  have hf : (facesK nx m k).getD i [] ∈ facesK nx m k := by
    rw [List.getD_eq_getElem?_getD, List.getElem?_eq_getElem hi]; exact List.getElem_mem hi
  have hs : ((facesK nx m k).getD i []).Sublist (facesK nx m k).flatten := List.sublist_flatten_of_mem hf
  exact nodup_range (hs.nodup h1) fun x hx => h2 x (hs.subset hx)
theorem facesT_lens {nx : Int → Int} {m : Nat} (hr : ∀ s, -(m : Int) ≤ s → s < m → -(m : Int) ≤ nx s ∧ nx s < m) : ∀ i, i < (facesT nx m).length → ((facesT nx m).getD i []).length ≤ 2 * m := facesK_lens hr _ (Nat.le_refl _)
/-- The steps that were seen, as a map. -/
def mpT (L : List Int) : Int → Option Bool := fun j => if j ∈ L then some true else none
theorem mpT_in {L : List Int} {x : Int} (h : x ∈ L) : (mpT L x).getD false = true := by rw [mpT, if_pos h]; rfl
theorem mpT_out {L : List Int} {x : Int} (h : ¬ x ∈ L) : (mpT L x).getD false = false := by rw [mpT, if_neg h]; rfl
/-- The steps that were seen, as a row. -/
def rowT (m : Nat) (L : List Int) : List Bool := (List.range (2 * m)).map fun i : Nat => decide ((i : Int) - m ∈ L)
theorem rowT_len {m : Nat} {L : List Int} : (rowT m L).length = 2 * m := by simp [rowT]
theorem rowT_get {m : Nat} {L : List Int} {i : Nat} (h : i < 2 * m) : (rowT m L).getD i false = decide ((i : Int) - m ∈ L) := by
  rw [rowT, List.getD_eq_getElem?_getD, List.getElem?_map, List.getElem?_range h]; rfl
theorem rowT_set {m : Nat} {L : List Int} {x : Int} (h0 : -(m : Int) ≤ x) (h1 : x < m) : (rowT m L).set (x + m).toNat true = rowT m (L ++ [x]) := by
  refine List.ext_getElem (by simp [rowT]) fun i h2 h3 => ?_
  rw [List.length_set, rowT_len] at h2
  rw [List.getElem_set]
  simp only [rowT, List.getElem_map, List.getElem_range, List.mem_append, List.mem_singleton]
  split
  · rename_i e
    rw [Bool.eq_iff_iff]; simp only [decide_eq_true_eq, true_iff]; right; omega
  · rename_i e
    rw [decide_eq_decide]
    constructor
    · exact .inl
    · rintro (h | h)
      · exact h
      · omega
theorem rowT_nil {m : Nat} : rowT m [] = List.replicate (2 * m) false := by
  refine List.ext_getElem (by simp [rowT]) fun i h2 h3 => ?_
  simp [rowT]
end Go.Scr
/- The faces of a word with signs: the program's. No condition. -/
namespace Go.Proofs.Ytdfajcfkdfjoeab
open Go Go.Vc Go.Scr
set_option linter.unusedVariables false
set_option linter.unusedSimpArgs false

theorem mp_add {L : List Int} {x : Int} (h : ¬ x ∈ L) : Ob.mp .i64 .bool (mput (mpT L) x true) (if (mpT L x).isSome = true then L.length else L.length + 1) = Ob.mp .i64 .bool (mpT (L ++ [x])) (L ++ [x]).length := by
  have h1 : mput (mpT L) x true = mpT (L ++ [x]) := by
    funext j
    unfold mput mpT
    by_cases e : j = x
    · subst e; simp
    · simp [e]
  have h2 : (mpT L x).isSome = false := by rw [mpT, if_neg h]; rfl
  have key : ∀ {m m' : Int → Option Bool} {c c' : Nat}, m = m' → c = c' → Ob.mp .i64 .bool m c = Ob.mp .i64 .bool m' c' := by rintro m m' c c' rfl rfl; rfl
  refine key h1 ?_
  rw [h2, List.length_append]; rfl
theorem mp_eq {L M : List Int} (h : L = M) : Ob.mp .i64 .bool (mpT L) L.length = Ob.mp .i64 .bool (mpT M) M.length := by rw [h]
theorem mp_nil {L : List Int} (h : L = []) : Ob.mp .i64 .bool (fun _ => none) 0 = Ob.mp .i64 .bool (mpT L) L.length := by
  subst h
  have : mpT [] = fun _ => none := by funext j; simp [mpT]
  rw [this]; rfl
theorem next_rg {w s : List Int} {n : Nat} (h : Word w n) (hs : signsB s n = true) : ∀ st, -((2 * n : Nat) : Int) ≤ st → st < (2 * n : Nat) → -((2 * n : Nat) : Int) ≤ nextT w s st ∧ nextT w s st < (2 * n : Nat) := fun st h0 h1 => by
  simp only [signsB, Bool.and_eq_true, decide_eq_true_eq] at hs
  obtain ⟨a, x, p, q, hA⟩ := at_of h hs.1 hs.2 h0 h1
  exact hA.rg
set_option maxHeartbeats 4000000 in
theorem faces_at {w s : List Int} {n : Nat} (h : Word w n) (hn : n ≤ 10) (hs : signsB s n = true) : FnAt Try.prog false 18 [curveT n w, .arr (.int .i64) s] (.own 0) [(0, .row 23 (.sl (.int .i64)) true (facesT (nextT w s) (2 * n)))] := by
  have hwl : @List.length (Ty.int .i64).T w = 2 * n := h.len
  have hp := h.pos
  have hr := next_rg h hs
  obtain ⟨nx, hnx⟩ : ∃ nx, nx = nextT w s := ⟨_, rfl⟩
  rw [← hnx] at hr ⊢
  obtain ⟨K, hK⟩ : ∃ K : Nat → List (List Int), K = facesK nx (2 * n) := ⟨_, rfl⟩
  have hK0 : K 0 = [] := by rw [hK]; rfl
  have hKT : K (2 * (2 * n)) = facesT nx (2 * n) := by rw [hK]; rfl
  have hKl : ∀ k, (K k).length ≤ k := fun k => by rw [hK]; exact facesK_len k
  have hKl2 : ∀ k, @List.length (Ty.sl (.int .i64)).T (K k) ≤ k := hKl
  have hok : ∀ k, k ≤ 2 * (2 * n) → (K k).flatten.Nodup ∧ ∀ x ∈ (K k).flatten, -((2 * n : Nat) : Int) ≤ x ∧ x < (2 * n : Nat) := by rw [hK]; exact facesK_ok hr
  have hskip : ∀ k : Nat, (k : Int) - (2 * n : Nat) ∈ (K k).flatten → K (k + 1) = K k := by rw [hK]; exact fun k => facesK_skip
  have hpush : ∀ k : Nat, ¬ (k : Int) - (2 * n : Nat) ∈ (K k).flatten → K (k + 1) = K k ++ [walk nx (K k).flatten (2 * (2 * n) + 1) ((k : Int) - (2 * n : Nat)) []] := by rw [hK]; exact fun k => facesK_push
  refine FnAt.of_body tys_ok Try.func18 (by rfl) rfl Try.ntmps18 (by rw [Try.results18]) (by simp) ?_
  
  repeat' (first
 | refine W.seq ?_
 | refine W.block ?_
 | (refine W.region tys_ok [] ?_; conv => whnf)
 | (refine W.drawAll tys_ok [] mixed rfl ?_; conv => whnf)
 | (refine W.ret ?_; conv => whnf)
 | (refine W.skip ?_; conv => whnf)
 | (refine W.exit ?_; conv => whnf)

    | (refine W.cond rfl (fun hb => ?_) (fun hb => ?_) <;> (try simp only [Int.reduceToNat, Int.reduceTDiv, Int.reduceTMod, minL, maxL, pickB, zHB] at hb) <;> (try (first | (cases hb; done) | exact absurd hb (by decide) | (exfalso; omega))))
    | ((with_reducible refine And.intro ?_ ?_); (focus ((repeat' (first | (with_reducible rfl) | (with_reducible refine And.intro ?_ ?_) | omega | rfl | exact Or.inl rfl | exact Or.inr rfl | exact of_decide_eq_true rfl | exact Path.imp_of (of_decide_eq_true rfl) | (focus ((try simp only [Int.reduceToNat, Int.reduceTDiv, Int.reduceTMod, minL, maxL, pickB, zHB, InK, Path.imp, List.length_replicate, List.length_set, List.length_append, List.length_cons, List.length_nil] at *); omega)) | (refine app_le rfl ?_; omega))); done)); (conv => whnf))
    | ((with_reducible refine And.intro (Side.out ?_) ?_); rotate_left; (conv => whnf))
    | (refine retF1 ?_ <;> (conv => whnf) <;> repeat' (first
 | exact trivial
 | (with_reducible rfl)
 | ((with_reducible refine And.intro ?_ ?_) <;> conv => whnf)
 | omega
 | rfl
 | (refine congrArg (SV.arr _) ?_)
 | (refine congrArg (Value.int _) ?_)
 | (refine congrArg Value.bool ?_)))
 | (refine retF2 ?_ <;> (conv => whnf) <;> repeat' (first
 | exact trivial
 | (with_reducible rfl)
 | ((with_reducible refine And.intro ?_ ?_) <;> conv => whnf)
 | omega
 | rfl
 | (refine congrArg (SV.arr _) ?_)
 | (refine congrArg (Value.int _) ?_)
 | (refine congrArg Value.bool ?_)))); all_goals (try unfold Side)
  all_goals try (repeat' (first | (with_reducible rfl) | (with_reducible refine And.intro ?_ ?_) | omega | rfl | exact Or.inl rfl | exact Or.inr rfl | exact of_decide_eq_true rfl | exact Path.imp_of (of_decide_eq_true rfl) | (focus ((try simp only [Int.reduceToNat, Int.reduceTDiv, Int.reduceTMod, minL, maxL, pickB, zHB, InK, Path.imp, List.length_replicate, List.length_set, List.length_append, List.length_cons, List.length_nil] at *); omega)) | (refine app_le rfl ?_; omega)))
  refine W.loop (fun k : Nat => ⟨[(0, .st false (curveT n w)), (1, .st false (.arr (.int .i64) (s : List Int))), (5, .own 900005), (6, .own 900006), (7, .lit (.int .i64 ((2 * n : Nat)))), (8, .lit (.int .i64 ((k : Int) - (2 * n : Nat))))], [(900005, .row 23 (.sl (.int .i64)) true (K k : List (List Int))), (900006, .mp .i64 .bool (mpT (K k).flatten) (K k).flatten.length)]⟩) (fun k => k ≤ 2 * (2 * n)) (fun k => 2 * (2 * n) - k) (0) ?_ ?_
  · refine ⟨Nat.zero_le _, ?_⟩
    refine subF.ok ?_ <;> (conv => whnf) <;> repeat' (first
 | exact trivial
 | (with_reducible rfl)
 | ((with_reducible refine And.intro ?_ ?_) <;> conv => whnf)
 | omega
 | rfl
 | (refine congrArg (SV.arr _) ?_)
 | (refine congrArg (Value.int _) ?_)
 | (refine congrArg Value.bool ?_))
    · exact hK0
    · exact mp_nil (by rw [hK0]; rfl)
  · intro k hk
    have hlk := hKl2 k
    by_cases hil : k < 2 * (2 * n)
    · by_cases hm : (k : Int) - (2 * n : Nat) ∈ (K k).flatten
      · have hv := mpT_in hm
        repeat' (first
 | refine W.seq ?_
 | refine W.block ?_
 | (refine W.region tys_ok [] ?_; conv => whnf)
 | (refine W.drawAll tys_ok [] mixed rfl ?_; conv => whnf)
 | (refine W.ret ?_; conv => whnf)
 | (refine W.skip ?_; conv => whnf)
 | (refine W.exit ?_; conv => whnf)

    | (refine W.cond rfl (fun hb => ?_) (fun hb => ?_) <;> (try simp only [Int.reduceToNat, Int.reduceTDiv, Int.reduceTMod, minL, maxL, pickB, zHB] at hb) <;> (try (first | (cases hb; done) | exact absurd hb (by decide) | (exfalso; omega) | (exact absurd (hb.symm.trans hv) (by decide)))))
    | ((with_reducible refine And.intro ?_ ?_); (focus ((repeat' (first | (with_reducible rfl) | (with_reducible refine And.intro ?_ ?_) | omega | rfl | exact Or.inl rfl | exact Or.inr rfl | exact of_decide_eq_true rfl | exact Path.imp_of (of_decide_eq_true rfl) | (focus ((try simp only [Int.reduceToNat, Int.reduceTDiv, Int.reduceTMod, minL, maxL, pickB, zHB, InK, Path.imp, List.length_replicate, List.length_set, List.length_append, List.length_cons, List.length_nil] at *); omega)) | (refine app_le rfl ?_; omega))); done)); (conv => whnf))
    | ((with_reducible refine And.intro (Side.out ?_) ?_); rotate_left; (conv => whnf))
    | (refine retF1 ?_ <;> (conv => whnf) <;> repeat' (first
 | exact trivial
 | (with_reducible rfl)
 | ((with_reducible refine And.intro ?_ ?_) <;> conv => whnf)
 | omega
 | rfl
 | (refine congrArg (SV.arr _) ?_)
 | (refine congrArg (Value.int _) ?_)
 | (refine congrArg Value.bool ?_)))
 | (refine retF2 ?_ <;> (conv => whnf) <;> repeat' (first
 | exact trivial
 | (with_reducible rfl)
 | ((with_reducible refine And.intro ?_ ?_) <;> conv => whnf)
 | omega
 | rfl
 | (refine congrArg (SV.arr _) ?_)
 | (refine congrArg (Value.int _) ?_)
 | (refine congrArg Value.bool ?_)))); all_goals (try unfold Side)
        all_goals try (repeat' (first | (with_reducible rfl) | (with_reducible refine And.intro ?_ ?_) | omega | rfl | exact Or.inl rfl | exact Or.inr rfl | exact of_decide_eq_true rfl | exact Path.imp_of (of_decide_eq_true rfl) | (focus ((try simp only [Int.reduceToNat, Int.reduceTDiv, Int.reduceTMod, minL, maxL, pickB, zHB, InK, Path.imp, List.length_replicate, List.length_set, List.length_append, List.length_cons, List.length_nil] at *); omega)) | (refine app_le rfl ?_; omega)))
        refine ⟨k + 1, ⟨by omega, by omega⟩, ?_⟩
        rw [hskip k hm]
        refine subF.ok ?_ <;> (conv => whnf) <;> repeat' (first
 | exact trivial
 | (with_reducible rfl)
 | ((with_reducible refine And.intro ?_ ?_) <;> conv => whnf)
 | omega
 | rfl
 | (refine congrArg (SV.arr _) ?_)
 | (refine congrArg (Value.int _) ?_)
 | (refine congrArg Value.bool ?_))
      · have hv := mpT_out hm
        obtain ⟨nd, rg⟩ := hok k (by omega)
        obtain ⟨F, hF⟩ : ∃ F, F = walk nx (K k).flatten (2 * (2 * n) + 1) ((k : Int) - (2 * n : Nat)) [] := ⟨_, rfl⟩
        have hpk := hpush k hm
        rw [← hF] at hpk
        repeat' (first
 | refine W.seq ?_
 | refine W.block ?_
 | (refine W.region tys_ok [] ?_; conv => whnf)
 | (refine W.drawAll tys_ok [] mixed rfl ?_; conv => whnf)
 | (refine W.ret ?_; conv => whnf)
 | (refine W.skip ?_; conv => whnf)
 | (refine W.exit ?_; conv => whnf)

    | (refine W.cond rfl (fun hb => ?_) (fun hb => ?_) <;> (try simp only [Int.reduceToNat, Int.reduceTDiv, Int.reduceTMod, minL, maxL, pickB, zHB] at hb) <;> (try (first | (cases hb; done) | exact absurd hb (by decide) | (exfalso; omega) | (exact absurd (hb.symm.trans hv) (by decide)))))
    | ((with_reducible refine And.intro ?_ ?_); (focus ((repeat' (first | (with_reducible rfl) | (with_reducible refine And.intro ?_ ?_) | omega | rfl | exact Or.inl rfl | exact Or.inr rfl | exact of_decide_eq_true rfl | exact Path.imp_of (of_decide_eq_true rfl) | (focus ((try simp only [Int.reduceToNat, Int.reduceTDiv, Int.reduceTMod, minL, maxL, pickB, zHB, InK, Path.imp, List.length_replicate, List.length_set, List.length_append, List.length_cons, List.length_nil] at *); omega)) | (refine app_le rfl ?_; omega))); done)); (conv => whnf))
    | ((with_reducible refine And.intro (Side.out ?_) ?_); rotate_left; (conv => whnf))
    | (refine retF1 ?_ <;> (conv => whnf) <;> repeat' (first
 | exact trivial
 | (with_reducible rfl)
 | ((with_reducible refine And.intro ?_ ?_) <;> conv => whnf)
 | omega
 | rfl
 | (refine congrArg (SV.arr _) ?_)
 | (refine congrArg (Value.int _) ?_)
 | (refine congrArg Value.bool ?_)))
 | (refine retF2 ?_ <;> (conv => whnf) <;> repeat' (first
 | exact trivial
 | (with_reducible rfl)
 | ((with_reducible refine And.intro ?_ ?_) <;> conv => whnf)
 | omega
 | rfl
 | (refine congrArg (SV.arr _) ?_)
 | (refine congrArg (Value.int _) ?_)
 | (refine congrArg Value.bool ?_)))); all_goals (try unfold Side)
        all_goals try (repeat' (first | (with_reducible rfl) | (with_reducible refine And.intro ?_ ?_) | omega | rfl | exact Or.inl rfl | exact Or.inr rfl | exact of_decide_eq_true rfl | exact Path.imp_of (of_decide_eq_true rfl) | (focus ((try simp only [Int.reduceToNat, Int.reduceTDiv, Int.reduceTMod, minL, maxL, pickB, zHB, InK, Path.imp, List.length_replicate, List.length_set, List.length_append, List.length_cons, List.length_nil] at *); omega)) | (refine app_le rfl ?_; omega)))
        refine W.loop (fun z : List Int × Int => ⟨[(0, .st false (curveT n w)), (1, .st false (.arr (.int .i64) (s : List Int))), (5, .own 900005), (6, .own 900006), (7, .lit (.int .i64 ((2 * n : Nat)))), (8, .lit (.int .i64 ((k : Int) - (2 * n : Nat)))), (9, .own 900009), (10, .lit (.int .i64 (z.2)))], [(900005, .row 23 (.sl (.int .i64)) true (K k : List (List Int))), (900006, .mp .i64 .bool (mpT ((K k).flatten ++ z.1)) ((K k).flatten ++ z.1).length), (900009, .row 3 (.int .i64) true (z.1 : List Int))]⟩) (fun z => Wk nx (2 * n) (K k).flatten ((k : Int) - (2 * n : Nat)) z.2 z.1 ∧ walk nx (K k).flatten (2 * (2 * n) + 1 - z.1.length) z.2 z.1 = F) (fun z => 2 * (2 * n) - ((K k).flatten.length + z.1.length)) (([], (k : Int) - (2 * n : Nat))) ?_ ?_
        · refine ⟨⟨Wk.init nd rg (by omega) (by omega), hF.symm⟩, ?_⟩
          refine subF.ok ?_ <;> (conv => whnf) <;> repeat' (first
 | exact trivial
 | (with_reducible rfl)
 | ((with_reducible refine And.intro ?_ ?_) <;> conv => whnf)
 | omega
 | rfl
 | (refine congrArg (SV.arr _) ?_)
 | (refine congrArg (Value.int _) ?_)
 | (refine congrArg Value.bool ?_))
          · exact mp_eq (by simp)
        · rintro ⟨face, st⟩ ⟨hw, hf⟩
          dsimp only at hw hf ⊢
          have hlen := hw.len
          have hfl : @List.length (Ty.int .i64).T face ≤ 2 * (2 * n) := by show face.length ≤ _; omega
          have hst := hw.st
          have hrs := hr st hst.1 hst.2
          by_cases hms : st ∈ (K k).flatten ∨ st ∈ face
          · have hv2 := mpT_in (List.mem_append.2 hms)
            rw [walk_end hfl hms] at hf
            subst hf
            repeat' (first
 | refine W.seq ?_
 | refine W.block ?_
 | (refine W.resub (x := Code.region 14 _ _) (Γ' := ⟨[(0, .st false (curveT n w)), (1, .st false (.arr (.int .i64) (s : List Int))), (5, .own 900005), (6, .own 900006), (7, .lit (.int .i64 ((2 * n : Nat)))), (8, .lit (.int .i64 ((k : Int) - (2 * n : Nat)))), (9, .st true (.arr (.int .i64) (face : List Int)))], [(900005, .row 23 (.sl (.int .i64)) true (K k : List (List Int))), (900006, .mp .i64 .bool (mpT ((K k).flatten ++ face)) ((K k).flatten ++ face).length)]⟩) ?_ (W.region tys_ok [] ?_); rotate_left; (conv => whnf))
 | (refine W.region tys_ok [] ?_; conv => whnf)
 | (refine W.drawAll tys_ok [] mixed rfl ?_; conv => whnf)
 | (refine W.ret ?_; conv => whnf)
 | (refine W.skip ?_; conv => whnf)
 | (refine W.exit ?_; conv => whnf)

    | (refine W.cond rfl (fun hb => ?_) (fun hb => ?_) <;> (try simp only [Int.reduceToNat, Int.reduceTDiv, Int.reduceTMod, minL, maxL, pickB, zHB] at hb) <;> (try (first | (cases hb; done) | exact absurd hb (by decide) | (exfalso; omega) | (exact absurd (hb.symm.trans (congrArg (fun b : Bool => !b) hv2)) (by decide)))))
    | ((with_reducible refine And.intro ?_ ?_); (focus ((repeat' (first | (with_reducible rfl) | (with_reducible refine And.intro ?_ ?_) | omega | rfl | exact Or.inl rfl | exact Or.inr rfl | exact of_decide_eq_true rfl | exact Path.imp_of (of_decide_eq_true rfl) | (focus ((try simp only [Int.reduceToNat, Int.reduceTDiv, Int.reduceTMod, minL, maxL, pickB, zHB, InK, Path.imp, List.length_replicate, List.length_set, List.length_append, List.length_cons, List.length_nil] at *); omega)) | (refine app_le rfl ?_; omega))); done)); (conv => whnf))
    | ((with_reducible refine And.intro (Side.out ?_) ?_); rotate_left; (conv => whnf))
    | (refine retF1 ?_ <;> (conv => whnf) <;> repeat' (first
 | exact trivial
 | (with_reducible rfl)
 | ((with_reducible refine And.intro ?_ ?_) <;> conv => whnf)
 | omega
 | rfl
 | (refine congrArg (SV.arr _) ?_)
 | (refine congrArg (Value.int _) ?_)
 | (refine congrArg Value.bool ?_)))
 | (refine retF2 ?_ <;> (conv => whnf) <;> repeat' (first
 | exact trivial
 | (with_reducible rfl)
 | ((with_reducible refine And.intro ?_ ?_) <;> conv => whnf)
 | omega
 | rfl
 | (refine congrArg (SV.arr _) ?_)
 | (refine congrArg (Value.int _) ?_)
 | (refine congrArg Value.bool ?_)))); all_goals (try unfold Side)
            all_goals try (repeat' (first | (with_reducible rfl) | (with_reducible refine And.intro ?_ ?_) | omega | rfl | exact Or.inl rfl | exact Or.inr rfl | exact of_decide_eq_true rfl | exact Path.imp_of (of_decide_eq_true rfl) | (focus ((try simp only [Int.reduceToNat, Int.reduceTDiv, Int.reduceTMod, minL, maxL, pickB, zHB, InK, Path.imp, List.length_replicate, List.length_set, List.length_append, List.length_cons, List.length_nil] at *); omega)) | (refine app_le rfl ?_; omega)))
            · refine ⟨k + 1, ⟨by omega, by omega⟩, ?_⟩
              rw [hpk]
              refine subF.ok ?_ <;> (conv => whnf) <;> repeat' (first
 | exact trivial
 | (with_reducible rfl)
 | ((with_reducible refine And.intro ?_ ?_) <;> conv => whnf)
 | omega
 | rfl
 | (refine congrArg (SV.arr _) ?_)
 | (refine congrArg (Value.int _) ?_)
 | (refine congrArg Value.bool ?_))
              all_goals exact mp_eq (by simp)
            · refine subF.ok ?_ <;> (conv => whnf) <;> repeat' (first
 | exact trivial
 | (with_reducible rfl)
 | ((with_reducible refine And.intro ?_ ?_) <;> conv => whnf)
 | omega
 | rfl
 | (refine congrArg (SV.arr _) ?_)
 | (refine congrArg (Value.int _) ?_)
 | (refine congrArg Value.bool ?_))
          · have hv2 := mpT_out (fun h => hms (List.mem_append.1 h))
            have hadd := mp_add (fun h => hms (List.mem_append.1 h))
            rw [walk_more hfl hms] at hf
            have hnext := next_at h hn hs hst.1 hst.2
            rw [← hnx] at hnext
            repeat' (first
 | refine W.seq ?_
 | refine W.block ?_
 | (refine W.region tys_ok [] ?_; conv => whnf)
 | (refine W.drawAll tys_ok [] mixed rfl ?_; conv => whnf)
 | (refine W.ret ?_; conv => whnf)
 | (refine W.skip ?_; conv => whnf)
 | (refine W.exit ?_; conv => whnf)
 | (refine call_at (al := false) (hnext) rfl rfl rfl rfl ?_; conv => whnf)

    | (refine W.cond rfl (fun hb => ?_) (fun hb => ?_) <;> (try simp only [Int.reduceToNat, Int.reduceTDiv, Int.reduceTMod, minL, maxL, pickB, zHB] at hb) <;> (try (first | (cases hb; done) | exact absurd hb (by decide) | (exfalso; omega) | (exact absurd (hb.symm.trans (congrArg (fun b : Bool => !b) hv2)) (by decide)))))
    | ((with_reducible refine And.intro ?_ ?_); (focus ((repeat' (first | (with_reducible rfl) | (with_reducible refine And.intro ?_ ?_) | omega | rfl | exact Or.inl rfl | exact Or.inr rfl | exact of_decide_eq_true rfl | exact Path.imp_of (of_decide_eq_true rfl) | (focus ((try simp only [Int.reduceToNat, Int.reduceTDiv, Int.reduceTMod, minL, maxL, pickB, zHB, InK, Path.imp, List.length_replicate, List.length_set, List.length_append, List.length_cons, List.length_nil] at *); omega)) | (refine app_le rfl ?_; omega))); done)); (conv => whnf))
    | ((with_reducible refine And.intro (Side.out ?_) ?_); rotate_left; (conv => whnf))
    | (refine retF1 ?_ <;> (conv => whnf) <;> repeat' (first
 | exact trivial
 | (with_reducible rfl)
 | ((with_reducible refine And.intro ?_ ?_) <;> conv => whnf)
 | omega
 | rfl
 | (refine congrArg (SV.arr _) ?_)
 | (refine congrArg (Value.int _) ?_)
 | (refine congrArg Value.bool ?_)))
 | (refine retF2 ?_ <;> (conv => whnf) <;> repeat' (first
 | exact trivial
 | (with_reducible rfl)
 | ((with_reducible refine And.intro ?_ ?_) <;> conv => whnf)
 | omega
 | rfl
 | (refine congrArg (SV.arr _) ?_)
 | (refine congrArg (Value.int _) ?_)
 | (refine congrArg Value.bool ?_)))); all_goals (try unfold Side)
            all_goals try (repeat' (first | (with_reducible rfl) | (with_reducible refine And.intro ?_ ?_) | omega | rfl | exact Or.inl rfl | exact Or.inr rfl | exact of_decide_eq_true rfl | exact Path.imp_of (of_decide_eq_true rfl) | (focus ((try simp only [Int.reduceToNat, Int.reduceTDiv, Int.reduceTMod, minL, maxL, pickB, zHB, InK, Path.imp, List.length_replicate, List.length_set, List.length_append, List.length_cons, List.length_nil] at *); omega)) | (refine app_le rfl ?_; omega)))
            refine ⟨(face ++ [st], nx st), ⟨⟨hw.step hr hms, hf⟩, by
              have := (hw.step hr hms).len
              simp only [List.length_append, List.length_singleton] at this ⊢
              omega⟩, ?_⟩
            refine subF.ok ?_ <;> (conv => whnf) <;> repeat' (first
 | exact trivial
 | (with_reducible rfl)
 | ((with_reducible refine And.intro ?_ ?_) <;> conv => whnf)
 | omega
 | rfl
 | (refine congrArg (SV.arr _) ?_)
 | (refine congrArg (Value.int _) ?_)
 | (refine congrArg Value.bool ?_))
            all_goals exact hadd.trans (mp_eq (List.append_assoc _ _ _))
    · have hie : 2 * (2 * n) = k := by omega
      subst hie
      rw [hKT]
      repeat' (first
 | refine W.seq ?_
 | refine W.block ?_
 | (refine W.region tys_ok [] ?_; conv => whnf)
 | (refine W.drawAll tys_ok [] mixed rfl ?_; conv => whnf)
 | (refine W.ret ?_; conv => whnf)
 | (refine W.skip ?_; conv => whnf)
 | (refine W.exit ?_; conv => whnf)

    | (refine W.cond rfl (fun hb => ?_) (fun hb => ?_) <;> (try simp only [Int.reduceToNat, Int.reduceTDiv, Int.reduceTMod, minL, maxL, pickB, zHB] at hb) <;> (try (first | (cases hb; done) | exact absurd hb (by decide) | (exfalso; omega))))
    | ((with_reducible refine And.intro ?_ ?_); (focus ((repeat' (first | (with_reducible rfl) | (with_reducible refine And.intro ?_ ?_) | omega | rfl | exact Or.inl rfl | exact Or.inr rfl | exact of_decide_eq_true rfl | exact Path.imp_of (of_decide_eq_true rfl) | (focus ((try simp only [Int.reduceToNat, Int.reduceTDiv, Int.reduceTMod, minL, maxL, pickB, zHB, InK, Path.imp, List.length_replicate, List.length_set, List.length_append, List.length_cons, List.length_nil] at *); omega)) | (refine app_le rfl ?_; omega))); done)); (conv => whnf))
    | ((with_reducible refine And.intro (Side.out ?_) ?_); rotate_left; (conv => whnf))
    | (refine retF1 ?_ <;> (conv => whnf) <;> repeat' (first
 | exact trivial
 | (with_reducible rfl)
 | ((with_reducible refine And.intro ?_ ?_) <;> conv => whnf)
 | omega
 | rfl
 | (refine congrArg (SV.arr _) ?_)
 | (refine congrArg (Value.int _) ?_)
 | (refine congrArg Value.bool ?_)))
 | (refine retF2 ?_ <;> (conv => whnf) <;> repeat' (first
 | exact trivial
 | (with_reducible rfl)
 | ((with_reducible refine And.intro ?_ ?_) <;> conv => whnf)
 | omega
 | rfl
 | (refine congrArg (SV.arr _) ?_)
 | (refine congrArg (Value.int _) ?_)
 | (refine congrArg Value.bool ?_)))); all_goals (try unfold Side)
      all_goals try (repeat' (first | (with_reducible rfl) | (with_reducible refine And.intro ?_ ?_) | omega | rfl | exact Or.inl rfl | exact Or.inr rfl | exact of_decide_eq_true rfl | exact Path.imp_of (of_decide_eq_true rfl) | (focus ((try simp only [Int.reduceToNat, Int.reduceTDiv, Int.reduceTMod, minL, maxL, pickB, zHB, InK, Path.imp, List.length_replicate, List.length_set, List.length_append, List.length_cons, List.length_nil] at *); omega)) | (refine app_le rfl ?_; omega)))
end Go.Proofs.Ytdfajcfkdfjoeab
/- All signs of n letters. No condition. -/
namespace Go.Scr
set_option linter.unusedVariables false
set_option linter.unusedSimpArgs false

def bitT (k j : Nat) : Nat := k / 2 ^ j % 2
theorem bitT_le {k j : Nat} : bitT k j ≤ 1 := by unfold bitT; omega
theorem bit_and {k j : Nat} : (k / 2 ^ j) &&& 1 = bitT k j := by rw [Nat.and_one_is_mod]; rfl
theorem bit_test {k j : Nat} : bitT k j = (k.testBit j).toNat := by
  rw [Nat.testBit_eq_decide_div_mod_eq]
  have := bitT_le (k := k) (j := j)
  unfold bitT at *
  by_cases h : k / 2 ^ j % 2 = 1
  · rw [decide_eq_true h, h]; rfl
  · rw [decide_eq_false h]; show _ = 0; omega
theorem bit_not {n k j : Nat} (hk : k < 2 ^ n) (hj : j < n) : bitT (2 ^ n - 1 - k) j = 1 - bitT k j := by
  rw [bit_test, bit_test, show 2 ^ n - 1 - k = 2 ^ n - (k + 1) by omega, Nat.testBit_two_pow_sub_succ hk, decide_eq_true hj]
  cases k.testBit j <;> rfl
/-- The k-th signs. -/
def sgAt (n k i : Nat) : Int := 1 - 2 * (bitT k (n - 1 - i) : Int)
def sgT (n k : Nat) : List Int := (List.range n).map fun i => sgAt n k i
theorem sgT_len {n k : Nat} : (sgT n k).length = n := by simp [sgT]
theorem sgT_get {n k i : Nat} (h : i < n) : (sgT n k).getD i 0 = sgAt n k i := by
  rw [sgT, List.getD_eq_getElem?_getD, List.getElem?_map, List.getElem?_range h]; rfl
theorem sgAt_two {n k i : Nat} : sgAt n k i = 1 ∨ sgAt n k i = -1 := by
  have := bitT_le (k := k) (j := n - 1 - i)
  unfold sgAt; omega
theorem sgT_all {n k : Nat} : (sgT n k).all (fun x => decide (x = 1) || decide (x = -1)) = true := by
  refine List.all_eq_true.2 fun x hx => ?_
  obtain ⟨i, _, rfl⟩ := List.mem_map.1 hx
  rcases sgAt_two (n := n) (k := k) (i := i) with h | h <;> rw [h] <;> rfl
theorem take_getD' : ∀ {xs : List Int} {j : Nat}, j < xs.length → xs.take (j + 1) = xs.take j ++ [xs.getD j 0]
  | x :: r, 0, _ => by simp
  | x :: r, j + 1, h => by
    have := take_getD' (xs := r) (j := j) (by simpa using h)
    simp only [List.take_succ_cons, List.getD_cons_succ, this, List.cons_append]
theorem sgT_take {n k i : Nat} (h : i < n) : (sgT n k).take (i + 1) = (sgT n k).take i ++ [sgAt n k i] := by
  rw [take_getD' (by rw [sgT_len]; exact h), sgT_get h]
/-- The sign as the program reckons it. -/
theorem sg_prog {n k i : Nat} (hk : k < 2 ^ n) (hi : i < n) : ((((2 ^ n - 1 - k) / 2 ^ (n - 1 - i)) &&& 1 : Nat) : Int) * 2 - 1 = sgAt n k i := by
  rw [bit_and, bit_not hk (by omega), sgAt]
  have := bitT_le (k := k) (j := n - 1 - i)
  omega
theorem sg_ref {n k i : Nat} : 1 - 2 * (((k / 2 ^ (n - 1 - i)) &&& 1 : Nat) : Int) = sgAt n k i := by rw [bit_and, sgAt]
def genusT (n : Nat) (w s : List Int) : Int := ((n : Int) + 2 - (facesT (nextT w s) (2 * n)).length).tdiv 2
/-- The least genus of the first k signs, and the first that have it. -/
def leastK (n : Nat) (w : List Int) : Nat → Int × List Int
  | 0 => (0, [])
  | k + 1 => if (leastK n w k).2 = [] ∨ genusT n w (sgT n k) < (leastK n w k).1 then (genusT n w (sgT n k), sgT n k) else leastK n w k
def leastT (n : Nat) (w : List Int) : Int × List Int := leastK n w (2 ^ n)
theorem leastK_yes {n : Nat} {w : List Int} {k : Nat} (h : (leastK n w k).2 = [] ∨ genusT n w (sgT n k) < (leastK n w k).1) : leastK n w (k + 1) = (genusT n w (sgT n k), sgT n k) := by rw [leastK, if_pos h]
theorem leastK_no {n : Nat} {w : List Int} {k : Nat} (h : ¬ ((leastK n w k).2 = [] ∨ genusT n w (sgT n k) < (leastK n w k).1)) : leastK n w (k + 1) = leastK n w k := by rw [leastK, if_neg h]
def allT (n : Nat) (k : Nat) : List (List Int) := (List.range k).map fun i => sgT n i
theorem allT_len {n k : Nat} : (allT n k).length = k := by simp [allT]
theorem allT_get {n k i : Nat} (h : i < k) : (allT n k).getD i [] = sgT n i := by
  rw [allT, List.getD_eq_getElem?_getD, List.getElem?_map, List.getElem?_range h]; rfl
theorem allT_succ {n k : Nat} : allT n (k + 1) = allT n k ++ [sgT n k] := by
  rw [allT, allT, List.range_succ, List.map_append]; rfl
end Go.Scr
/- The faces of a word with signs: the document's; the genus. No condition. -/
namespace Go.Proofs.Ytdfajcfkdfjoeab
open Go Go.Vc Go.Scr
set_option linter.unusedVariables false
set_option linter.unusedSimpArgs false

theorem facesT_len {nx : Int → Int} {m : Nat} : (facesT nx m).length ≤ 2 * m := facesK_len _
theorem genus_rg {n : Nat} {w s : List Int} (hn : n ≤ 10) : -100 ≤ ((n : Int) + 2 - (facesT (nextT w s) (2 * n)).length) ∧ -100 ≤ genusT n w s ∧ genusT n w s ≤ 100 := by
  have h := facesT_len (nx := nextT w s) (m := 2 * n)
  unfold genusT
  by_cases h0 : 0 ≤ (n : Int) + 2 - (facesT (nextT w s) (2 * n)).length
  · rw [Int.tdiv_eq_ediv_of_nonneg h0]; omega
  · have : ((n : Int) + 2 - (facesT (nextT w s) (2 * n)).length).tdiv 2 = -((-((n : Int) + 2 - (facesT (nextT w s) (2 * n)).length)).tdiv 2) := by rw [Int.neg_tdiv, Int.neg_neg]
    rw [this, Int.tdiv_eq_ediv_of_nonneg (by omega)]; omega
theorem genus_at {w s : List Int} {n : Nat} (h : Word w n) (hn : n ≤ 10) (hs : signsB s n = true) : FnAt Try.prog false 17 [curveT n w, .arr (.int .i64) s] (.lit (.int .i64 (genusT n w s))) [] := by
  have hf := faces_at h hn hs
  have hfl := facesT_len (nx := nextT w s) (m := 2 * n)
  have hg := genus_rg (w := w) (s := s) hn
  unfold genusT at hg ⊢
  obtain ⟨F, hF⟩ : ∃ F, F = facesT (nextT w s) (2 * n) := ⟨_, rfl⟩
  rw [← hF] at hf hfl hg ⊢
  have hfl' : @List.length (Ty.sl (.int .i64)).T F ≤ 2 * (2 * n) := hfl
  refine FnAt.of_body tys_ok Try.func17 (by rfl) rfl Try.ntmps17 (by rw [Try.results17]) (by simp) ?_
  
  repeat' (first
 | refine W.seq ?_
 | refine W.block ?_
 | (refine W.drawPh (id := 1) tys_ok [] mixed [0, 1, 2, 4, 8, 0, 0, 96, 128, 272, 512, 2047] [([0, 1, 2, 3, 4, 5, 6], 1, 255), ([], 1, 511), ([9, 10, 11], 0, 4095)] (by decide +kernel) ?_; conv => whnf)
 | (refine W.region tys_ok [] ?_; conv => whnf)
 | (refine W.drawAll tys_ok [] mixed rfl ?_; conv => whnf)
 | (refine W.ret ?_; conv => whnf)
 | (refine W.skip ?_; conv => whnf)
 | (refine W.exit ?_; conv => whnf)
 | (refine call_at (al := false) (hf) rfl rfl rfl rfl ?_; conv => whnf)

    | (refine Both.mk ?_ ?_ <;> (conv => whnf))
    | (refine subF.leaf ?_ <;> (conv => whnf) <;> repeat' (first
 | exact trivial
 | (with_reducible rfl)
 | ((with_reducible refine And.intro ?_ ?_) <;> conv => whnf)
 | omega
 | rfl
 | (refine congrArg (SV.arr _) ?_)
 | (refine congrArg (Value.int _) ?_)
 | (refine congrArg Value.bool ?_)))
 | (refine subF.side ?_ <;> (conv => whnf) <;> repeat' (first
 | exact trivial
 | (with_reducible rfl)
 | ((with_reducible refine And.intro ?_ ?_) <;> conv => whnf)
 | omega
 | rfl
 | (refine congrArg (SV.arr _) ?_)
 | (refine congrArg (Value.int _) ?_)
 | (refine congrArg Value.bool ?_)))
 | (refine W.cond rfl (fun hb => ?_) (fun hb => ?_) <;> (try simp only [Int.reduceToNat, Int.reduceTDiv, Int.reduceTMod, minL, maxL, pickB, zHB] at hb) <;> (try (first | (cases hb; done) | exact absurd hb (by decide) | (exfalso; omega))))
 | ((with_reducible refine And.intro ?_ ?_); (focus ((repeat' (first | (with_reducible rfl) | (with_reducible refine And.intro ?_ ?_) | omega | rfl | exact Or.inl rfl | exact Or.inr rfl | exact of_decide_eq_true rfl | exact Path.imp_of (of_decide_eq_true rfl) | (focus ((try simp only [Int.reduceToNat, Int.reduceTDiv, Int.reduceTMod, minL, maxL, pickB, zHB, InK, Path.imp, List.length_replicate, List.length_set, List.length_append, List.length_cons, List.length_nil] at *); omega)) | (refine app_le rfl ?_; omega))); done)); (conv => whnf))
 | ((with_reducible refine And.intro (Side.out ?_) ?_); rotate_left; (conv => whnf))
 | (refine retF1 ?_ <;> (conv => whnf) <;> repeat' (first
 | exact trivial
 | (with_reducible rfl)
 | ((with_reducible refine And.intro ?_ ?_) <;> conv => whnf)
 | omega
 | rfl
 | (refine congrArg (SV.arr _) ?_)
 | (refine congrArg (Value.int _) ?_)
 | (refine congrArg Value.bool ?_)))
 | (refine retF2 ?_ <;> (conv => whnf) <;> repeat' (first
 | exact trivial
 | (with_reducible rfl)
 | ((with_reducible refine And.intro ?_ ?_) <;> conv => whnf)
 | omega
 | rfl
 | (refine congrArg (SV.arr _) ?_)
 | (refine congrArg (Value.int _) ?_)
 | (refine congrArg Value.bool ?_)))); all_goals (try unfold Side)
  all_goals try (repeat' (first | (with_reducible rfl) | (with_reducible refine And.intro ?_ ?_) | omega | rfl | exact Or.inl rfl | exact Or.inr rfl | exact of_decide_eq_true rfl | exact Path.imp_of (of_decide_eq_true rfl) | (focus ((try simp only [Int.reduceToNat, Int.reduceTDiv, Int.reduceTMod, minL, maxL, pickB, zHB, InK, Path.imp, List.length_replicate, List.length_set, List.length_append, List.length_cons, List.length_nil] at *); omega)) | (refine app_le rfl ?_; omega)))
theorem Faces_ok {w s : List Int} {n : Nat} (h : Word w n) (hn : n ≤ 10) (hs : signsB s n = true) : FnAt Try.prog false 14 [.arr (.int .i64) w, .arr (.int .i64) s] (.tup [.own 0, .lit (.int .i64 0)]) [(0, .row 23 (.sl (.int .i64)) true (facesT (nextT w s) (2 * n)))] := by
  refine FnAt.of_body tys_ok Try.func14 (by rfl) rfl Try.ntmps14 (by rw [Try.results14]) (by simp) ?_
  
  repeat' (first
 | refine W.seq ?_
 | refine W.block ?_
 | (refine W.region tys_ok [] ?_; conv => whnf)
 | (refine W.drawAll tys_ok [] mixed rfl ?_; conv => whnf)
 | (refine W.ret ?_; conv => whnf)
 | (refine W.skip ?_; conv => whnf)
 | (refine W.exit ?_; conv => whnf)
 | (refine call_at (al := true) (signed_ok h hn hs) rfl rfl rfl rfl ?_; conv => whnf)
 | (refine call_at (al := false) (faces_at h hn hs) rfl rfl rfl rfl ?_; conv => whnf)

    | (refine W.cond rfl (fun hb => ?_) (fun hb => ?_) <;> (try simp only [Int.reduceToNat, Int.reduceTDiv, Int.reduceTMod, minL, maxL, pickB, zHB] at hb) <;> (try (first | (cases hb; done) | exact absurd hb (by decide) | (exfalso; omega))))
    | ((with_reducible refine And.intro ?_ ?_); (focus ((repeat' (first | (with_reducible rfl) | (with_reducible refine And.intro ?_ ?_) | omega | rfl | exact Or.inl rfl | exact Or.inr rfl | exact of_decide_eq_true rfl | exact Path.imp_of (of_decide_eq_true rfl) | (focus ((try simp only [Int.reduceToNat, Int.reduceTDiv, Int.reduceTMod, minL, maxL, pickB, zHB, InK, Path.imp, List.length_replicate, List.length_set, List.length_append, List.length_cons, List.length_nil] at *); omega)) | (refine app_le rfl ?_; omega))); done)); (conv => whnf))
    | ((with_reducible refine And.intro (Side.out ?_) ?_); rotate_left; (conv => whnf))
    | (refine retF1 ?_ <;> (conv => whnf) <;> repeat' (first
 | exact trivial
 | (with_reducible rfl)
 | ((with_reducible refine And.intro ?_ ?_) <;> conv => whnf)
 | omega
 | rfl
 | (refine congrArg (SV.arr _) ?_)
 | (refine congrArg (Value.int _) ?_)
 | (refine congrArg Value.bool ?_)))
 | (refine retF2 ?_ <;> (conv => whnf) <;> repeat' (first
 | exact trivial
 | (with_reducible rfl)
 | ((with_reducible refine And.intro ?_ ?_) <;> conv => whnf)
 | omega
 | rfl
 | (refine congrArg (SV.arr _) ?_)
 | (refine congrArg (Value.int _) ?_)
 | (refine congrArg Value.bool ?_)))); all_goals (try unfold Side)
  all_goals try (repeat' (first | (with_reducible rfl) | (with_reducible refine And.intro ?_ ?_) | omega | rfl | exact Or.inl rfl | exact Or.inr rfl | exact of_decide_eq_true rfl | exact Path.imp_of (of_decide_eq_true rfl) | (focus ((try simp only [Int.reduceToNat, Int.reduceTDiv, Int.reduceTMod, minL, maxL, pickB, zHB, InK, Path.imp, List.length_replicate, List.length_set, List.length_append, List.length_cons, List.length_nil] at *); omega)) | (refine app_le rfl ?_; omega)))
/-- Why a word with signs is refused. -/
def whyT (w s : List Int) : Int := if ¬ checkT w = 0 then checkT w else if signsB s (w.length / 2) = true then 0 else 2
theorem whyT_ok {w s : List Int} (h : whyT w s = 0) : ∃ n, Word w n ∧ n ≤ 10 ∧ signsB s n = true := by
  unfold whyT at h
  split at h
  · rename_i h1; exact absurd h h1
  · rename_i h1
    obtain ⟨n, hw, hn⟩ := checkT_ok (Classical.not_not.1 h1)
    have := hw.len
    rw [show w.length / 2 = n by omega] at h
    split at h
    · rename_i h2; exact ⟨n, hw, hn, h2⟩
    · cases h
theorem signed_no {w s : List Int} (h : ¬ whyT w s = 0) (hl : w.length ≤ 1000) (hs : s.length ≤ 1000) : FnAt Try.prog true 16 [.arr (.int .i64) w, .arr (.int .i64) s] (.tup [.lit (.pointer none), .lit (.int .i64 (whyT w s))]) [] := by
  by_cases hc : checkT w = 0
  · obtain ⟨n, hw, hn⟩ := checkT_ok hc
    have hwl := hw.len
    have e : whyT w s = if signsB s n = true then 0 else 2 := by rw [whyT, if_neg (fun h => h hc), show w.length / 2 = n by omega]
    cases hb : signsB s n with
    | true => rw [hb, if_pos rfl] at e; exact absurd e h
    | false =>
      rw [hb, if_neg (by decide)] at e
      rw [e]
      exact signed_form hw hn hb hs
  · have e : whyT w s = checkT w := by rw [whyT, if_pos hc]
    rw [e]
    exact signed_bad hc hl
theorem Faces_no {w s : List Int} (h : ¬ whyT w s = 0) (hl : w.length ≤ 1000) (hs : s.length ≤ 1000) : FnAt Try.prog false 14 [.arr (.int .i64) w, .arr (.int .i64) s] (.tup [.own 0, .lit (.int .i64 (whyT w s))]) [(0, .row 23 (.sl (.int .i64)) true [])] := by
  refine FnAt.of_body tys_ok Try.func14 (by rfl) rfl Try.ntmps14 (by rw [Try.results14]) (by simp) ?_
  
  repeat' (first
 | refine W.seq ?_
 | refine W.block ?_
 | (refine W.region tys_ok [] ?_; conv => whnf)
 | (refine W.drawAll tys_ok [] mixed rfl ?_; conv => whnf)
 | (refine W.ret ?_; conv => whnf)
 | (refine W.skip ?_; conv => whnf)
 | (refine W.exit ?_; conv => whnf)
 | (refine call_at (al := true) (signed_no h hl hs) rfl rfl rfl rfl ?_; conv => whnf)

    | (refine W.cond rfl (fun hb => ?_) (fun hb => ?_) <;> (try simp only [Int.reduceToNat, Int.reduceTDiv, Int.reduceTMod, minL, maxL, pickB, zHB] at hb) <;> (try (first | (cases hb; done) | exact absurd hb (by decide) | (exfalso; omega))))
    | ((with_reducible refine And.intro ?_ ?_); (focus ((repeat' (first | (with_reducible rfl) | (with_reducible refine And.intro ?_ ?_) | omega | rfl | exact Or.inl rfl | exact Or.inr rfl | exact of_decide_eq_true rfl | exact Path.imp_of (of_decide_eq_true rfl) | (focus ((try simp only [Int.reduceToNat, Int.reduceTDiv, Int.reduceTMod, minL, maxL, pickB, zHB, InK, Path.imp, List.length_replicate, List.length_set, List.length_append, List.length_cons, List.length_nil] at *); omega)) | (refine app_le rfl ?_; omega))); done)); (conv => whnf))
    | ((with_reducible refine And.intro (Side.out ?_) ?_); rotate_left; (conv => whnf))
    | (refine retF1 ?_ <;> (conv => whnf) <;> repeat' (first
 | exact trivial
 | (with_reducible rfl)
 | ((with_reducible refine And.intro ?_ ?_) <;> conv => whnf)
 | omega
 | rfl
 | (refine congrArg (SV.arr _) ?_)
 | (refine congrArg (Value.int _) ?_)
 | (refine congrArg Value.bool ?_)))
 | (refine retF2 ?_ <;> (conv => whnf) <;> repeat' (first
 | exact trivial
 | (with_reducible rfl)
 | ((with_reducible refine And.intro ?_ ?_) <;> conv => whnf)
 | omega
 | rfl
 | (refine congrArg (SV.arr _) ?_)
 | (refine congrArg (Value.int _) ?_)
 | (refine congrArg Value.bool ?_)))); all_goals (try unfold Side)
  all_goals try (repeat' (first | (with_reducible rfl) | (with_reducible refine And.intro ?_ ?_) | omega | rfl | exact Or.inl rfl | exact Or.inr rfl | exact of_decide_eq_true rfl | exact Path.imp_of (of_decide_eq_true rfl) | (focus ((try simp only [Int.reduceToNat, Int.reduceTDiv, Int.reduceTMod, minL, maxL, pickB, zHB, InK, Path.imp, List.length_replicate, List.length_set, List.length_append, List.length_cons, List.length_nil] at *); omega)) | (refine app_le rfl ?_; omega)))
end Go.Proofs.Ytdfajcfkdfjoeab
/- A number repeated by the library. No condition. -/
namespace Go.Proofs.Ytdfajcfkdfjoeab
open Go Go.Vc Go.Scr
set_option linter.unusedVariables false
set_option linter.unusedSimpArgs false

theorem and_mask {n : Nat} (h : n ≤ 20) : ((((n : Int)).toNat &&& Int.toNat 4294967295 : Nat) : Int) = n := by
  have : n &&& 4294967295 = n := by
    have h2 := Nat.and_two_pow_sub_one_eq_mod n 32
    rw [show 2 ^ 32 - 1 = 4294967295 from rfl] at h2
    rw [h2]; omega
  rw [show Int.toNat 4294967295 = 4294967295 from rfl, Int.toNat_natCast, this]
theorem mul64_at {n : Nat} (h : n ≤ 20) : FnAt Try.prog false 25 [.lit (.int .u64 1), .lit (.int .u64 n)] (.tup [.lit (.int .u64 0), .lit (.int .u64 n)]) [] := by
  have hm := and_mask h
  have h1 : (((1 : Int).toNat &&& Int.toNat 4294967295 : Nat) : Int) = 1 := by decide
  have hz : (0 * (n : Int) + 1 * n / 2 ^ Int.toNat 32) = 0 := by
    rw [show (2 : Int) ^ Int.toNat 32 = 4294967296 from rfl]; omega
  have hz2 : ((n : Int) / 2 ^ Int.toNat 32) = 0 := by
    rw [show (2 : Int) ^ Int.toNat 32 = 4294967296 from rfl]; omega
  have hy : (1 * (n : Int)) = n := by omega
  refine FnAt.of_body tys_ok Try.func25 (by rfl) rfl Try.ntmps25 (by rw [Try.results25]) (by simp) ?_
  
  repeat' (first
 | refine W.seq ?_
 | refine W.block ?_
 | (refine W.resub (x := Code.region 5 _ _) (Γ' := ⟨[(0, .lit (.int .u64 1)), (1, .lit (.int .u64 n)), (6, .lit (.int .u64 1)), (7, .lit (.int .u64 0)), (8, .lit (.int .u64 n)), (9, .lit (.int .u64 0))], []⟩) ?_ (W.region tys_ok [] ?_); rotate_left; (conv => whnf))
 | (refine W.resub (x := Code.region 7 _ _) (Γ' := ⟨[(0, .lit (.int .u64 1)), (1, .lit (.int .u64 n)), (6, .lit (.int .u64 1)), (7, .lit (.int .u64 0)), (8, .lit (.int .u64 n)), (9, .lit (.int .u64 0)), (11, .lit (.int .u64 0))], []⟩) ?_ (W.region tys_ok [] ?_); rotate_left; (conv => whnf))
 | (refine W.resub (x := Code.region 9 _ _) (Γ' := ⟨[(0, .lit (.int .u64 1)), (1, .lit (.int .u64 n)), (6, .lit (.int .u64 1)), (7, .lit (.int .u64 0)), (8, .lit (.int .u64 n)), (9, .lit (.int .u64 0)), (11, .lit (.int .u64 0)), (12, .lit (.int .u64 0)), (13, .lit (.int .u64 0))], []⟩) ?_ (W.region tys_ok [] ?_); rotate_left; (conv => whnf))
 | (refine W.resub (x := Code.region 11 _ _) (Γ' := ⟨[(0, .lit (.int .u64 1)), (1, .lit (.int .u64 n)), (4, .lit (.int .u64 0))], []⟩) ?_ (W.region tys_ok [] ?_); rotate_left; (conv => whnf))
 | (refine W.region tys_ok [] ?_; conv => whnf)
 | (refine W.drawAll tys_ok [] mixed rfl ?_; conv => whnf)
 | (refine W.ret ?_; conv => whnf)
 | (refine W.skip ?_; conv => whnf)
 | (refine W.exit ?_; conv => whnf)

    | (refine W.cond rfl (fun hb => ?_) (fun hb => ?_) <;> (try simp only [Int.reduceToNat, Int.reduceTDiv, Int.reduceTMod, minL, maxL, pickB, zHB] at hb) <;> (try (first | (cases hb; done) | exact absurd hb (by decide) | (exfalso; omega))))
    | ((with_reducible refine And.intro ?_ ?_); (focus ((repeat' (first | (with_reducible rfl) | (with_reducible refine And.intro ?_ ?_) | omega | rfl | exact Or.inl rfl | exact Or.inr rfl | exact of_decide_eq_true rfl | exact Path.imp_of (of_decide_eq_true rfl) | (focus ((try simp only [Int.reduceToNat, Int.reduceTDiv, Int.reduceTMod, minL, maxL, pickB, zHB, InK, Path.imp, List.length_replicate, List.length_set, List.length_append, List.length_cons, List.length_nil] at *); omega)) | (refine app_le rfl ?_; omega))); done)); (conv => whnf))
    | ((with_reducible refine And.intro (Side.out ?_) ?_); rotate_left; (conv => whnf))
    | (refine retF1 ?_ <;> (conv => whnf) <;> repeat' (first
 | exact trivial
 | (with_reducible rfl)
 | ((with_reducible refine And.intro ?_ ?_) <;> conv => whnf)
 | omega
 | rfl
 | (refine congrArg (SV.arr _) ?_)
 | (refine congrArg (Value.int _) ?_)
 | (refine congrArg Value.bool ?_)))
 | (refine retF2 ?_ <;> (conv => whnf) <;> repeat' (first
 | exact trivial
 | (with_reducible rfl)
 | ((with_reducible refine And.intro ?_ ?_) <;> conv => whnf)
 | omega
 | rfl
 | (refine congrArg (SV.arr _) ?_)
 | (refine congrArg (Value.int _) ?_)
 | (refine congrArg Value.bool ?_)))); all_goals (try unfold Side)
  all_goals try (repeat' (first | (with_reducible rfl) | (with_reducible refine And.intro ?_ ?_) | omega | rfl | exact Or.inl rfl | exact Or.inr rfl | exact of_decide_eq_true rfl | exact Path.imp_of (of_decide_eq_true rfl) | (focus ((try simp only [Int.reduceToNat, Int.reduceTDiv, Int.reduceTMod, minL, maxL, pickB, zHB, InK, Path.imp, List.length_replicate, List.length_set, List.length_append, List.length_cons, List.length_nil] at *); omega)) | (refine app_le rfl ?_; omega)))
  all_goals try refine subF.ok ?_ <;> (conv => whnf) <;> repeat' (first
 | exact trivial
 | (with_reducible rfl)
 | ((with_reducible refine And.intro ?_ ?_) <;> conv => whnf)
 | omega
 | rfl
 | (refine congrArg (SV.arr _) ?_)
 | (refine congrArg (Value.int _) ?_)
 | (refine congrArg Value.bool ?_))
  all_goals first | exact hz | exact hz2 | exact hm | exact hy | decide | rfl
theorem mul_at {n : Nat} (h : n ≤ 20) : FnAt Try.prog false 20 [.lit (.int .u64 1), .lit (.int .u64 n)] (.tup [.lit (.int .u64 0), .lit (.int .u64 n)]) [] := by
  refine FnAt.of_body tys_ok Try.func20 (by rfl) rfl Try.ntmps20 (by rw [Try.results20]) (by simp) ?_
  
  repeat' (first
 | refine W.seq ?_
 | refine W.block ?_
 | (refine W.region tys_ok [] ?_; conv => whnf)
 | (refine W.drawAll tys_ok [] mixed rfl ?_; conv => whnf)
 | (refine W.ret ?_; conv => whnf)
 | (refine W.skip ?_; conv => whnf)
 | (refine W.exit ?_; conv => whnf)
 | (refine call_at (al := false) (mul64_at h) rfl rfl rfl rfl ?_; conv => whnf)

    | (refine W.cond rfl (fun hb => ?_) (fun hb => ?_) <;> (try simp only [Int.reduceToNat, Int.reduceTDiv, Int.reduceTMod, minL, maxL, pickB, zHB] at hb) <;> (try (first | (cases hb; done) | exact absurd hb (by decide) | (exfalso; omega))))
    | ((with_reducible refine And.intro ?_ ?_); (focus ((repeat' (first | (with_reducible rfl) | (with_reducible refine And.intro ?_ ?_) | omega | rfl | exact Or.inl rfl | exact Or.inr rfl | exact of_decide_eq_true rfl | exact Path.imp_of (of_decide_eq_true rfl) | (focus ((try simp only [Int.reduceToNat, Int.reduceTDiv, Int.reduceTMod, minL, maxL, pickB, zHB, InK, Path.imp, List.length_replicate, List.length_set, List.length_append, List.length_cons, List.length_nil] at *); omega)) | (refine app_le rfl ?_; omega))); done)); (conv => whnf))
    | ((with_reducible refine And.intro (Side.out ?_) ?_); rotate_left; (conv => whnf))
    | (refine retF1 ?_ <;> (conv => whnf) <;> repeat' (first
 | exact trivial
 | (with_reducible rfl)
 | ((with_reducible refine And.intro ?_ ?_) <;> conv => whnf)
 | omega
 | rfl
 | (refine congrArg (SV.arr _) ?_)
 | (refine congrArg (Value.int _) ?_)
 | (refine congrArg Value.bool ?_)))
 | (refine retF2 ?_ <;> (conv => whnf) <;> repeat' (first
 | exact trivial
 | (with_reducible rfl)
 | ((with_reducible refine And.intro ?_ ?_) <;> conv => whnf)
 | omega
 | rfl
 | (refine congrArg (SV.arr _) ?_)
 | (refine congrArg (Value.int _) ?_)
 | (refine congrArg Value.bool ?_)))); all_goals (try unfold Side)
  all_goals try (repeat' (first | (with_reducible rfl) | (with_reducible refine And.intro ?_ ?_) | omega | rfl | exact Or.inl rfl | exact Or.inr rfl | exact of_decide_eq_true rfl | exact Path.imp_of (of_decide_eq_true rfl) | (focus ((try simp only [Int.reduceToNat, Int.reduceTDiv, Int.reduceTMod, minL, maxL, pickB, zHB, InK, Path.imp, List.length_replicate, List.length_set, List.length_append, List.length_cons, List.length_nil] at *); omega)) | (refine app_le rfl ?_; omega)))
theorem rep_step {n b : Nat} (h0 : 1 ≤ b) (hb : b < n) : ocopyL (List.replicate b (-1 : Int) ++ List.replicate (n - b) 0) b 0 (min (b - 0) (n - b)) = List.replicate (b + min (b - 0) (n - b)) (-1) ++ List.replicate (n - (b + min (b - 0) (n - b))) 0 := by
  obtain ⟨m, hm⟩ : ∃ m, m = min (b - 0) (n - b) := ⟨_, rfl⟩
  rw [← hm]
  have h1 : List.take b (List.replicate b (-1 : Int) ++ List.replicate (n - b) 0) = List.replicate b (-1) := by
    rw [List.take_append_of_le_length (by simp), List.take_of_length_le (by simp)]
  have h2 : List.take m (List.drop 0 (List.replicate b (-1 : Int) ++ List.replicate (n - b) 0)) = List.replicate m (-1) := by
    rw [List.drop_zero, List.take_append_of_le_length (by simp; omega), List.take_replicate, Nat.min_eq_left (by omega)]
  have h3 : List.drop (b + m) (List.replicate b (-1 : Int) ++ List.replicate (n - b) 0) = List.replicate (n - (b + m)) 0 := by
    rw [List.drop_append, List.drop_of_length_le (by simp), List.nil_append, List.drop_replicate, List.length_replicate]
    congr 1; omega
  rw [ocopyL, h1, h2, h3, List.replicate_append_replicate]
set_option maxHeartbeats 4000000 in
theorem repeat_at {n : Nat} (h0 : 1 ≤ n) (h : n ≤ 20) : FnAt Try.prog false 13 [.arr (.int .i64) ([-1] : List Int), .lit (.int .i64 n)] (.own 0) [(0, .row 3 (.int .i64) true (List.replicate n (-1 : Int) : List Int))] := by
  have hl : ∀ b, b ≤ n → @List.length (Ty.int .i64).T (List.replicate b (-1 : Int) ++ List.replicate (n - b) 0) = n := fun b hb => by
    show (List.replicate b (-1 : Int) ++ List.replicate (n - b) 0).length = n
    simp; omega
  obtain ⟨L, hL⟩ : ∃ L : Nat → List Int, L = fun b => List.replicate b (-1 : Int) ++ List.replicate (n - b) 0 := ⟨_, rfl⟩
  have hLl : ∀ b, b ≤ n → @List.length (Ty.int .i64).T (L b) = n := by rw [hL]; exact hl
  have hLn : L n = List.replicate n (-1) := by rw [hL]; simp
  have hLs : ∀ b, 1 ≤ b → b < n → ocopyL (L b) b 0 (min (b - 0) (n - b)) = L (b + min (b - 0) (n - b)) := fun b h1 h2 => by rw [hL]; exact rep_step h1 h2
  have hm1 : ((min ([-1] : List Int).length (List.replicate n (0 : Int)).length : Nat) : Int) = 1 := by simp; omega
  have hL1 : ([-1] : List Int).take (min ([-1] : List Int).length (List.replicate n (0 : Int)).length) ++ (List.replicate n (0 : Int)).drop (min ([-1] : List Int).length (List.replicate n (0 : Int)).length) = L 1 := by
    have : min ([-1] : List Int).length (List.replicate n (0 : Int)).length = 1 := by simp; omega
    rw [hL, this]; simp [List.drop_replicate]
  refine FnAt.of_body tys_ok Try.func13 (by rfl) rfl Try.ntmps13 (by rw [Try.results13]) (by simp) ?_
  
  repeat' (first
 | refine W.seq ?_
 | refine W.block ?_
 | (refine W.region tys_ok [] ?_; conv => whnf)
 | (refine W.drawAll tys_ok [] mixed rfl ?_; conv => whnf)
 | (refine W.ret ?_; conv => whnf)
 | (refine W.skip ?_; conv => whnf)
 | (refine W.exit ?_; conv => whnf)
 | (refine call_at (al := false) (mul_at h) rfl rfl rfl rfl ?_; conv => whnf)

    | (refine W.cond rfl (fun hb => ?_) (fun hb => ?_) <;> (try simp only [Int.reduceToNat, Int.reduceTDiv, Int.reduceTMod, minL, maxL, pickB, zHB] at hb) <;> (try (first | (cases hb; done) | exact absurd hb (by decide) | (exfalso; omega))))
    | ((with_reducible refine And.intro ?_ ?_); (focus ((repeat' (first | (with_reducible rfl) | (with_reducible refine And.intro ?_ ?_) | omega | rfl | exact Or.inl rfl | exact Or.inr rfl | exact of_decide_eq_true rfl | exact Path.imp_of (of_decide_eq_true rfl) | (focus ((try simp only [Int.reduceToNat, Int.reduceTDiv, Int.reduceTMod, minL, maxL, pickB, zHB, InK, Path.imp, List.length_replicate, List.length_set, List.length_append, List.length_cons, List.length_nil] at *); omega)) | (refine app_le rfl ?_; omega))); done)); (conv => whnf))
    | ((with_reducible refine And.intro (Side.out ?_) ?_); rotate_left; (conv => whnf))
    | (refine retF1 ?_ <;> (conv => whnf) <;> repeat' (first
 | exact trivial
 | (with_reducible rfl)
 | ((with_reducible refine And.intro ?_ ?_) <;> conv => whnf)
 | omega
 | rfl
 | (refine congrArg (SV.arr _) ?_)
 | (refine congrArg (Value.int _) ?_)
 | (refine congrArg Value.bool ?_)))
 | (refine retF2 ?_ <;> (conv => whnf) <;> repeat' (first
 | exact trivial
 | (with_reducible rfl)
 | ((with_reducible refine And.intro ?_ ?_) <;> conv => whnf)
 | omega
 | rfl
 | (refine congrArg (SV.arr _) ?_)
 | (refine congrArg (Value.int _) ?_)
 | (refine congrArg Value.bool ?_)))); all_goals (try unfold Side)
  all_goals try (repeat' (first | (with_reducible rfl) | (with_reducible refine And.intro ?_ ?_) | omega | rfl | exact Or.inl rfl | exact Or.inr rfl | exact of_decide_eq_true rfl | exact Path.imp_of (of_decide_eq_true rfl) | (focus ((try simp only [Int.reduceToNat, Int.reduceTDiv, Int.reduceTMod, minL, maxL, pickB, zHB, InK, Path.imp, List.length_replicate, List.length_set, List.length_append, List.length_cons, List.length_nil] at *); omega)) | (refine app_le rfl ?_; omega)))
  refine W.loop (fun b : Nat => ⟨[(7, .own 900007), (8, .lit (.int .i64 ((b : Int))))], [(900007, .row 3 (.int .i64) true ((L b) : List Int))]⟩) (fun b => 1 ≤ b ∧ b ≤ n) (fun b => n - b) (1) ?_ ?_
  · refine ⟨⟨Nat.le_refl _, h0⟩, ?_⟩
    refine subF.ok ?_ <;> (conv => whnf) <;> repeat' (first
 | exact trivial
 | (with_reducible rfl)
 | ((with_reducible refine And.intro ?_ ?_) <;> conv => whnf)
 | omega
 | rfl
 | (refine congrArg (SV.arr _) ?_)
 | (refine congrArg (Value.int _) ?_)
 | (refine congrArg Value.bool ?_))
    all_goals first | exact hm1 | exact hL1
  · rintro b ⟨hb1, hb2⟩
    have hl1 := hLl b hb2
    by_cases hbn : b < n
    · have hs := hLs b hb1 hbn
      obtain ⟨m, hm⟩ : ∃ m, m = min (b - 0) (n - b) := ⟨_, rfl⟩
      have hs2 : ocopyL (L b) b 0 (min (b - 0) (@List.length (Ty.int .i64).T (L b) - b)) = L (b + m) := by rw [hl1, hm]; exact hs
      have hm2 : (b : Int) + (min (b - 0) (@List.length (Ty.int .i64).T (L b) - b) : Nat) = (b + m : Nat) := by rw [hl1, ← hm]; omega
      have hik : InK .i64 ((b : Int) + (min (b - 0) (@List.length (Ty.int .i64).T (L b) - b) : Nat)) := by rw [hm2]; simp only [InK]; omega
      repeat' (first
 | refine W.seq ?_
 | refine W.block ?_
 | (refine W.drawPh (id := 9) tys_ok [] mixed [0, 0, 0, 6, 0, 0, 48, 72, 129, 511] [([0, 1, 2, 4, 5], 2, 127), ([], 1, 255), ([8, 9], 0, 1023)] (by decide +kernel) ?_; conv => whnf)
 | (refine W.region tys_ok [] ?_; conv => whnf)
 | (refine W.drawAll tys_ok [] mixed rfl ?_; conv => whnf)
 | (refine W.ret ?_; conv => whnf)
 | (refine W.skip ?_; conv => whnf)
 | (refine W.exit ?_; conv => whnf)

    | (refine Both.mk ?_ ?_ <;> (conv => whnf))
    | (refine subF.leaf ?_ <;> (conv => whnf) <;> repeat' (first
 | exact trivial
 | (with_reducible rfl)
 | ((with_reducible refine And.intro ?_ ?_) <;> conv => whnf)
 | omega
 | rfl
 | (refine congrArg (SV.arr _) ?_)
 | (refine congrArg (Value.int _) ?_)
 | (refine congrArg Value.bool ?_)))
 | (refine subF.side ?_ <;> (conv => whnf) <;> repeat' (first
 | exact trivial
 | (with_reducible rfl)
 | ((with_reducible refine And.intro ?_ ?_) <;> conv => whnf)
 | omega
 | rfl
 | (refine congrArg (SV.arr _) ?_)
 | (refine congrArg (Value.int _) ?_)
 | (refine congrArg Value.bool ?_)))
 | (refine W.cond rfl (fun hb => ?_) (fun hb => ?_) <;> (try simp only [Int.reduceToNat, Int.reduceTDiv, Int.reduceTMod, minL, maxL, pickB, zHB] at hb) <;> (try (first | (cases hb; done) | exact absurd hb (by decide) | (exfalso; omega))))
 | ((with_reducible refine And.intro ?_ ?_); (focus ((repeat' (first | (with_reducible rfl) | (with_reducible refine And.intro ?_ ?_) | omega | rfl | exact Or.inl rfl | exact Or.inr rfl | exact of_decide_eq_true rfl | exact Path.imp_of (of_decide_eq_true rfl) | (focus ((try simp only [Int.reduceToNat, Int.reduceTDiv, Int.reduceTMod, minL, maxL, pickB, zHB, InK, Path.imp, List.length_replicate, List.length_set, List.length_append, List.length_cons, List.length_nil] at *); omega)) | (refine app_le rfl ?_; omega))); done)); (conv => whnf))
 | ((with_reducible refine And.intro (Side.out ?_) ?_); rotate_left; (conv => whnf))
 | (refine retF1 ?_ <;> (conv => whnf) <;> repeat' (first
 | exact trivial
 | (with_reducible rfl)
 | ((with_reducible refine And.intro ?_ ?_) <;> conv => whnf)
 | omega
 | rfl
 | (refine congrArg (SV.arr _) ?_)
 | (refine congrArg (Value.int _) ?_)
 | (refine congrArg Value.bool ?_)))
 | (refine retF2 ?_ <;> (conv => whnf) <;> repeat' (first
 | exact trivial
 | (with_reducible rfl)
 | ((with_reducible refine And.intro ?_ ?_) <;> conv => whnf)
 | omega
 | rfl
 | (refine congrArg (SV.arr _) ?_)
 | (refine congrArg (Value.int _) ?_)
 | (refine congrArg Value.bool ?_)))); all_goals (try unfold Side)
      all_goals try (repeat' (first | (with_reducible rfl) | (with_reducible refine And.intro ?_ ?_) | omega | rfl | exact Or.inl rfl | exact Or.inr rfl | exact of_decide_eq_true rfl | exact Path.imp_of (of_decide_eq_true rfl) | (focus ((try simp only [Int.reduceToNat, Int.reduceTDiv, Int.reduceTMod, minL, maxL, pickB, zHB, InK, Path.imp, List.length_replicate, List.length_set, List.length_append, List.length_cons, List.length_nil] at *); omega)) | (refine app_le rfl ?_; omega)))
      all_goals try exact Path.imp_of hik
      all_goals (refine ⟨b + m, ⟨⟨by omega, by omega⟩, by omega⟩, ?_⟩)
      all_goals refine subF.ok ?_ <;> (conv => whnf) <;> repeat' (first
 | exact trivial
 | (with_reducible rfl)
 | ((with_reducible refine And.intro ?_ ?_) <;> conv => whnf)
 | omega
 | rfl
 | (refine congrArg (SV.arr _) ?_)
 | (refine congrArg (Value.int _) ?_)
 | (refine congrArg Value.bool ?_))
      all_goals first | exact hs2 | exact hm2
    · have hbe : n = b := by omega
      subst hbe
      repeat' (first
 | refine W.seq ?_
 | refine W.block ?_
 | (refine W.region tys_ok [] ?_; conv => whnf)
 | (refine W.drawAll tys_ok [] mixed rfl ?_; conv => whnf)
 | (refine W.ret ?_; conv => whnf)
 | (refine W.skip ?_; conv => whnf)
 | (refine W.exit ?_; conv => whnf)

    | (refine W.cond rfl (fun hb => ?_) (fun hb => ?_) <;> (try simp only [Int.reduceToNat, Int.reduceTDiv, Int.reduceTMod, minL, maxL, pickB, zHB] at hb) <;> (try (first | (cases hb; done) | exact absurd hb (by decide) | (exfalso; omega))))
    | ((with_reducible refine And.intro ?_ ?_); (focus ((repeat' (first | (with_reducible rfl) | (with_reducible refine And.intro ?_ ?_) | omega | rfl | exact Or.inl rfl | exact Or.inr rfl | exact of_decide_eq_true rfl | exact Path.imp_of (of_decide_eq_true rfl) | (focus ((try simp only [Int.reduceToNat, Int.reduceTDiv, Int.reduceTMod, minL, maxL, pickB, zHB, InK, Path.imp, List.length_replicate, List.length_set, List.length_append, List.length_cons, List.length_nil] at *); omega)) | (refine app_le rfl ?_; omega))); done)); (conv => whnf))
    | ((with_reducible refine And.intro (Side.out ?_) ?_); rotate_left; (conv => whnf))
    | (refine retF1 ?_ <;> (conv => whnf) <;> repeat' (first
 | exact trivial
 | (with_reducible rfl)
 | ((with_reducible refine And.intro ?_ ?_) <;> conv => whnf)
 | omega
 | rfl
 | (refine congrArg (SV.arr _) ?_)
 | (refine congrArg (Value.int _) ?_)
 | (refine congrArg Value.bool ?_)))
 | (refine retF2 ?_ <;> (conv => whnf) <;> repeat' (first
 | exact trivial
 | (with_reducible rfl)
 | ((with_reducible refine And.intro ?_ ?_) <;> conv => whnf)
 | omega
 | rfl
 | (refine congrArg (SV.arr _) ?_)
 | (refine congrArg (Value.int _) ?_)
 | (refine congrArg Value.bool ?_)))); all_goals (try unfold Side)
      all_goals try (repeat' (first | (with_reducible rfl) | (with_reducible refine And.intro ?_ ?_) | omega | rfl | exact Or.inl rfl | exact Or.inr rfl | exact of_decide_eq_true rfl | exact Path.imp_of (of_decide_eq_true rfl) | (focus ((try simp only [Int.reduceToNat, Int.reduceTDiv, Int.reduceTMod, minL, maxL, pickB, zHB, InK, Path.imp, List.length_replicate, List.length_set, List.length_append, List.length_cons, List.length_nil] at *); omega)) | (refine app_le rfl ?_; omega)))
      all_goals exact hLn
end Go.Proofs.Ytdfajcfkdfjoeab
/- Permutations of the numbers below N, and the parity of the number of their cycles. No condition. -/
namespace Go.Scr
set_option linter.unusedVariables false
set_option linter.unusedSimpArgs false

structure Pm (f : Nat → Nat) (N : Nat) : Prop where
  lt : ∀ x, x < N → f x < N
  inj : ∀ x y, x < N → y < N → f x = f y → x = y
/-- The map with the number N taken out of its cycle. -/
def del (f : Nat → Nat) (N : Nat) : Nat → Nat := fun x => if f x = N then f N else f x
/-- The number of cycles. -/
def cyc (f : Nat → Nat) : Nat → Nat
  | 0 => 0
  | N + 1 => cyc (del f N) N + if f N = N then 1 else 0
termination_by N => N
/-- The map with two values exchanged. -/
def sw (a b : Nat) (f : Nat → Nat) : Nat → Nat := fun x => if x = a then f b else if x = b then f a else f x

theorem del_congr {f g : Nat → Nat} {N : Nat} (h : ∀ x, x < N + 1 → f x = g x) : ∀ x, x < N → del f N x = del g N x := fun x hx => by
  unfold del; rw [h x (by omega), h N (by omega)]
theorem cyc_congr : ∀ {N : Nat} {f g : Nat → Nat}, (∀ x, x < N → f x = g x) → cyc f N = cyc g N
  | 0, f, g, h => by rw [cyc, cyc]
  | N + 1, f, g, h => by rw [cyc, cyc, cyc_congr (del_congr h), h N (by omega)]
theorem Pm.del {f : Nat → Nat} {N : Nat} (h : Pm f (N + 1)) : Pm (del f N) N := by
  refine ⟨fun x hx => ?_, fun x y hx hy e => ?_⟩
  · have h1 := h.lt x (by omega)
    have h2 := h.lt N (by omega)
    unfold Scr.del; split
    · rename_i h3
      have : f N ≠ N := fun e => by have := h.inj x N (by omega) (by omega) (by rw [h3, e]); omega
      omega
    · omega
  · unfold Scr.del at e
    split at e <;> rename_i h1 <;> split at e <;> rename_i h2
    · exact h.inj x y (by omega) (by omega) (by rw [h1, h2])
    · have := h.inj N y (by omega) (by omega) e; omega
    · have := h.inj x N (by omega) (by omega) e; omega
    · exact h.inj x y (by omega) (by omega) e
theorem Pm.onto : ∀ {N : Nat} {f : Nat → Nat}, Pm f N → ∀ y, y < N → ∃ x, x < N ∧ f x = y
  | 0, f, h, y, hy => by omega
  | N + 1, f, h, y, hy => by
    by_cases hN : f N = y
    · exact ⟨N, by omega, hN⟩
    · by_cases hy2 : y = N
      · subst hy2
        -- f y ≠ y, below y: the value f y is taken by no other; del f has f y in its range
        have h3 := h.lt y (by omega)
        obtain ⟨x, hx, h4⟩ := Pm.onto h.del (f y) (by omega)
        unfold Scr.del at h4
        split at h4
        · rename_i h5; exact ⟨x, by omega, h5⟩
        · have := h.inj x y (by omega) (by omega) h4; omega
      · obtain ⟨x, hx, h4⟩ := Pm.onto h.del y (by omega)
        unfold Scr.del at h4
        split at h4
        · exact absurd h4 hN
        · exact ⟨x, by omega, h4⟩
theorem Pm.sw {f : Nat → Nat} {N a b : Nat} (h : Pm f N) (ha : a < N) (hb : b < N) : Pm (sw a b f) N := by
  refine ⟨fun x hx => ?_, fun x y hx hy e => ?_⟩
  · unfold Scr.sw; split
    · exact h.lt b hb
    · split
      · exact h.lt a ha
      · exact h.lt x hx
  · unfold Scr.sw at e
    have k := fun u v hu hv => h.inj u v hu hv
    split at e <;> rename_i h1
    · split at e <;> rename_i h2
      · omega
      · split at e <;> rename_i h3
        · have := k b a hb ha e; omega
        · have := k b y hb hy e; omega
    · split at e <;> rename_i h2
      · split at e <;> rename_i h3
        · have := k a b ha hb e; omega
        · split at e <;> rename_i h4
          · omega
          · have := k a y ha hy e; omega
      · split at e <;> rename_i h3
        · have := k x b hx hb e; omega
        · split at e <;> rename_i h4
          · have := k x a hx ha e; omega
          · exact k x y hx hy e
/-- Exchanging two values changes the parity of the number of cycles. -/
theorem flip : ∀ {N : Nat} {f : Nat → Nat} {a b : Nat}, Pm f N → a < b → b < N → (cyc (sw a b f) N + cyc f N) % 2 = 1
  | 0, f, a, b, h, hab, hb => by omega
  | N + 1, f, a, b, h, hab, hb => by
    rw [cyc, cyc]
    by_cases hbN : b = N
    · subst hbN
      have e1 : sw a b f b = f a := by unfold sw; rw [if_neg (by omega), if_pos rfl]
      have ia := fun x (hx : x < b + 1) (e : f x = f a) => h.inj x a hx (by omega) e
      by_cases h1 : f b = b
      · have h2 : f a ≠ b := fun e => by have := h.inj a b (by omega) (by omega) (by rw [e, h1]); omega
        rw [if_pos h1, e1, if_neg h2]
        have : cyc (del (sw a b f) b) b = cyc (del f b) b := by
          refine cyc_congr fun x hx => ?_
          have hxb : f x ≠ b := fun e => by have := h.inj x b (by omega) (by omega) (by rw [e, h1]); omega
          unfold del; rw [e1, if_neg hxb]
          by_cases hxa : x = a
          · subst hxa; rw [show sw x b f x = f b from if_pos rfl, if_pos h1]
          · rw [show sw a b f x = f x by unfold sw; rw [if_neg hxa, if_neg (by omega)], if_neg hxb]
        omega
      · by_cases h2 : f a = b
        · rw [if_neg h1, e1, if_pos h2]
          have : cyc (del (sw a b f) b) b = cyc (del f b) b := by
            refine cyc_congr fun x hx => ?_
            unfold del; rw [e1]
            by_cases hxa : x = a
            · subst hxa; rw [show sw x b f x = f b from if_pos rfl, if_neg h1, if_pos h2]
            · have hxb : f x ≠ b := fun e => by have := ia x (by omega) (by rw [e, h2]); omega
              rw [show sw a b f x = f x by unfold sw; rw [if_neg hxa, if_neg (by omega)], if_neg hxb, if_neg hxb]
          omega
        · rw [if_neg h1, e1, if_neg h2]
          obtain ⟨r, hr, hrb⟩ := h.onto b (by omega)
          have hr2 : r < b := by
            by_cases e : r = b
            · subst e; exact absurd hrb h1
            · omega
          have hra : r ≠ a := fun e => by subst e; exact h2 hrb
          have : cyc (del (sw a b f) b) b = cyc (sw (min a r) (max a r) (del f b)) b := by
            refine cyc_congr fun x hx => ?_
            have s : sw (min a r) (max a r) (del f b) x = if x = a then del f b r else if x = r then del f b a else del f b x := by
              unfold sw
              by_cases har : a < r
              · rw [Nat.min_eq_left (by omega), Nat.max_eq_right (by omega)]
              · rw [Nat.min_eq_right (by omega), Nat.max_eq_left (by omega)]
                split
                · rw [if_neg (by omega)]
                · rfl
            rw [s]
            unfold del; rw [e1]
            by_cases hxa : x = a
            · subst hxa; rw [show sw x b f x = f b from if_pos rfl, if_neg h1, if_pos rfl, if_pos hrb]
            · have e2 : sw a b f x = f x := by unfold sw; rw [if_neg hxa, if_neg (by omega)]
              rw [e2, if_neg hxa]
              by_cases hxr : x = r
              · subst hxr; rw [if_pos hrb, if_pos rfl, if_neg h2]
              · have hxb : f x ≠ b := fun e => by have := h.inj x r (by omega) (by omega) (by rw [e, hrb]); omega
                rw [if_neg hxb, if_neg hxr, if_neg hxb]
          have := flip h.del (a := min a r) (b := max a r) (by omega) (by omega)
          omega
    · have e1 : sw a b f N = f N := by unfold sw; rw [if_neg (by omega), if_neg (by omega)]
      have : cyc (del (sw a b f) N) N = cyc (sw a b (del f N)) N := by
        refine cyc_congr fun x hx => ?_
        unfold del; rw [e1]; unfold sw
        split
        · rfl
        · split <;> rfl
      have := flip h.del hab (show b < N by omega)
      rw [e1]
      omega
theorem cyc_id : ∀ {N : Nat}, cyc (fun x => x) N = N
  | 0 => by rw [cyc]
  | N + 1 => by
    rw [cyc, if_pos rfl, cyc_congr (g := fun x => x) (fun x hx => by unfold del; exact if_neg (show ¬ x = N by omega)), cyc_id]
/-- The number of numbers below k of a kind. -/
noncomputable def cnt (P : Nat → Prop) : Nat → Nat
  | 0 => 0
  | k + 1 => cnt P k + (open Classical in if P k then 1 else 0)
theorem cnt_congr {P Q : Nat → Prop} : ∀ {k : Nat}, (∀ j, j < k → (P j ↔ Q j)) → cnt P k = cnt Q k
  | 0, _ => rfl
  | k + 1, h => by
    rw [cnt, cnt, cnt_congr fun j hj => h j (by omega)]
    by_cases hp : P k
    · rw [if_pos hp, if_pos ((h k (by omega)).1 hp)]
    · rw [if_neg hp, if_neg (mt (h k (by omega)).2 hp)]
theorem cnt_yes {P : Nat → Prop} {k : Nat} (h : P k) : cnt P (k + 1) = cnt P k + 1 := by rw [cnt, if_pos h]
theorem cnt_no {P : Nat → Prop} {k : Nat} (h : ¬ P k) : cnt P (k + 1) = cnt P k := by rw [cnt, if_neg h]; rfl
/-- A number that is the least one of its cycle. -/
def Lead (f : Nat → Nat) (N k : Nat) : Prop := ∃ C : Nat → Bool, (∀ x, x < N → C x = C (f x)) ∧ C k = true ∧ ∀ j, j < k → C j = false
theorem lead_del {f : Nat → Nat} {N k : Nat} (h : Pm f (N + 1)) (hk : k < N) : Lead f (N + 1) k ↔ Lead (del f N) N k := by
  constructor
  · rintro ⟨C, h1, h2, h3⟩
    refine ⟨C, fun x hx => ?_, h2, h3⟩
    unfold del; split
    · rename_i e
      rw [h1 x (by omega), e, h1 N (by omega)]
    · exact h1 x (by omega)
  · rintro ⟨C, h1, h2, h3⟩
    refine ⟨fun x => if x = N then (if f N = N then false else C (f N)) else C x, fun x hx => ?_, ?_, fun j hj => ?_⟩
    · dsimp only
      by_cases hx2 : x = N
      · subst hx2
        rw [if_pos rfl]
        by_cases e : f x = x
        · rw [if_pos e, if_pos e]
        · rw [if_neg e, if_neg e]
      · rw [if_neg hx2]
        have h4 := h1 x (by omega)
        unfold del at h4
        by_cases e : f x = N
        · have : f N ≠ N := fun e2 => hx2 (h.inj x N (by omega) (by omega) (by rw [e, e2]))
          rw [if_pos e] at h4
          rw [if_pos e, if_neg this, h4]
        · rw [if_neg e] at h4
          rw [if_neg e, h4]
    · dsimp only; rw [if_neg (by omega), h2]
    · dsimp only; rw [if_neg (by omega), h3 j hj]
theorem lead_top {f : Nat → Nat} {N : Nat} (h : Pm f (N + 1)) : Lead f (N + 1) N ↔ f N = N := by
  constructor
  · rintro ⟨C, h1, h2, h3⟩
    by_cases e : f N = N
    · exact e
    · have := h.lt N (by omega)
      have h4 := h3 (f N) (by omega)
      rw [← h1 N (by omega), h2] at h4
      cases h4
  · intro e
    refine ⟨fun x => decide (x = N), fun x hx => ?_, by simp, fun j hj => by simp; omega⟩
    have : x = N ↔ f x = N := ⟨fun e2 => by rw [e2, e], fun e2 => h.inj x N hx (by omega) (by rw [e2, e])⟩
    simp [this]
/-- There are as many cycles as numbers that are the least ones of theirs. -/
theorem cyc_lead : ∀ {N : Nat} {f : Nat → Nat}, Pm f N → cyc f N = cnt (Lead f N) N
  | 0, f, h => by rw [cyc, cnt]
  | N + 1, f, h => by
    rw [cyc, cyc_lead h.del, cnt_congr fun j hj => (lead_del h hj).symm]
    by_cases e : f N = N
    · rw [if_pos e, cnt_yes ((lead_top h).2 e)]
    · rw [if_neg e, cnt_no (mt (lead_top h).1 e), Nat.add_zero]
end Go.Scr
/- The faces of a map of steps that is a permutation. No condition. -/
namespace Go.Scr
set_option linter.unusedVariables false
set_option linter.unusedSimpArgs false

/-- A permutation of the steps. -/
structure Pn (nx : Int → Int) (m : Nat) : Prop where
  rg : ∀ s, -(m : Int) ≤ s → s < m → -(m : Int) ≤ nx s ∧ nx s < m
  inj : ∀ x y, -(m : Int) ≤ x → x < m → -(m : Int) ≤ y → y < m → nx x = nx y → x = y
/-- A set of steps that is closed. -/
def Cl (nx : Int → Int) (m : Nat) (C : Int → Bool) : Prop := ∀ x, -(m : Int) ≤ x → x < m → C x = C (nx x)

theorem mem_getD {l : List Int} {i : Nat} (h : i < l.length) : l.getD i 0 ∈ l := by
  rw [List.getD_eq_getElem?_getD, List.getElem?_eq_getElem h]; exact List.getElem_mem h
theorem getD_mem {l : List Int} {x : Int} (h : x ∈ l) : ∃ i, i < l.length ∧ l.getD i 0 = x := by
  obtain ⟨i, hi, e⟩ := List.getElem_of_mem h
  exact ⟨i, hi, by rw [List.getD_eq_getElem?_getD, List.getElem?_eq_getElem hi]; exact e⟩
theorem nodup_get {l : List Int} (h : l.Nodup) {i j : Nat} (hi : i < l.length) (hj : j < l.length) (e : l.getD i 0 = l.getD j 0) : i = j := by
  rw [List.getD_eq_getElem?_getD, List.getElem?_eq_getElem hi, List.getD_eq_getElem?_getD, List.getElem?_eq_getElem hj] at e
  exact (List.getElem_inj h).1 e

structure Fac (nx : Int → Int) (m : Nat) (f : List Int) : Prop where
  ne : f ≠ []
  cl : ∀ x, -(m : Int) ≤ x → x < m → (x ∈ f ↔ nx x ∈ f)
  ch : ∀ C, Cl nx m C → C (f.getD 0 0) = true → ∀ x ∈ f, C x = true
  st : ∀ i, i + 1 < f.length → f.getD (i + 1) 0 = nx (f.getD i 0)
  en : nx (f.getD (f.length - 1) 0) = f.getD 0 0

theorem walk_face {nx : Int → Int} {m : Nat} (h : Pn nx m) {seen : List Int} {b : Int} (h1 : seen.Nodup) (h2 : ∀ x ∈ seen, -(m : Int) ≤ x ∧ x < m)
    (h3 : ∀ x, -(m : Int) ≤ x → x < m → (x ∈ seen ↔ nx x ∈ seen)) (hb0 : -(m : Int) ≤ b) (hb1 : b < m) (hb : ¬ b ∈ seen) :
    Fac nx m (walk nx seen (2 * m + 1) b []) ∧ (walk nx seen (2 * m + 1) b []).getD 0 0 = b ∧ (seen ++ walk nx seen (2 * m + 1) b []).Nodup ∧ ∀ x ∈ seen ++ walk nx seen (2 * m + 1) b [], -(m : Int) ≤ x ∧ x < m := by
  obtain ⟨st, hW, hs, hne, _⟩ := walk_ok h.rg (2 * m + 1) b [] (Wk.init (b := b) h1 h2 hb0 hb1) (by simp)
  generalize walk nx seen (2 * m + 1) b [] = f at *
  have hne : f ≠ [] := fun e => by rcases hne e with h | h; exact hb h; cases h
  have hl : 0 < f.length := List.length_pos_iff.2 hne
  have hrg : ∀ x ∈ f, -(m : Int) ≤ x ∧ x < m := fun x hx => hW.rg x (by simp [hx])
  have hhd : f.getD 0 0 = b := by
    have := hW.hd
    cases f with
    | nil => exact absurd rfl hne
    | cons a l => simpa using this
  have hnd : f.Nodup := (List.nodup_append.1 hW.nd).2.1
  have hdis : ∀ x ∈ f, ¬ x ∈ seen := fun x hx hs => (List.nodup_append.1 hW.nd).2.2 x hs x hx rfl
  have hla := hW.la hne
  have hlast := mem_getD (l := f) (i := f.length - 1) (by omega)
  have hst : st = b := by
    rcases hs with hs | hs
    · rw [hla] at hs
      exact absurd ((h3 _ (hrg _ hlast).1 (hrg _ hlast).2).2 hs) (hdis _ hlast)
    · obtain ⟨i, hi, hie⟩ := getD_mem hs
      cases i with
      | zero => rw [← hie, hhd]
      | succ i =>
        have h5 := hW.ch i hi
        have h6 := mem_getD (l := f) (i := i) (by omega)
        have h7 := h.inj _ _ (hrg _ h6).1 (hrg _ h6).2 (hrg _ hlast).1 (hrg _ hlast).2 (by rw [← h5, hie, hla])
        have := nodup_get hnd (by omega) (by omega) h7
        omega
  refine ⟨⟨hne, fun x hx0 hx1 => ⟨fun hx => ?_, fun hx => ?_⟩, fun C hC hCb => ?_, hW.ch, by rw [← hla, hst, hhd]⟩, hhd, hW.nd, hW.rg⟩
  · obtain ⟨i, hi, hie⟩ := getD_mem hx
    by_cases hi2 : i + 1 < f.length
    · rw [← hie, ← hW.ch i hi2]; exact mem_getD hi2
    · rw [← hie, show i = f.length - 1 by omega, ← hla, hst, ← hhd]; exact mem_getD hl
  · obtain ⟨i, hi, hie⟩ := getD_mem hx
    cases i with
    | zero =>
      have := h.inj x _ hx0 hx1 (hrg _ hlast).1 (hrg _ hlast).2 (by rw [← hie, hhd, ← hst, hla])
      rw [this]; exact hlast
    | succ i =>
      have h6 := mem_getD (l := f) (i := i) (by omega)
      have := h.inj x _ hx0 hx1 (hrg _ h6).1 (hrg _ h6).2 (by rw [← hie, hW.ch i hi])
      rw [this]; exact h6
  · have : ∀ i, i < f.length → C (f.getD i 0) = true := by
      intro i
      induction i with
      | zero => intro _; exact hCb
      | succ i ih =>
        intro hi
        have h6 := mem_getD (l := f) (i := i) (by omega)
        rw [hW.ch i hi, ← hC _ (hrg _ h6).1 (hrg _ h6).2]
        exact ih (by omega)
    intro x hx
    obtain ⟨i, hi, hie⟩ := getD_mem hx
    rw [← hie]; exact this i hi

/-- The same map for numbers from 0. -/
def up (nx : Int → Int) (m : Nat) : Nat → Nat := fun k => (nx ((k : Int) - m) + m).toNat
theorem Pn.up {nx : Int → Int} {m : Nat} (h : Pn nx m) : Pm (up nx m) (2 * m) := by
  refine ⟨fun x hx => ?_, fun x y hx hy e => ?_⟩
  · have := h.rg ((x : Int) - m) (by omega) (by omega)
    unfold Scr.up; omega
  · have h1 := h.rg ((x : Int) - m) (by omega) (by omega)
    have h2 := h.rg ((y : Int) - m) (by omega) (by omega)
    unfold Scr.up at e
    have := h.inj ((x : Int) - m) ((y : Int) - m) (by omega) (by omega) (by omega) (by omega) (by omega)
    omega
/-- What is known of the faces that begin below -m + k. -/
structure FK (nx : Int → Int) (m k : Nat) (F : List (List Int)) : Prop where
  fac : ∀ f ∈ F, Fac nx m f
  nd : F.flatten.Nodup
  rg : ∀ x ∈ F.flatten, -(m : Int) ≤ x ∧ x < m
  all : ∀ j : Nat, j < k → (j : Int) - m ∈ F.flatten
  hd : ∀ f ∈ F, ∀ x ∈ f, f.getD 0 0 ≤ x
  lt : ∀ f ∈ F, f.getD 0 0 < (k : Int) - m
  inc : (F.map fun f => f.getD 0 0).Pairwise (· < ·)
  cnt : F.length = cnt (Lead (up nx m) (2 * m)) k
theorem FK.cl {nx : Int → Int} {m k : Nat} {F : List (List Int)} (h : FK nx m k F) : ∀ x, -(m : Int) ≤ x → x < m → (x ∈ F.flatten ↔ nx x ∈ F.flatten) := fun x h0 h1 => by
  simp only [List.mem_flatten]
  exact ⟨fun ⟨f, hf, hx⟩ => ⟨f, hf, ((h.fac f hf).cl x h0 h1).1 hx⟩, fun ⟨f, hf, hx⟩ => ⟨f, hf, ((h.fac f hf).cl x h0 h1).2 hx⟩⟩
theorem facesK_FK {nx : Int → Int} {m : Nat} (h : Pn nx m) : ∀ k, k ≤ 2 * m → FK nx m k (facesK nx m k)
  | 0, _ => by
    refine ⟨by simp [facesK], by simp [facesK], by simp [facesK], fun j hj => by omega, by simp [facesK], by simp [facesK], by simp [facesK], rfl⟩
  | k + 1, hk => by
    have H := facesK_FK h k (by omega)
    by_cases hb : (k : Int) - m ∈ (facesK nx m k).flatten
    · rw [facesK_skip hb]
      refine ⟨H.fac, H.nd, H.rg, fun j hj => ?_, H.hd, fun f hf => by have := H.lt f hf; omega, H.inc, ?_⟩
      · by_cases e : j = k
        · subst e; exact hb
        · exact H.all j (by omega)
      · rw [cnt_no, H.cnt]
        rintro ⟨C, h1, h2, h3⟩
        obtain ⟨f, hf, hbf⟩ := List.mem_flatten.1 hb
        have hF := H.fac f hf
        have hl : 0 < f.length := List.length_pos_iff.2 hF.ne
        have h0 := H.rg _ (List.mem_flatten.2 ⟨f, hf, mem_getD hl⟩)
        have hlt := H.lt f hf
        have h4 := hF.ch (fun x => ! C (x + m).toNat) (fun x hx0 hx1 => by
          have h5 := h1 (x + m).toNat (by omega)
          have h6 := h.rg x hx0 hx1
          unfold up at h5
          rw [show (((x + m).toNat : Nat) : Int) - m = x by omega] at h5
          show (! C _) = (! C _)
          rw [h5]) (by show (! C _) = true; rw [h3 _ (by omega)]; rfl) _ hbf
        rw [show ((k : Int) - m + m).toNat = k by omega, h2] at h4
        cases h4
    · rw [facesK_push hb]
      obtain ⟨hF, hd, hnd, hrg⟩ := walk_face h H.nd H.rg H.cl (by omega) (by omega) hb
      generalize walk nx (facesK nx m k).flatten (2 * m + 1) ((k : Int) - m) [] = f at *
      have hfl : (facesK nx m k ++ [f]).flatten = (facesK nx m k).flatten ++ f := by simp
      refine ⟨fun g hg => ?_, by rw [hfl]; exact hnd, by rw [hfl]; exact hrg, fun j hj => ?_, fun g hg x hx => ?_, fun g hg => ?_, ?_, ?_⟩
      · rcases List.mem_append.1 hg with hg | hg
        · exact H.fac g hg
        · simp at hg; subst hg; exact hF
      · rw [hfl, List.mem_append]
        by_cases e : j = k
        · subst e; right
          rw [← hd]; exact mem_getD (List.length_pos_iff.2 hF.ne)
        · exact .inl (H.all j (by omega))
      · rcases List.mem_append.1 hg with hg | hg
        · exact H.hd g hg x hx
        · simp at hg; subst hg
          rw [hd]
          by_cases e : (k : Int) - m ≤ x
          · exact e
          · have h0 := hrg x (by simp [hx])
            have := H.all (x + m).toNat (by omega)
            rw [show (((x + m).toNat : Nat) : Int) - m = x by omega] at this
            exact absurd rfl ((List.nodup_append.1 hnd).2.2 x this x hx)
      · rcases List.mem_append.1 hg with hg | hg
        · have := H.lt g hg; omega
        · simp at hg; subst hg; omega
      · rw [List.map_append, List.pairwise_append]
        refine ⟨H.inc, by simp, fun a ha b hb' => ?_⟩
        obtain ⟨g, hg, rfl⟩ := List.mem_map.1 ha
        simp at hb'; subst hb'
        have := H.lt g hg
        have e : f.getD 0 0 = f[0]?.getD 0 := by rw [List.getD_eq_getElem?_getD]
        omega
      · rw [List.length_append, List.length_singleton, cnt_yes, H.cnt]
        refine ⟨fun j => ! decide ((j : Int) - m ∈ (facesK nx m k).flatten), fun x hx => ?_, by simp only [hb, decide_false, Bool.not_false], fun j hj => by simp only [H.all j hj, decide_true, Bool.not_true]⟩
        have h5 := H.cl ((x : Int) - m) (by omega) (by omega)
        have h6 := h.rg ((x : Int) - m) (by omega) (by omega)
        have : ((up nx m x : Nat) : Int) - m = nx ((x : Int) - m) := by unfold up; omega
        dsimp only
        rw [this]
        simp only [h5]
theorem facesT_FK {nx : Int → Int} {m : Nat} (h : Pn nx m) : FK nx m (2 * m) (facesT nx m) := facesK_FK h _ (Nat.le_refl _)
theorem facesT_cyc {nx : Int → Int} {m : Nat} (h : Pn nx m) : (facesT nx m).length = cyc (up nx m) (2 * m) := by
  rw [(facesT_FK h).cnt, cyc_lead h.up]
end Go.Scr
/- The steps at a crossing, and the parity of the number of faces. No condition. -/
namespace Go.Scr
set_option linter.unusedVariables false
set_option linter.unusedSimpArgs false

/-- The edge before a position. -/
def bf (n a : Nat) : Nat := if a = 0 then 2 * n - 1 else a - 1
theorem bf_lt {n a : Nat} (h : a < 2 * n) : bf n a < 2 * n := by unfold bf; split <;> omega
theorem bf_inj {n a b : Nat} (ha : a < 2 * n) (hb : b < 2 * n) (h : bf n a = bf n b) : a = b := by
  unfold bf at h; split at h <;> split at h <;> omega
theorem at_bf {n a : Nat} (h : a < 2 * n) : atT (2 * n) (bf n a : Nat) = a := by
  unfold atT bf
  split
  · rw [if_pos (by omega)]
    rename_i h0; subst h0
    rw [show ((2 * n - 1 : Nat) : Int) + 1 = (2 * n : Nat) by omega, Int.tmod_self]; rfl
  · rw [if_pos (by omega), Int.tmod_eq_emod_of_nonneg (by omega), Int.emod_eq_of_lt (by omega) (by omega)]; omega
theorem at_neg {n a : Nat} (h : a < 2 * n) : atT (2 * n) (-1 - (a : Int)) = a := by
  unfold atT; rw [if_neg (by omega)]; omega
theorem at_cases {n a : Nat} {st : Int} (ha : a < 2 * n) (h0 : -((2 * n : Nat) : Int) ≤ st) (h1 : st < (2 * n : Nat)) (h : atT (2 * n) st = a) : st = (bf n a : Nat) ∨ st = -1 - (a : Int) := by
  unfold atT at h
  split at h
  · left
    unfold bf
    by_cases e : st + 1 = (2 * n : Nat)
    · rw [e, Int.tmod_self] at h; rw [if_pos (by omega)]; omega
    · rw [Int.tmod_eq_emod_of_nonneg (by omega), Int.emod_eq_of_lt (by omega) (by omega)] at h
      rw [if_neg (by omega)]; omega
  · right; omega
theorem tm_bf {n o : Nat} (h : o < 2 * n) : ((o : Int) + (2 * n : Nat) - 1).tmod (2 * n : Nat) = (bf n o : Nat) := by
  rw [Int.tmod_eq_emod_of_nonneg (by omega)]
  unfold bf; split
  · rename_i h0; subst h0
    rw [Int.emod_eq_of_lt (by omega) (by omega)]; omega
  · rw [show (o : Int) + (2 * n : Nat) - 1 = ((o - 1 : Nat) : Int) + (2 * n : Nat) by omega, Int.add_emod_right, Int.emod_eq_of_lt (by omega) (by omega)]

/-- A crossing: the positions of a letter, and where its four steps lead. -/
structure Cr (w s : List Int) (n x p q : Nat) : Prop where
  pq : p < q
  hq : q < 2 * n
  pl : placesT w x = [(p : Int), (q : Int)]
  wp : w.getD p 0 = x
  wq : w.getD q 0 = x
  all : ∀ i, i < 2 * n → w.getD i 0 = x → i = p ∨ i = q
  nx : s.getD x 0 = 1 ∧ nextT w s (bf n p : Nat) = -1 - (bf n q : Nat) ∧ nextT w s (-1 - (p : Int)) = q ∧ nextT w s (bf n q : Nat) = p ∧ nextT w s (-1 - (q : Int)) = -1 - (bf n p : Nat)
    ∨ s.getD x 0 = -1 ∧ nextT w s (bf n p : Nat) = q ∧ nextT w s (-1 - (p : Int)) = -1 - (bf n q : Nat) ∧ nextT w s (bf n q : Nat) = -1 - (bf n p : Nat) ∧ nextT w s (-1 - (q : Int)) = p

theorem cr_of {w s : List Int} {n : Nat} (h : Word w n) (hs : s.all (fun x => decide (x = 1) || decide (x = -1)) = true) (hl : s.length = n) {x : Nat} (hx : x < n) : ∃ p q, Cr w s n x p q := by
  obtain ⟨p, q, hpq, hq, hpl, hwp, hwq, hall⟩ := h.places hx
  refine ⟨p, q, hpq, hq, hpl, hwp, hwq, hall, ?_⟩
  have key : ∀ (st : Int) (a : Nat), a < 2 * n → w.getD a 0 = x → -((2 * n : Nat) : Int) ≤ st → st < (2 * n : Nat) → atT (2 * n) st = a →
      nextT w s st = if decide (0 ≤ st) == (decide (s.getD x 0 = 1) == decide (a = p)) then (-1 : Int) - ((bf n (p + q - a) : Nat) : Int) else ((p + q - a : Nat) : Int) := by
    intro st a ha hwa h0 h1 hat
    obtain ⟨a', x', p', q', H⟩ := at_of h hs hl h0 h1
    have e1 : a' = a := by have := H.at_; omega
    subst e1
    have e2 : x' = x := by have := H.wa; omega
    subst e2
    have e3 := H.pl
    rw [hpl] at e3
    simp at e3
    obtain ⟨e4, e5⟩ := e3
    have e4 : p = p' := by omega
    have e5 : q = q' := by omega
    subst e4 e5
    have h2 := H.hp
    rw [H.nx]
    rw [show (p : Int) + q - a' = ((p + q - a' : Nat) : Int) by omega, tm_bf (by omega)]
  have hm : s.getD x 0 ∈ s := mem_getD (by omega)
  have hsg := List.all_eq_true.1 hs _ hm
  have k1 := key (bf n p : Nat) p (by omega) hwp (by have := bf_lt (n := n) (a := p) (by omega); omega) (by have := bf_lt (n := n) (a := p) (by omega); omega) (at_bf (by omega))
  have k2 := key (-1 - (p : Int)) p (by omega) hwp (by omega) (by omega) (at_neg (by omega))
  have k3 := key (bf n q : Nat) q (by omega) hwq (by have := bf_lt (n := n) (a := q) (by omega); omega) (by have := bf_lt (n := n) (a := q) (by omega); omega) (at_bf (by omega))
  have k4 := key (-1 - (q : Int)) q (by omega) hwq (by omega) (by omega) (at_neg (by omega))
  have hqp : ¬ q = p := by omega
  have n1 : ¬ (0 : Int) ≤ -1 - (p : Int) := by omega
  have n2 : ¬ (0 : Int) ≤ -1 - (q : Int) := by omega
  have p1 : (0 : Int) ≤ (bf n p : Nat) := by omega
  have p2 : (0 : Int) ≤ (bf n q : Nat) := by omega
  rw [show p + q - p = q by omega] at k1 k2
  rw [show p + q - q = p by omega] at k3 k4
  simp only [n1, n2, p1, p2, hqp, decide_true, decide_false] at k1 k2 k3 k4
  have hsg2 : s.getD x 0 = 1 ∨ s.getD x 0 = -1 := by simpa using hsg
  rcases hsg2 with e | e
  · left
    rw [e] at k1 k2 k3 k4
    exact ⟨e, by simpa using k1, by simpa using k2, by simpa using k3, by simpa using k4⟩
  · right
    rw [e] at k1 k2 k3 k4
    exact ⟨e, by simpa using k1, by simpa using k2, by simpa using k3, by simpa using k4⟩

theorem sw_comm {f : Nat → Nat} {a b : Nat} (h : a ≠ b) (x : Nat) : sw a b f x = sw b a f x := by
  unfold sw; split <;> split <;> first | rfl | omega
theorem flip' {N : Nat} {f : Nat → Nat} {a b : Nat} (h : Pm f N) (hab : a ≠ b) (ha : a < N) (hb : b < N) : (cyc (sw a b f) N + cyc f N) % 2 = 1 := by
  by_cases h1 : a < b
  · exact flip h h1 hb
  · rw [cyc_congr fun x _ => sw_comm hab x]; exact flip h (by omega) ha
theorem Pm.congr {f g : Nat → Nat} {N : Nat} (h : Pm f N) (e : ∀ x, x < N → f x = g x) : Pm g N :=
  ⟨fun x hx => by rw [← e x hx]; exact h.lt x hx, fun x y hx hy he => h.inj x y hx hy (by rw [e x hx, e y hy, he])⟩
/-- The first j pairs of numbers exchanged from outside. -/
def chi (N j : Nat) : Nat → Nat := fun k => if k < j ∨ N - j ≤ k then N - 1 - k else k
theorem chi_ok {M : Nat} : ∀ j, j ≤ M → Pm (chi (2 * M) j) (2 * M) ∧ (cyc (chi (2 * M) j) (2 * M) + j) % 2 = 0
  | 0, _ => by
    have e : ∀ x, x < 2 * M → (fun x => x) x = chi (2 * M) 0 x := fun x hx => by unfold chi; exact (if_neg (by omega)).symm
    refine ⟨Pm.congr ⟨fun x hx => hx, fun x y _ _ h => h⟩ e, ?_⟩
    rw [← cyc_congr e, cyc_id]; omega
  | j + 1, hj => by
    obtain ⟨h1, h2⟩ := chi_ok (M := M) j (by omega)
    have e : ∀ x, x < 2 * M → sw j (2 * M - 1 - j) (chi (2 * M) j) x = chi (2 * M) (j + 1) x := fun x hx => by
      unfold sw chi
      by_cases h3 : x = j
      · rw [if_pos h3, if_neg (by omega), if_pos (by omega)]; omega
      · rw [if_neg h3]
        by_cases h4 : x = 2 * M - 1 - j
        · subst h4; rw [if_pos rfl, if_neg (by omega), if_pos (by omega)]; omega
        · rw [if_neg h4]
          by_cases h5 : x < j ∨ 2 * M - j ≤ x
          · have h6 : x < j + 1 ∨ 2 * M - (j + 1) ≤ x := by omega
            rw [if_pos h5, if_pos h6]
          · have h6 : ¬ (x < j + 1 ∨ 2 * M - (j + 1) ≤ x) := by omega
            rw [if_neg h5, if_neg h6]
    refine ⟨(h1.sw (by omega) (by omega)).congr e, ?_⟩
    have := flip' h1 (a := j) (b := 2 * M - 1 - j) (by omega) (by omega) (by omega)
    rw [cyc_congr e] at this
    omega
/-- The map in which the letters below k lead on, and the others back. -/
def nuK (w s : List Int) (k : Nat) (st : Int) : Int := if w.getD (atT w.length st).toNat 0 < k then nextT w s st else -1 - st
theorem rot3 {f g : Nat → Nat} {N a b c d : Nat} (h : Pm f N) (ha : a < N) (hb : b < N) (hc : c < N) (hd : d < N) (hab : a ≠ b) (hac : a ≠ c) (had : a ≠ d) (hbc : b ≠ c) (hbd : b ≠ d) (hcd : c ≠ d)
    (e1 : g a = f c) (e2 : g c = f b) (e3 : g b = f d) (e4 : g d = f a) (e : ∀ x, x < N → x ≠ a → x ≠ b → x ≠ c → x ≠ d → g x = f x) : Pm g N ∧ (cyc g N + cyc f N) % 2 = 1 := by
  have h1 := h.sw (a := a) (b := c) ha hc
  have h2 := h1.sw (a := c) (b := b) hc hb
  have h3 := h2.sw (a := b) (b := d) hb hd
  have eq : ∀ x, x < N → sw b d (sw c b (sw a c f)) x = g x := fun x hx => by
    unfold sw
    by_cases x1 : x = a
    · subst x1; simp [*]
    · by_cases x2 : x = b
      · subst x2; simp [*, Ne.symm hbd, Ne.symm hcd, Ne.symm had]
      · by_cases x3 : x = c
        · subst x3; simp [*, Ne.symm hbc, Ne.symm hab]
        · by_cases x4 : x = d
          · subst x4; simp [*, Ne.symm hbc, Ne.symm hab, Ne.symm hac]
          · simp [*]
  refine ⟨h3.congr eq, ?_⟩
  have f1 := flip' h hac ha hc
  have f2 := flip' h1 (Ne.symm hbc) hc hb
  have f3 := flip' h2 hbd hb hd
  rw [cyc_congr eq] at f3
  omega
theorem nu_ok {w s : List Int} {n : Nat} (h : Word w n) (hs : s.all (fun x => decide (x = 1) || decide (x = -1)) = true) (hl : s.length = n) : ∀ k, k ≤ n → Pm (up (nuK w s k) (2 * n)) (2 * (2 * n)) ∧ (cyc (up (nuK w s k) (2 * n)) (2 * (2 * n)) + k) % 2 = 0
  | 0, _ => by
    have e : ∀ x, x < 2 * (2 * n) → chi (2 * (2 * n)) (2 * n) x = up (nuK w s 0) (2 * n) x := fun x hx => by
      have h1 := atT_lt (m := 2 * n) (st := (x : Int) - (2 * n : Nat)) (by have := h.pos; omega) (by omega) (by omega)
      have h2 := h.rg (atT (2 * n) ((x : Int) - (2 * n : Nat))).toNat (by omega)
      unfold chi up nuK
      have h3 : x < 2 * n ∨ 2 * (2 * n) - 2 * n ≤ x := by omega
      rw [h.len, if_pos h3, if_neg (by omega)]; omega
    obtain ⟨h1, h2⟩ := chi_ok (M := 2 * n) (2 * n) (Nat.le_refl _)
    refine ⟨h1.congr e, ?_⟩
    rw [← cyc_congr e]; omega
  | k + 1, hk => by
    obtain ⟨h1, h2⟩ := nu_ok h hs hl k (by omega)
    obtain ⟨p, q, C⟩ := cr_of h hs hl (x := k) (by omega)
    have hpq := C.pq; have hq := C.hq
    have bp := bf_lt (n := n) (a := p) (by omega)
    have bq := bf_lt (n := n) (a := q) (by omega)
    have bne : bf n p ≠ bf n q := fun e => by have := bf_inj (by omega) (by omega) e; omega
    have upv : ∀ (st : Int) (j : Nat), -((2 * n : Nat) : Int) ≤ st → up (nuK w s j) (2 * n) (st + (2 * n : Nat)).toNat = (nuK w s j st + (2 * n : Nat)).toNat := fun st j h0 => by
      unfold up; rw [show (((st + (2 * n : Nat)).toNat : Nat) : Int) - (2 * n : Nat) = st by omega]
    have old : ∀ (st : Int) (a : Nat), atT (2 * n) st = a → w.getD a 0 = k → nuK w s k st = -1 - st := fun st a ha hw => by
      unfold nuK; rw [h.len, ha, Int.toNat_natCast, hw, if_neg (by omega)]
    have new : ∀ (st : Int) (a : Nat), atT (2 * n) st = a → w.getD a 0 = k → nuK w s (k + 1) st = nextT w s st := fun st a ha hw => by
      unfold nuK; rw [h.len, ha, Int.toNat_natCast, hw, if_pos (by omega)]
    have oA := old _ _ (at_bf (n := n) (a := p) (by omega)) C.wp
    have oB := old _ _ (at_neg (n := n) (a := p) (by omega)) C.wp
    have oC := old _ _ (at_bf (n := n) (a := q) (by omega)) C.wq
    have oD := old _ _ (at_neg (n := n) (a := q) (by omega)) C.wq
    have nA := new _ _ (at_bf (n := n) (a := p) (by omega)) C.wp
    have nB := new _ _ (at_neg (n := n) (a := p) (by omega)) C.wp
    have nC := new _ _ (at_bf (n := n) (a := q) (by omega)) C.wq
    have nD := new _ _ (at_neg (n := n) (a := q) (by omega)) C.wq
    have rest : ∀ x, x < 2 * (2 * n) → x ≠ (((bf n p : Nat) : Int) + (2 * n : Nat)).toNat → x ≠ ((-1 - (p : Int)) + (2 * n : Nat)).toNat → x ≠ (((bf n q : Nat) : Int) + (2 * n : Nat)).toNat → x ≠ ((-1 - (q : Int)) + (2 * n : Nat)).toNat → up (nuK w s (k + 1)) (2 * n) x = up (nuK w s k) (2 * n) x := fun x hx x1 x2 x3 x4 => by
      obtain ⟨a, y, _, _, H⟩ := at_of h hs hl (st := (x : Int) - (2 * n : Nat)) (by omega) (by omega)
      have hy : y ≠ k := fun e => by
        have h5 := C.all a H.ha (by rw [H.wa, e])
        have h6 := at_cases H.ha (by omega) (by omega) H.at_
        rcases h5 with e5 | e5 <;> subst e5 <;> rcases h6 with h6 | h6 <;> omega
      unfold up nuK
      rw [h.len, H.at_, Int.toNat_natCast, H.wa]
      by_cases h7 : (y : Int) < k
      · rw [if_pos h7, if_pos (by omega)]
      · rw [if_neg h7, if_neg (by omega)]
    have uA := fun j => upv (bf n p : Nat) j (by omega)
    have uB := fun j => upv (-1 - (p : Int)) j (by omega)
    have uC := fun j => upv (bf n q : Nat) j (by omega)
    have uD := fun j => upv (-1 - (q : Int)) j (by omega)
    rcases C.nx with ⟨_, v1, v2, v3, v4⟩ | ⟨_, v1, v2, v3, v4⟩
    · have R := rot3 (g := up (nuK w s (k + 1)) (2 * n)) h1 (a := (((bf n p : Nat) : Int) + (2 * n : Nat)).toNat) (b := ((-1 - (p : Int)) + (2 * n : Nat)).toNat) (c := (((bf n q : Nat) : Int) + (2 * n : Nat)).toNat) (d := ((-1 - (q : Int)) + (2 * n : Nat)).toNat)
        (by omega) (by omega) (by omega) (by omega) (by omega) (by omega) (by omega) (by omega) (by omega) (by omega)
        (by rw [uA, uC, oC, nA, v1]) (by rw [uC, uB, oB, nC, v3]; omega) (by rw [uB, uD, oD, nB, v2]; omega) (by rw [uD, uA, oA, nD, v4]) rest
      exact ⟨R.1, by have := R.2; omega⟩
    · have R := rot3 (g := up (nuK w s (k + 1)) (2 * n)) h1 (a := (((bf n p : Nat) : Int) + (2 * n : Nat)).toNat) (b := ((-1 - (p : Int)) + (2 * n : Nat)).toNat) (c := ((-1 - (q : Int)) + (2 * n : Nat)).toNat) (d := (((bf n q : Nat) : Int) + (2 * n : Nat)).toNat)
        (by omega) (by omega) (by omega) (by omega) (by omega) (by omega) (by omega) (by omega) (by omega) (by omega)
        (by rw [uA, uD, oD, nA, v1]; omega) (by rw [uD, uB, oB, nD, v4]; omega) (by rw [uB, uC, oC, nB, v2]) (by rw [uC, uA, oA, nC, v3]) (fun x hx x1 x2 x3 x4 => rest x hx x1 x2 x4 x3)
      exact ⟨R.1, by have := R.2; omega⟩
theorem nu_all {w s : List Int} {n : Nat} (h : Word w n) {st : Int} (h0 : -((2 * n : Nat) : Int) ≤ st) (h1 : st < (2 * n : Nat)) : nuK w s n st = nextT w s st := by
  have h2 := atT_lt (m := 2 * n) (st := st) (by have := h.pos; omega) h0 h1
  have h3 := h.rg (atT (2 * n) st).toNat (by omega)
  unfold nuK; rw [h.len, if_pos h3.2]
theorem next_pn {w s : List Int} {n : Nat} (h : Word w n) (hs : s.all (fun x => decide (x = 1) || decide (x = -1)) = true) (hl : s.length = n) : Pn (nextT w s) (2 * n) := by
  have hr : ∀ st, -((2 * n : Nat) : Int) ≤ st → st < (2 * n : Nat) → -((2 * n : Nat) : Int) ≤ nextT w s st ∧ nextT w s st < (2 * n : Nat) := fun st h0 h1 => by
    obtain ⟨a, x, p, q, H⟩ := at_of h hs hl h0 h1; exact H.rg
  refine ⟨hr, fun x y hx0 hx1 hy0 hy1 e => ?_⟩
  have P := (nu_ok h hs hl n (Nat.le_refl _)).1
  have h1 := hr x hx0 hx1
  have := P.inj (x + (2 * n : Nat)).toNat (y + (2 * n : Nat)).toNat (by omega) (by omega) (by
    unfold up
    rw [show (((x + (2 * n : Nat)).toNat : Nat) : Int) - (2 * n : Nat) = x by omega, show (((y + (2 * n : Nat)).toNat : Nat) : Int) - (2 * n : Nat) = y by omega, nu_all h hx0 hx1, nu_all h hy0 hy1, e])
  omega
/-- The number of faces is even where the number of letters is. -/
theorem faces_par {w s : List Int} {n : Nat} (h : Word w n) (hs : s.all (fun x => decide (x = 1) || decide (x = -1)) = true) (hl : s.length = n) : ((facesT (nextT w s) (2 * n)).length + n) % 2 = 0 := by
  rw [facesT_cyc (next_pn h hs hl)]
  have := (nu_ok h hs hl n (Nat.le_refl _)).2
  rw [cyc_congr (g := up (nextT w s) (2 * n)) fun x hx => by unfold up; rw [nu_all h (by omega) (by omega)]] at this
  exact this
end Go.Scr
/- How many faces there are at most; the two colours of the faces of a plane word; faces with all signs changed. No condition. -/
namespace Go.Scr
set_option linter.unusedVariables false
set_option linter.unusedSimpArgs false

/-! ### Sums of sets -/
def comb {α : Type} : List Bool → List (α → Bool) → α → Bool
  | c :: cs, v :: vs, j => (c && v j) ^^ comb cs vs j
  | _, _, _ => false
theorem comb_app {α : Type} {j : α} : ∀ {c1 : List Bool} {L1 : List (α → Bool)} {c2 : List Bool} {L2 : List (α → Bool)}, c1.length = L1.length → comb (c1 ++ c2) (L1 ++ L2) j = (comb c1 L1 j ^^ comb c2 L2 j)
  | [], [], c2, L2, _ => by simp [comb]
  | c :: c1, v :: L1, c2, L2, h => by
    simp only [List.cons_append, comb, comb_app (c1 := c1) (L1 := L1) (by simpa using h), Bool.xor_assoc]
  | [], _ :: _, _, _, h => by simp at h
  | _ :: _, [], _, _, h => by simp at h
theorem comb_zero {α : Type} {j : α} : ∀ {c : List Bool} {L : List (α → Bool)}, (∀ v ∈ L, v j = false) → comb c L j = false
  | [], _, _ => by simp [comb]
  | _ :: _, [], _ => by simp [comb]
  | c :: cs, v :: vs, h => by rw [comb, h v (by simp), comb_zero fun u hu => h u (by simp [hu])]; simp
theorem comb_map {j m : Nat} {v : Nat → Bool} : ∀ {c : List Bool} {L : List (Nat → Bool)}, comb c (L.map fun u => fun i => u i ^^ (u m && v i)) j = (comb c L j ^^ (comb c L m && v j))
  | [], _ => by simp [comb]
  | _ :: _, [] => by simp [comb]
  | c :: cs, u :: us => by
    simp only [List.map_cons, comb, comb_map (c := cs) (L := us)]
    cases c <;> cases u j <;> cases u m <;> cases v j <;> cases comb cs us j <;> cases comb cs us m <;> rfl
/-- More sets than elements: some of them add up to nothing. -/
theorem dep : ∀ (m : Nat) (L : List (Nat → Bool)), m < L.length → ∃ c : List Bool, c.length = L.length ∧ true ∈ c ∧ ∀ j, j < m → comb c L j = false
  | 0, L, h => ⟨List.replicate L.length true, by simp, by rw [List.mem_replicate]; exact ⟨by omega, rfl⟩, fun j hj => by omega⟩
  | m + 1, L, h => by
    by_cases hv : ∃ v ∈ L, v m = true
    · obtain ⟨v, hv, hm⟩ := hv
      obtain ⟨A, B, rfl⟩ := List.append_of_mem hv
      obtain ⟨c, h1, h2, h3⟩ := dep m ((A ++ B).map fun u => fun i => u i ^^ (u m && v i)) (by simp at h ⊢; omega)
      simp only [comb_map] at h3
      have hc : c = c.take A.length ++ c.drop A.length := (List.take_append_drop _ _).symm
      have hl : (c.take A.length).length = A.length := by simp at h1 ⊢; omega
      have hl2 : (c.drop A.length).length = B.length := by simp at h1 ⊢; omega
      generalize c.take A.length = c1 at *
      generalize c.drop A.length = c2 at *
      subst hc
      refine ⟨c1 ++ comb (c1 ++ c2) (A ++ B) m :: c2, by simp; omega, ?_, fun j hj => ?_⟩
      · rcases List.mem_append.1 h2 with h | h <;> simp [h]
      · rw [comb_app hl, comb]
        by_cases hjm : j = m
        · subst hjm
          rw [comb_app hl, hm]
          cases comb c1 A j <;> cases comb c2 B j <;> rfl
        · have h4 := h3 j (by omega)
          rw [comb_app hl] at h4
          rw [← h4]
          cases comb c1 A j <;> cases comb c2 B j <;> cases comb (c1 ++ c2) (A ++ B) m <;> cases v j <;> rfl
    · obtain ⟨c, h1, h2, h3⟩ := dep m L (by omega)
      refine ⟨c, h1, h2, fun j hj => ?_⟩
      by_cases hjm : j = m
      · subst hjm
        exact comb_zero fun v hv' => by
          cases e : v j with
          | false => rfl
          | true => exact absurd ⟨v, hv', e⟩ hv
      · exact h3 j (by omega)

/-! ### Faces as sets of steps and of edges -/
def ind (f : List Int) : Int → Bool := fun s => decide (s ∈ f)
def dv (f : List Int) : Nat → Bool := fun e => decide ((e : Int) ∈ f) ^^ decide (-1 - (e : Int) ∈ f)
def uv (t : Nat) : Nat → Bool := fun e => decide (e = t)
theorem comb_dv {e : Nat} : ∀ {c : List Bool} {fs : List (List Int)}, comb c (fs.map dv) e = (comb c (fs.map ind) (e : Int) ^^ comb c (fs.map ind) (-1 - (e : Int)))
  | [], _ => by simp [comb]
  | _ :: _, [] => by simp [comb]
  | c :: cs, f :: fs => by
    simp only [List.map_cons, comb, comb_dv (c := cs) (fs := fs), dv, ind]
    cases c <;> cases decide ((e : Int) ∈ f) <;> cases decide (-1 - (e : Int) ∈ f) <;> cases comb cs (fs.map ind) (e : Int) <;> cases comb cs (fs.map ind) (-1 - (e : Int)) <;> rfl
theorem comb_uv {e : Nat} {c : List Bool} {ts : List Nat} (h : ¬ e ∈ ts) : comb c (ts.map uv) e = false := comb_zero fun v hv => by
  obtain ⟨t, ht, rfl⟩ := List.mem_map.1 hv
  unfold uv; rw [decide_eq_false]; rintro rfl; exact h ht
theorem comb_cl {nx : Int → Int} {m : Nat} : ∀ {c : List Bool} {fs : List (List Int)}, (∀ f ∈ fs, Fac nx m f) → Cl nx m (comb c (fs.map ind))
  | [], _, _ => fun x _ _ => by simp [comb]
  | _ :: _, [], _ => fun x _ _ => by simp [comb]
  | c :: cs, f :: fs, h => fun x h0 h1 => by
    have h2 := comb_cl (c := cs) (fs := fs) (fun g hg => h g (by simp [hg])) x h0 h1
    have h3 : ind f x = ind f (nx x) := by unfold ind; rw [decide_eq_decide]; exact (h f (by simp)).cl x h0 h1
    simp only [List.map_cons, comb, h2, h3]
/-- Where a step lies in one of some faces without common steps, the sum there is that face's. -/
theorem comb_at {α : Type} {j : α} : ∀ {c : List Bool} {L : List (α → Bool)} {i : Nat}, c.length = L.length → i < L.length → (∀ k, k < L.length → ((L.getD k fun _ => false) j = true ↔ k = i)) → comb c L j = c.getD i false
  | [], [], i, _, h, _ => by simp at h
  | _ :: _, [], i, h, _, _ => by simp at h
  | [], _ :: _, i, h, _, _ => by simp at h
  | c :: cs, v :: vs, 0, hl, hi, h => by
    have h0 := (h 0 (by simp)).2 rfl
    simp at h0
    rw [comb, h0, comb_zero fun u hu => ?_]
    · simp
    · obtain ⟨k, hk, e⟩ := List.getElem_of_mem hu
      have := h (k + 1) (by simp; omega)
      simp [hk, e] at this
      exact this
  | c :: cs, v :: vs, i + 1, hl, hi, h => by
    have h0 := h 0 (by simp)
    simp at h0
    rw [comb, h0, comb_at (i := i) (by simpa using hl) (by simpa using hi) fun k hk => ?_]
    · simp
    · have := h (k + 1) (by simp; omega)
      simpa using this

/-- A closed set of steps that has both or none of the steps of each edge has all steps or none. -/
theorem conn {w s : List Int} {n : Nat} (h : Word w n) (hs : s.all (fun x => decide (x = 1) || decide (x = -1)) = true) (hl : s.length = n) {X : Int → Bool} (hX : Cl (nextT w s) (2 * n) X)
    (he : ∀ e : Nat, e < 2 * n → X e = X (-1 - (e : Int))) : ∀ st, -((2 * n : Nat) : Int) ≤ st → st < (2 * n : Nat) → X st = X 0 := by
  have hpos := h.pos
  have k : ∀ a : Nat, a < 2 * n → X (bf n a : Nat) = X a := fun a ha => by
    have hx := h.rg a ha
    obtain ⟨p, q, C⟩ := cr_of h hs hl (x := (w.getD a 0).toNat) (by omega)
    have hpq := C.pq; have hq := C.hq
    have bp := bf_lt (n := n) (a := p) (by omega)
    have bq := bf_lt (n := n) (a := q) (by omega)
    have e1 := hX (bf n p : Nat) (by omega) (by omega)
    have e2 := hX (-1 - (p : Int)) (by omega) (by omega)
    have e3 := hX (bf n q : Nat) (by omega) (by omega)
    have e4 := hX (-1 - (q : Int)) (by omega) (by omega)
    have g1 := he _ bp; have g2 := he _ bq; have g3 := he p (by omega); have g4 := he q (by omega)
    have hall := C.all a ha (by omega)
    rcases C.nx with ⟨_, v1, v2, v3, v4⟩ | ⟨_, v1, v2, v3, v4⟩ <;> rw [v1] at e1 <;> rw [v2] at e2 <;> rw [v3] at e3 <;> rw [v4] at e4 <;> rcases hall with e | e <;> subst e <;> simp_all
  have k2 : ∀ a : Nat, a < 2 * n → X (a : Int) = X 0 := by
    intro a
    induction a with
    | zero => intro _; rfl
    | succ a ih =>
      intro ha
      have := k (a + 1) ha
      unfold bf at this
      rw [if_neg (by omega)] at this
      rw [← this]; exact ih (by omega)
  intro st h0 h1
  by_cases h2 : 0 ≤ st
  · have := k2 st.toNat (by omega)
    rwa [show ((st.toNat : Nat) : Int) = st by omega] at this
  · have h3 := he (-1 - st).toNat (by omega)
    have := k2 (-1 - st).toNat (by omega)
    rw [show (((-1 - st).toNat : Nat) : Int) = -1 - st by omega] at this h3
    rw [show -1 - (-1 - st) = st by omega] at h3
    rw [← h3, this]
/-- At each crossing the border of a closed set has an even number of ends. -/
theorem even_at {w s : List Int} {n x p q : Nat} (C : Cr w s n x p q) {X : Int → Bool} (hX : Cl (nextT w s) (2 * n) X) {z : Nat → Bool} {c : Bool} (hz : ∀ e, z e = (c ^^ (X (e : Int) ^^ X (-1 - (e : Int))))) : (z (bf n p) ^^ z p ^^ z (bf n q) ^^ z q) = false := by
  have hpq := C.pq; have hq := C.hq
  have bp := bf_lt (n := n) (a := p) (by omega)
  have bq := bf_lt (n := n) (a := q) (by omega)
  have e1 := hX (bf n p : Nat) (by omega) (by omega)
  have e2 := hX (-1 - (p : Int)) (by omega) (by omega)
  have e3 := hX (bf n q : Nat) (by omega) (by omega)
  have e4 := hX (-1 - (q : Int)) (by omega) (by omega)
  simp only [hz]
  rcases C.nx with ⟨_, v1, v2, v3, v4⟩ | ⟨_, v1, v2, v3, v4⟩ <;> rw [v1] at e1 <;> rw [v2] at e2 <;> rw [v3] at e3 <;> rw [v4] at e4 <;> rw [e1, e2, e3, e4] <;>
    cases c <;> cases X p <;> cases X q <;> cases X (-1 - ((bf n p : Nat) : Int)) <;> cases X (-1 - ((bf n q : Nat) : Int)) <;> rfl
/-- The first position of a letter. -/
def fst (w : List Int) (x : Nat) : Nat := ((placesT w x).getD 0 0).toNat
theorem Cr.fst {w s : List Int} {n x p q : Nat} (C : Cr w s n x p q) : fst w x = p := by unfold Scr.fst; rw [C.pl]; simp
/-- The edges of a tree: those that lead to letters not met before. -/
def tree (w : List Int) (n : Nat) : List Nat := ((List.range n).erase (w.getD 0 0).toNat).map fun x => fst w x - 1
theorem tree_len {w : List Int} {n : Nat} (h : Word w n) : (tree w n).length = n - 1 := by
  have := h.pos
  have := h.rg 0 (by omega)
  unfold tree
  rw [List.length_map, List.length_erase_of_mem (by rw [List.mem_range]; omega), List.length_range]
/-- A set of edges with an even number of ends at each crossing, and none outside of the tree, is empty. -/
theorem tree_zero {w s : List Int} {n : Nat} (h : Word w n) (hs : s.all (fun x => decide (x = 1) || decide (x = -1)) = true) (hl : s.length = n) {z : Nat → Bool}
    (hz : ∀ x p q, x < n → Cr w s n x p q → (z (bf n p) ^^ z p ^^ z (bf n q) ^^ z q) = false) (ht : ∀ e, e < 2 * n → ¬ e ∈ tree w n → z e = false) : ∀ k e, e < 2 * n → 2 * n ≤ e + k → z e = false
  | 0, e, h1, h2 => by omega
  | k + 1, e, h1, h2 => by
    by_cases he : e ∈ tree w n
    · obtain ⟨x, hx, hxe⟩ := List.mem_map.1 he
      have hx1 : x < n := by have := List.mem_of_mem_erase hx; rwa [List.mem_range] at this
      have hx2 : x ≠ (w.getD 0 0).toNat := fun e => by
        subst e
        exact (List.nodup_range.not_mem_erase) hx
      obtain ⟨p, q, C⟩ := cr_of h hs hl hx1
      rw [C.fst] at hxe
      have hpq := C.pq; have hq := C.hq
      have hp : p ≠ 0 := fun e => by subst e; have := C.wp; omega
      have h3 := hz x p q hx1 C
      have bp : bf n p = e := by unfold bf; rw [if_neg hp]; exact hxe
      have bq : bf n q = q - 1 := by unfold bf; rw [if_neg (by omega)]
      rw [bp, bq, tree_zero h hs hl hz ht k p (by omega) (by omega), tree_zero h hs hl hz ht k q (by omega) (by omega), tree_zero h hs hl hz ht k (q - 1) (by omega) (by omega)] at h3
      simpa using h3
    · exact ht e h1 he
theorem fst_inj {w : List Int} {n : Nat} (h : Word w n) {x y : Nat} (hx : x < n) (hy : y < n) (e : fst w x = fst w y) : x = y := by
  obtain ⟨p, q, _, _, hp, h1, _⟩ := h.places hx
  obtain ⟨r, t, _, _, hr, h2, _⟩ := h.places hy
  unfold fst at e; rw [hp, hr] at e
  simp at e
  have e : p = r := by omega
  subst e
  omega
theorem tree_nodup {w : List Int} {n : Nat} (h : Word w n) : (tree w n).Nodup := by
  unfold tree List.Nodup
  rw [List.pairwise_map]
  have hn : ((List.range n).erase (w.getD 0 0).toNat).Nodup := List.nodup_range.erase _
  refine hn.imp_of_mem fun {x y} hx hy hxy e => ?_
  have hx1 : x < n := by have := List.mem_of_mem_erase hx; rwa [List.mem_range] at this
  have hy1 : y < n := by have := List.mem_of_mem_erase hy; rwa [List.mem_range] at this
  have px : ∀ {x}, x < n → x ∈ (List.range n).erase (w.getD 0 0).toNat → fst w x ≠ 0 := fun {x} hx1 hx e => by
    have hx2 : x ≠ (w.getD 0 0).toNat := fun e => by subst e; exact (List.nodup_range.not_mem_erase) hx
    obtain ⟨p, q, _, _, hp, h1, _⟩ := h.places hx1
    unfold fst at e; rw [hp] at e
    simp at e
    have e : p = 0 := by omega
    subst e; omega
  have := px hx1 hx
  have := px hy1 hy
  exact hxy (fst_inj h hx1 hy1 (by omega))
theorem tree_lt {w : List Int} {n : Nat} (h : Word w n) : ∀ e ∈ tree w n, e < 2 * n := fun e he => by
  obtain ⟨x, hx, hxe⟩ := List.mem_map.1 he
  have hx1 : x < n := by have := List.mem_of_mem_erase hx; rwa [List.mem_range] at this
  obtain ⟨p, q, h2, h3, hp, h1, _⟩ := h.places hx1
  unfold fst at hxe; rw [hp] at hxe
  simp at hxe
  omega
end Go.Scr
/- At most n + 2 faces; two colours; faces with all signs changed. No condition. -/
namespace Go.Scr
set_option linter.unusedVariables false
set_option linter.unusedSimpArgs false

theorem FK.disj {nx : Int → Int} {m k : Nat} {F : List (List Int)} (h : FK nx m k F) {i j : Nat} (hi : i < F.length) (hj : j < F.length) {x : Int} (h1 : x ∈ F.getD i []) (h2 : x ∈ F.getD j []) : i = j := by
  have hp := (List.pairwise_flatten.1 h.nd).2
  rw [List.pairwise_iff_getElem] at hp
  rw [List.getD_eq_getElem?_getD, List.getElem?_eq_getElem hi] at h1
  rw [List.getD_eq_getElem?_getD, List.getElem?_eq_getElem hj] at h2
  rcases Nat.lt_trichotomy i j with hlt | he | hlt
  · exact absurd rfl (hp i j hi hj hlt x h1 x h2)
  · exact he
  · exact absurd rfl (hp j i hj hi hlt x h2 x h1)
theorem Fac.head {nx : Int → Int} {m : Nat} {f : List Int} (h : Fac nx m f) : f.getD 0 0 ∈ f := mem_getD (List.length_pos_iff.2 h.ne)
theorem getD_mem' {F : List (List Int)} {i : Nat} (h : i < F.length) : F.getD i [] ∈ F := by
  rw [List.getD_eq_getElem?_getD, List.getElem?_eq_getElem h]; exact List.getElem_mem h
theorem mem_true {c : List Bool} (h : ∀ i, i < c.length → c.getD i false = false) : ¬ true ∈ c := fun hc => by
  obtain ⟨i, hi, e⟩ := List.getElem_of_mem hc
  have := h i hi
  rw [List.getD_eq_getElem?_getD, List.getElem?_eq_getElem hi] at this
  simp [e] at this
theorem rel {w s : List Int} {n : Nat} (h : Word w n) (hs : s.all (fun x => decide (x = 1) || decide (x = -1)) = true) (hl : s.length = n) {k : Nat} {f0 : List Int} {fs : List (List Int)} (hF : FK (nextT w s) (2 * n) k (f0 :: fs))
    {c0 : Bool} {c1 c2 : List Bool} (l1 : c1.length = fs.length) (l2 : c2.length = (tree w n).length) (h0 : ∀ e, e < 2 * n → (c0 ^^ (comb c1 (fs.map dv) e ^^ comb c2 ((tree w n).map uv) e)) = false) :
    (∀ e : Nat, e < 2 * n → (comb c1 (fs.map ind) (e : Int) ^^ comb c1 (fs.map ind) (-1 - (e : Int))) = c0) ∧ (c0 = false → ¬ true ∈ c1 ∧ ¬ true ∈ c2) := by
  have hX : Cl (nextT w s) (2 * n) (comb c1 (fs.map ind)) := comb_cl fun f hf => hF.fac f (by simp [hf])
  have hz := tree_zero h hs hl (z := fun e => c0 ^^ (comb c1 (fs.map ind) (e : Int) ^^ comb c1 (fs.map ind) (-1 - (e : Int)))) (fun x p q hx C => even_at C hX fun e => rfl) (fun e he hn => by
    have := h0 e he
    rw [comb_uv hn, comb_dv] at this
    simpa using this) (2 * n)
  have hz2 : ∀ e : Nat, e < 2 * n → (comb c1 (fs.map ind) (e : Int) ^^ comb c1 (fs.map ind) (-1 - (e : Int))) = c0 := fun e he => by
    have := hz e he (by omega)
    revert this
    cases (comb c1 (fs.map ind) (e : Int) ^^ comb c1 (fs.map ind) (-1 - (e : Int))) <;> cases c0 <;> simp
  refine ⟨hz2, fun hc => ?_⟩
  subst hc
  have hc := conn h hs hl hX fun e he => by
    have := hz2 e he
    revert this
    cases comb c1 (fs.map ind) (e : Int) <;> cases comb c1 (fs.map ind) (-1 - (e : Int)) <;> simp
  have hrg : ∀ f, f ∈ f0 :: fs → ∀ x ∈ f, -((2 * n : Nat) : Int) ≤ x ∧ x < (2 * n : Nat) := fun f hf x hx => hF.rg x (List.mem_flatten.2 ⟨f, hf, hx⟩)
  have hh := (hF.fac f0 (by simp)).head
  have hX0 : comb c1 (fs.map ind) (f0.getD 0 0) = false := comb_zero fun v hv => by
    obtain ⟨f, hf, rfl⟩ := List.mem_map.1 hv
    unfold ind; rw [decide_eq_false]
    intro hm
    obtain ⟨i, hi, e⟩ := List.getElem_of_mem hf
    have := hF.disj (i := 0) (j := i + 1) (by simp) (by simp; omega) (x := f0.getD 0 0) (by simpa using hh) (by simp [hi, e]; simpa using hm)
    omega
  have hX1 : ∀ st, -((2 * n : Nat) : Int) ≤ st → st < (2 * n : Nat) → comb c1 (fs.map ind) st = false := fun st g0 g1 => by
    have r0 := hrg f0 (by simp) _ hh
    rw [hc st g0 g1, ← hc _ r0.1 r0.2, hX0]
  have n1 : ¬ true ∈ c1 := mem_true fun i hi => by
    have hi2 : i < fs.length := by omega
    have hm := (hF.fac (fs.getD i []) (List.mem_cons_of_mem _ (getD_mem' hi2))).head
    have r := hrg (fs.getD i []) (List.mem_cons_of_mem _ (getD_mem' hi2)) _ hm
    rw [← comb_at (L := fs.map ind) (i := i) (j := (fs.getD i []).getD 0 0) (by simpa using l1) (by simpa using hi2) fun k hk => ?_, hX1 _ r.1 r.2]
    simp only [List.length_map] at hk
    have e : (fs.map ind).getD k (fun _ => false) = ind (fs.getD k []) := by
      simp [List.getD_eq_getElem?_getD, List.getElem?_eq_getElem hk]
    rw [e]
    constructor
    · intro g
      have := hF.disj (i := i + 1) (j := k + 1) (by simp; omega) (by simp; omega) (x := (fs.getD i []).getD 0 0) (by simpa using hm) (by simpa [ind] using g)
      omega
    · rintro rfl; unfold ind; simpa using hm
  refine ⟨n1, mem_true fun i hi => ?_⟩
  have hi2 : i < (tree w n).length := by omega
  have ht : (tree w n).getD i 0 ∈ tree w n := by rw [List.getD_eq_getElem?_getD, List.getElem?_eq_getElem hi2]; exact List.getElem_mem hi2
  have hlt := tree_lt h _ ht
  have h3 := h0 _ hlt
  rw [comb_dv, hX1 _ (by omega) (by omega), hX1 _ (by omega) (by omega)] at h3
  rw [comb_at (L := (tree w n).map uv) (i := i) (by simpa using l2) (by simpa using hi2) fun k hk => ?_] at h3
  · simpa using h3
  · simp only [List.length_map] at hk
    have e : ((tree w n).map uv).getD k (fun _ => false) = uv ((tree w n).getD k 0) := by
      simp [List.getD_eq_getElem?_getD, List.getElem?_eq_getElem hk]
    rw [e]
    unfold uv
    rw [decide_eq_true_iff]
    constructor
    · intro g
      rw [List.getD_eq_getElem?_getD, List.getElem?_eq_getElem hi2, List.getD_eq_getElem?_getD, List.getElem?_eq_getElem hk] at g
      exact ((List.getElem_inj (tree_nodup h)).1 g).symm
    · rintro rfl; rfl
theorem faces_cons {w s : List Int} {n : Nat} (h : Word w n) (hs : s.all (fun x => decide (x = 1) || decide (x = -1)) = true) (hl : s.length = n) : ∃ f0 fs, facesT (nextT w s) (2 * n) = f0 :: fs := by
  have H := facesT_FK (next_pn h hs hl)
  have := H.all 0 (by have := h.pos; omega)
  match hF : facesT (nextT w s) (2 * n) with
  | [] => rw [hF] at this; simp at this
  | f0 :: fs => exact ⟨f0, fs, rfl⟩
/-- There are at most n + 2 faces. -/
theorem faces_le {w s : List Int} {n : Nat} (h : Word w n) (hs : s.all (fun x => decide (x = 1) || decide (x = -1)) = true) (hl : s.length = n) : (facesT (nextT w s) (2 * n)).length ≤ n + 2 := by
  have hpos := h.pos
  obtain ⟨f0, fs, hF⟩ := faces_cons h hs hl
  have H := facesT_FK (next_pn h hs hl)
  rw [hF] at H ⊢
  refine Nat.le_of_not_lt fun hgt => ?_
  simp only [List.length_cons] at hgt
  obtain ⟨c, h1, h2, h3⟩ := dep (2 * n) (fs.map dv ++ (tree w n).map uv) (by simp [tree_len h]; omega)
  simp only [List.length_append, List.length_map] at h1
  have hc : c = c.take fs.length ++ c.drop fs.length := (List.take_append_drop _ _).symm
  have l1 : (c.take fs.length).length = fs.length := by simp; omega
  have l2 : (c.drop fs.length).length = (tree w n).length := by simp; omega
  generalize c.take fs.length = c1 at *
  generalize c.drop fs.length = c2 at *
  subst hc
  have := (rel h hs hl H (c0 := false) l1 l2 fun e he => by
    have := h3 e he
    rw [comb_app (by simpa using l1)] at this
    simpa using this).2 rfl
  rcases List.mem_append.1 h2 with g | g
  · exact this.1 g
  · exact this.2 g
/-- Where there are n + 2 faces, they have two colours. -/
theorem two_colors {w s : List Int} {n : Nat} (h : Word w n) (hs : s.all (fun x => decide (x = 1) || decide (x = -1)) = true) (hl : s.length = n) (hg : (facesT (nextT w s) (2 * n)).length = n + 2) :
    ∃ X, Cl (nextT w s) (2 * n) X ∧ ∀ e : Nat, e < 2 * n → X (-1 - (e : Int)) = ! X (e : Int) := by
  have hpos := h.pos
  obtain ⟨f0, fs, hF⟩ := faces_cons h hs hl
  have H := facesT_FK (next_pn h hs hl)
  rw [hF] at H hg
  simp only [List.length_cons] at hg
  obtain ⟨c, h1, h2, h3⟩ := dep (2 * n) ((fun _ => true) :: (fs.map dv ++ (tree w n).map uv)) (by simp [tree_len h]; omega)
  match c, h1, h2, h3 with
  | [], h1, _, _ => simp at h1
  | c0 :: c, h1, h2, h3 => ?_
  simp only [List.length_cons, List.length_append, List.length_map, Nat.add_right_cancel_iff] at h1
  have hc : c = c.take fs.length ++ c.drop fs.length := (List.take_append_drop _ _).symm
  have l1 : (c.take fs.length).length = fs.length := by simp; omega
  have l2 : (c.drop fs.length).length = (tree w n).length := by simp; omega
  generalize c.take fs.length = c1 at *
  generalize c.drop fs.length = c2 at *
  subst hc
  have R := rel h hs hl H (c0 := c0) l1 l2 fun e he => by
    have := h3 e he
    rw [comb, comb_app (by simpa using l1)] at this
    simpa using this
  have hc0 : c0 = true := by
    cases c0 with
    | true => rfl
    | false =>
      have := R.2 rfl
      simp at h2
      rcases h2 with g | g
      · exact absurd g this.1
      · exact absurd g this.2
  subst hc0
  refine ⟨_, comb_cl (c := c1) (fs := fs) fun f hf => H.fac f (by simp [hf]), fun e he => ?_⟩
  have := R.1 e he
  revert this
  cases comb c1 (fs.map ind) (e : Int) <;> cases comb c1 (fs.map ind) (-1 - (e : Int)) <;> simp

/-- Steps that closed sets keep apart are at most as many as the faces. -/
theorem sep_le {nx : Int → Int} {m : Nat} (h : Pn nx m) {xs : List Int} (hr : ∀ x ∈ xs, -(m : Int) ≤ x ∧ x < m) (hp : xs.Pairwise fun a b => ∃ C, Cl nx m C ∧ C a ≠ C b) : xs.length ≤ (facesT nx m).length := by
  have H := facesT_FK h
  have hex : ∀ x, -(m : Int) ≤ x → x < m → ∃ i, i < (facesT nx m).length ∧ x ∈ (facesT nx m).getD i [] := fun x h0 h1 => by
    have := H.all (x + m).toNat (by omega)
    rw [show (((x + m).toNat : Nat) : Int) - m = x by omega] at this
    obtain ⟨f, hf, hx⟩ := List.mem_flatten.1 this
    obtain ⟨i, hi, e⟩ := List.getElem_of_mem hf
    exact ⟨i, hi, by rw [List.getD_eq_getElem?_getD, List.getElem?_eq_getElem hi]; simpa [e] using hx⟩
  have g : ∃ g : Int → Nat, ∀ x, -(m : Int) ≤ x → x < m → g x < (facesT nx m).length ∧ x ∈ (facesT nx m).getD (g x) [] := by
    refine ⟨fun x => open Classical in if hx : -(m : Int) ≤ x ∧ x < m then (hex x hx.1 hx.2).choose else 0, fun x h0 h1 => ?_⟩
    dsimp only
    rw [dif_pos ⟨h0, h1⟩]
    exact (hex x h0 h1).choose_spec
  obtain ⟨g, hg⟩ := g
  have hn : (xs.map g).Nodup := by
    unfold List.Nodup
    rw [List.pairwise_map]
    refine hp.imp_of_mem fun {a b} ha hb ⟨C, hC, hne⟩ e => ?_
    have ra := hr a ha; have rb := hr b hb
    have ga := hg a ra.1 ra.2; have gb := hg b rb.1 rb.2
    rw [← e] at gb
    have hf := H.fac _ (getD_mem' ga.1)
    generalize (facesT nx m).getD (g a) [] = f at *
    cases hd : C (f.getD 0 0) with
    | true => exact hne (by rw [hf.ch C hC hd a ga.2, hf.ch C hC hd b gb.2])
    | false =>
      have k1 := hf.ch (fun x => ! C x) (fun x h0 h1 => by show (! C x) = (! C (nx x)); rw [hC x h0 h1]) (by show (! C _) = true; rw [hd]; rfl)
      have k2 := k1 a ga.2; have k3 := k1 b gb.2
      exact hne (by revert k2 k3; cases C a <;> cases C b <;> simp)
  have := nodup_lt (n := (facesT nx m).length) hn fun x hx => by
    obtain ⟨y, hy, rfl⟩ := List.mem_map.1 hx
    exact (hg y (hr y hy).1 (hr y hy).2).1
  simpa using this
/-- The first steps of the faces are kept apart by closed sets. -/
theorem heads_sep {nx : Int → Int} {m : Nat} (h : Pn nx m) : ((facesT nx m).map fun f => f.getD 0 0).Pairwise fun a b => ∃ C, Cl nx m C ∧ C a ≠ C b := by
  have H := facesT_FK h
  rw [List.pairwise_map]
  have hp := (List.pairwise_flatten.1 H.nd).2
  refine hp.imp_of_mem fun {f g} hf hg hd => ⟨ind f, fun x h0 h1 => by unfold ind; rw [decide_eq_decide]; exact (H.fac f hf).cl x h0 h1, ?_⟩
  unfold ind
  have h1 := (H.fac f hf).head
  have h2 : ¬ g.getD 0 0 ∈ f := fun hm => hd _ hm _ (H.fac g hg).head rfl
  rw [decide_eq_true h1, decide_eq_false h2]; simp
/-- A map of steps that brings closed sets to closed sets. -/
theorem faces_map {nx nx' : Int → Int} {m m' : Nat} (h : Pn nx m) (h' : Pn nx' m') {φ : Int → Int} (hr : ∀ x, -(m' : Int) ≤ x → x < m' → -(m : Int) ≤ φ x ∧ φ x < m)
    (hc : ∀ D, Cl nx' m' D → ∃ C, Cl nx m C ∧ ∀ x, -(m' : Int) ≤ x → x < m' → C (φ x) = D x) : (facesT nx' m').length ≤ (facesT nx m).length := by
  have H' := facesT_FK h'
  have hin : ∀ f ∈ facesT nx' m', -(m' : Int) ≤ f.getD 0 0 ∧ f.getD 0 0 < m' := fun f hf => H'.rg _ (List.mem_flatten.2 ⟨f, hf, (H'.fac f hf).head⟩)
  have := sep_le h (xs := ((facesT nx' m').map fun f => f.getD 0 0).map φ) (fun x hx => by
    obtain ⟨y, hy, rfl⟩ := List.mem_map.1 hx
    obtain ⟨f, hf, rfl⟩ := List.mem_map.1 hy
    exact hr _ (hin f hf).1 (hin f hf).2) (by
    rw [List.pairwise_map]
    refine (heads_sep h').imp_of_mem fun {a b} ha hb ⟨D, hD, hne⟩ => ?_
    obtain ⟨C, hC, e⟩ := hc D hD
    obtain ⟨f, hf, rfl⟩ := List.mem_map.1 ha
    obtain ⟨g, hg, rfl⟩ := List.mem_map.1 hb
    exact ⟨C, hC, by rw [e _ (hin f hf).1 (hin f hf).2, e _ (hin g hg).1 (hin g hg).2]; exact hne⟩)
  simpa using this
/-- All signs changed: each walk is walked backwards. -/
theorem next_neg {w s t : List Int} {n : Nat} (h : Word w n) (hs : s.all (fun x => decide (x = 1) || decide (x = -1)) = true) (hl : s.length = n) (ht : t.all (fun x => decide (x = 1) || decide (x = -1)) = true) (hlt : t.length = n)
    (hn : ∀ v, v < n → t.getD v 0 = - s.getD v 0) {y : Int} (h0 : -((2 * n : Nat) : Int) ≤ y) (h1 : y < (2 * n : Nat)) : nextT w t (-1 - nextT w s y) = -1 - y := by
  obtain ⟨a, x, p, q, H⟩ := at_of h hs hl h0 h1
  obtain ⟨p, q, C⟩ := cr_of h hs hl H.hx
  obtain ⟨p', q', D⟩ := cr_of h ht hlt H.hx
  have e := C.pl.symm.trans D.pl
  simp at e
  obtain ⟨e1, e2⟩ := e
  have e1 : p = p' := by omega
  have e2 : q = q' := by omega
  subst e1 e2
  have hpq := C.pq; have hq := C.hq
  have h2 := C.all a H.ha H.wa
  have h3 := at_cases H.ha h0 h1 H.at_
  have h4 := hn x H.hx
  rcases C.nx with ⟨f1, v1, v2, v3, v4⟩ | ⟨f1, v1, v2, v3, v4⟩ <;> rcases D.nx with ⟨g1, u1, u2, u3, u4⟩ | ⟨g1, u1, u2, u3, u4⟩ <;> (try omega) <;>
    rcases h2 with e | e <;> subst e <;> rcases h3 with e | e <;> subst e
  · rw [v1, show -1 - (-1 - ((bf n q : Nat) : Int)) = (bf n q : Nat) by omega, u3]
  · rw [v2, u4]; omega
  · rw [v3, u2]
  · rw [v4, show -1 - (-1 - ((bf n p : Nat) : Int)) = (bf n p : Nat) by omega, u1]; omega
  · rw [v1, u4]
  · rw [v2, show -1 - (-1 - ((bf n q : Nat) : Int)) = (bf n q : Nat) by omega, u3]; omega
  · rw [v3, show -1 - (-1 - ((bf n p : Nat) : Int)) = (bf n p : Nat) by omega, u1]
  · rw [v4, u2]; omega
theorem neg_le {w s t : List Int} {n : Nat} (h : Word w n) (hs : s.all (fun x => decide (x = 1) || decide (x = -1)) = true) (hl : s.length = n) (ht : t.all (fun x => decide (x = 1) || decide (x = -1)) = true) (hlt : t.length = n)
    (hn : ∀ v, v < n → t.getD v 0 = - s.getD v 0) : (facesT (nextT w t) (2 * n)).length ≤ (facesT (nextT w s) (2 * n)).length := by
  refine faces_map (next_pn h hs hl) (next_pn h ht hlt) (φ := fun x => -1 - x) (fun x h0 h1 => by omega) fun D hD => ⟨fun y => D (-1 - y), fun y h0 h1 => ?_, fun x h0 h1 => ?_⟩
  · have h2 := (next_pn h hs hl).rg y h0 h1
    show D (-1 - y) = D (-1 - nextT w s y)
    rw [hD (-1 - nextT w s y) (by omega) (by omega), next_neg h hs hl ht hlt hn h0 h1]
  · show D (-1 - (-1 - x)) = D x
    rw [show -1 - (-1 - x) = x by omega]
/-- Changing all signs does not change the number of faces. -/
theorem neg_eq {w s t : List Int} {n : Nat} (h : Word w n) (hs : s.all (fun x => decide (x = 1) || decide (x = -1)) = true) (hl : s.length = n) (ht : t.all (fun x => decide (x = 1) || decide (x = -1)) = true) (hlt : t.length = n)
    (hn : ∀ v, v < n → t.getD v 0 = - s.getD v 0) : (facesT (nextT w t) (2 * n)).length = (facesT (nextT w s) (2 * n)).length :=
  Nat.le_antisymm (neg_le h hs hl ht hlt hn) (neg_le h ht hlt hs hl fun v hv => by have := hn v hv; omega)
end Go.Scr
/- A search that gives nodes two colours. No condition. -/
namespace Go.Scr
set_option linter.unusedVariables false
set_option linter.unusedSimpArgs false

/-- The colour that a neighbour has. -/
def wt (e : Nat → Nat → Bool) (s : List Int) (x z : Nat) : Int := if e x z = true then 1 - s.getD x 0 else s.getD x 0
/-- Colours in order. -/
def Valid (n : Nat) (g e : Nat → Nat → Bool) (d : Nat → Bool) : Prop := ∀ x y, x < n → y < n → g x y = true → (d x ^^ d y) = e x y
/-- What has a colour, with all its neighbours, in order. -/
def Clo (n : Nat) (g e : Nat → Nat → Bool) (s : List Int) : Prop := ∀ x z, x < n → z < n → 0 ≤ s.getD x 0 → g x z = true → 0 ≤ s.getD z 0 ∧ s.getD z 0 = wt e s x z
structure Vals (n : Nat) (s : List Int) : Prop where
  len : s.length = n
  val : ∀ x, x < n → s.getD x 0 = -1 ∨ s.getD x 0 = 0 ∨ s.getD x 0 = 1
structure Rd (n : Nat) (g e : Nat → Nat → Bool) (s0 s : List Int) (H : List Int) (k y : Nat) : Prop where
  va : Vals n s
  old : ∀ x, x < n → 0 ≤ s0.getD x 0 → s.getD x 0 = s0.getD x 0
  new : ∀ x, x < n → 0 ≤ s.getD x 0 → 0 ≤ s0.getD x 0 ∨ (x : Int) ∈ H
  mem : ∀ x ∈ H, 0 ≤ x ∧ x < n ∧ s0.getD x.toNat 0 < 0 ∧ 0 ≤ s.getD x.toNat 0
  nd : H.Nodup
  kl : k ≤ H.length
  don : ∀ i x z, i < k → H.getD i 0 = ((x : Nat) : Int) → z < n → g x z = true → 0 ≤ s.getD z 0 ∧ s.getD z 0 = wt e s x z
  par : ∀ x z, k < H.length → H.getD k 0 = ((x : Nat) : Int) → z < y → z < n → g x z = true → 0 ≤ s.getD z 0 ∧ s.getD z 0 = wt e s x z
  con : ∀ d, Valid n g e d → ∃ c : Bool, ∀ x : Nat, (x : Int) ∈ H → d x = (decide (s.getD x 0 = 1) ^^ c)

theorem set_get {s : List Int} {i j : Nat} {v : Int} (h : i < s.length) : (s.set i v).getD j 0 = if j = i then v else s.getD j 0 := by
  simp only [List.getD_eq_getElem?_getD]
  by_cases e : j = i
  · subst e; rw [if_pos rfl, List.getElem?_set_self h]; rfl
  · rw [if_neg e, List.getElem?_set_ne (Ne.symm e)]
theorem Vals.set {n : Nat} {s : List Int} (h : Vals n s) {f : Nat} (hf : f < n) {v : Int} (hv : v = 0 ∨ v = 1) : Vals n (s.set f v) := by
  refine ⟨by rw [List.length_set]; exact h.len, fun x hx => ?_⟩
  rw [set_get (by rw [h.len]; exact hf)]
  split
  · rcases hv with h | h <;> simp [h]
  · exact h.val x hx
theorem Rd.init {n : Nat} {g e : Nat → Nat → Bool} {s0 : List Int} (h : Vals n s0) {f : Nat} (hf : f < n) (hs : s0.getD f 0 < 0) : Rd n g e s0 (s0.set f 0) [(f : Int)] 0 0 := by
  have hfl : f < s0.length := by rw [h.len]; exact hf
  refine ⟨h.set hf (.inl rfl), fun x hx h0 => ?_, fun x hx h0 => ?_, fun x hx => ?_, by simp, by simp, fun i x z hi => by omega, fun x z hk hx hz => by omega, fun d hd => ⟨d f, fun x hx => ?_⟩⟩
  · rw [set_get hfl, if_neg (by rintro rfl; omega)]
  · rw [set_get hfl] at h0
    split at h0
    · rename_i e; subst e; exact .inr (by simp)
    · exact .inl h0
  · simp at hx; subst hx
    refine ⟨by omega, by omega, by simpa using hs, ?_⟩
    rw [Int.toNat_natCast, set_get hfl, if_pos rfl]; omega
  · simp at hx
    have : x = f := by omega
    subst this
    rw [set_get hfl, if_pos rfl]; simp
theorem Rd.len {n : Nat} {g e : Nat → Nat → Bool} {s0 s H : List Int} {k y : Nat} (h : Rd n g e s0 s H k y) : H.length ≤ n := by
  have := nodup_lt (n := n) (l := H.map Int.toNat) ?_ fun x hx => ?_
  · simpa using this
  · rw [List.nodup_iff_pairwise_ne, List.pairwise_map]
    refine List.Pairwise.imp_of_mem (fun {a b} ha hb hab => ?_) (List.nodup_iff_pairwise_ne.1 h.nd)
    have := h.mem a ha; have := h.mem b hb; omega
  · obtain ⟨a, ha, rfl⟩ := List.mem_map.1 hx
    have := h.mem a ha; omega
theorem Rd.at {n : Nat} {g e : Nat → Nat → Bool} {s0 s H : List Int} {k y : Nat} (h : Rd n g e s0 s H k y) (hk : k < H.length) : ∃ x : Nat, H.getD k 0 = (x : Int) ∧ x < n ∧ (s.getD x 0 = 0 ∨ s.getD x 0 = 1) ∧ s0.getD x 0 < 0 ∧ (x : Int) ∈ H := by
  have hm := mem_getD hk
  have := h.mem _ hm
  refine ⟨(H.getD k 0).toNat, by omega, by omega, ?_, this.2.2.1, ?_⟩
  · have hv := h.va.val (H.getD k 0).toNat (by omega); omega
  · rw [Int.toNat_of_nonneg this.1]; exact hm
/-- Nothing is to be done with y. -/
theorem Rd.skip {n : Nat} {g e : Nat → Nat → Bool} {s0 s H : List Int} {k y x : Nat} (h : Rd n g e s0 s H k y) (hx : H.getD k 0 = (x : Int)) (hg : g x y = true → 0 ≤ s.getD y 0 ∧ s.getD y 0 = wt e s x y) : Rd n g e s0 s H k (y + 1) := by
  refine ⟨h.va, h.old, h.new, h.mem, h.nd, h.kl, h.don, fun x' z hk hx' hz hn hgz => ?_, h.con⟩
  have : x' = x := by omega
  subst this
  by_cases e : z = y
  · subst e; exact hg hgz
  · exact h.par x' z hk hx' (by omega) hn hgz
/-- y gets its colour. -/
theorem Rd.put {n : Nat} {g e : Nat → Nat → Bool} {s0 s H : List Int} {k y x : Nat} (h : Rd n g e s0 s H k y) (hk : k < H.length) (hx : H.getD k 0 = (x : Int)) (hy : y < n) (hg : g x y = true) (hs : s.getD y 0 < 0) :
    Rd n g e s0 (s.set y (wt e s x y)) (H ++ [(y : Int)]) k (y + 1) := by
  obtain ⟨x', hx', hxn, hxv, hx0, hxm⟩ := h.at hk
  have : x' = x := by omega
  subst this
  have hyl : y < s.length := by rw [h.va.len]; exact hy
  have hw : wt e s x' y = 0 ∨ wt e s x' y = 1 := by unfold wt; split <;> rcases hxv with h | h <;> omega
  have ho : s0.getD y 0 < 0 := by
    refine Int.not_le.1 fun h0 => ?_
    have := h.old y hy h0; omega
  have hyH : ¬ (y : Int) ∈ H := fun hm => by have := h.mem _ hm; rw [Int.toNat_natCast] at this; omega
  have hne : ∀ z : Nat, 0 ≤ s.getD z 0 → z ≠ y := fun z hz e => by subst e; omega
  have hst : ∀ z, 0 ≤ s.getD z 0 → (s.set y (wt e s x' y)).getD z 0 = s.getD z 0 := fun z hz => by rw [set_get hyl, if_neg (hne z hz)]
  have hwt : ∀ a z, 0 ≤ s.getD a 0 → wt e (s.set y (wt e s x' y)) a z = wt e s a z := fun a z ha => by
    have h1 := hst a ha
    unfold wt at h1 ⊢; rw [h1]
  have hgd : ∀ i, i < H.length → (H ++ [(y : Int)]).getD i 0 = H.getD i 0 := fun i hi => by rw [getD_app, if_pos hi]
  have hgx : ∀ i (a : Nat), i < H.length → H.getD i 0 = (a : Int) → 0 ≤ s.getD a 0 := fun i a hi ha => by
    have := h.mem _ (mem_getD hi); rw [ha, Int.toNat_natCast] at this; exact this.2.2.2
  refine ⟨h.va.set hy hw, fun a ha h0 => ?_, fun a ha h0 => ?_, fun a ha => ?_, ?_, by simp; have := h.kl; omega, fun i a z hi ha hz hgz => ?_, fun a z _ ha hz hzn hgz => ?_, fun d hd => ?_⟩
  · have h1 := h.old a ha h0
    rw [hst a (by omega), h1]
  · rw [set_get hyl] at h0
    split at h0
    · rename_i e1; subst e1; exact .inr (by simp)
    · rcases h.new a ha h0 with h | h
      · exact .inl h
      · exact .inr (by simp [h])
  · rcases List.mem_append.1 ha with ha | ha
    · have := h.mem a ha
      refine ⟨this.1, this.2.1, this.2.2.1, ?_⟩
      rw [hst _ this.2.2.2]; exact this.2.2.2
    · simp at ha; subst ha
      refine ⟨by omega, by omega, by simpa using ho, ?_⟩
      rw [Int.toNat_natCast, set_get hyl, if_pos rfl]; omega
  · rw [List.nodup_append]
    refine ⟨h.nd, by simp, fun a ha b hb => ?_⟩
    simp at hb; subst hb
    rintro rfl; exact hyH ha
  · have hil : i < H.length := by have := h.kl; omega
    rw [hgd i hil] at ha
    have hz1 := h.don i a z hi ha hz hgz
    rw [hst z hz1.1, hwt a z (hgx i a hil ha)]; exact hz1
  · rw [hgd k hk] at ha
    have : a = x' := by omega
    subst this
    rw [hwt a z (by omega)]
    by_cases e1 : z = y
    · subst e1; rw [set_get hyl, if_pos rfl]; exact ⟨by omega, rfl⟩
    · have hz1 := h.par a z hk ha (by omega) hzn hgz
      rw [hst z hz1.1]; exact hz1
  · obtain ⟨c, hc⟩ := h.con d hd
    refine ⟨c, fun a ha => ?_⟩
    rcases List.mem_append.1 ha with ha | ha
    · have := h.mem _ ha; rw [Int.toNat_natCast] at this
      rw [hst a this.2.2.2]; exact hc a ha
    · simp at ha
      have : a = y := by omega
      subst this
      rw [set_get hyl, if_pos rfl]
      have h1 := hc x' hxm
      have h2 := hd x' a hxn hy hg
      have h3 : decide (wt e s x' a = 1) = (decide (s.getD x' 0 = 1) ^^ e x' a) := by
        unfold wt
        cases e x' a <;> rcases hxv with h | h <;> rw [h] <;> decide
      rw [h3]
      revert h1 h2
      generalize d x' = p; generalize d a = q; generalize e x' a = r; generalize decide (s.getD x' 0 = 1) = t
      cases p <;> cases q <;> cases r <;> cases t <;> cases c <;> simp
/-- All neighbours of the k-th are done. -/
theorem Rd.next {n : Nat} {g e : Nat → Nat → Bool} {s0 s H : List Int} {k : Nat} (h : Rd n g e s0 s H k n) (hk : k < H.length) : Rd n g e s0 s H (k + 1) 0 := by
  refine ⟨h.va, h.old, h.new, h.mem, h.nd, hk, fun i x z hi hx hz hg => ?_, fun x z _ _ hz => by omega, h.con⟩
  by_cases e : i = k
  · subst e; exact h.par x z hk hx hz hz hg
  · exact h.don i x z (by omega) hx hz hg
/-- The search has ended. -/
theorem Rd.done {n : Nat} {g e : Nat → Nat → Bool} {s0 s H : List Int} {y : Nat} (h : Rd n g e s0 s H H.length y) (h0 : Clo n g e s0) : Clo n g e s := fun x z hx hz hs hg => by
  rcases h.new x hx hs with h1 | h1
  · have h2 := h0 x z hx hz h1 hg
    have h3 := h.old z hz h2.1
    have h4 := h.old x hx h1
    rw [h3, h2.2]
    unfold wt at *
    rw [h4]; exact ⟨h2.2 ▸ h2.1, rfl⟩
  · obtain ⟨i, hi, hgi⟩ := getD_mem h1
    exact h.don i x z hi hgi hz hg
/-- A neighbour has the other colour: there is no division. -/
theorem Rd.bad {n : Nat} {g e : Nat → Nat → Bool} (hsy : ∀ x y, x < n → y < n → g x y = true → g y x = true) {s0 s H : List Int} {k y x : Nat} (h : Rd n g e s0 s H k y) (h0 : Clo n g e s0) (hk : k < H.length) (hx : H.getD k 0 = (x : Int)) (hy : y < n) (hg : g x y = true) (hs : 0 ≤ s.getD y 0) (hw : ¬ s.getD y 0 = wt e s x y)
    (d : Nat → Bool) (hd : Valid n g e d) : False := by
  obtain ⟨x', hx', hxn, hxv, hx0, hxm⟩ := h.at hk
  have : x' = x := by omega
  subst this
  rcases h.new y hy hs with h1 | h1
  · have := h0 y x' hy hxn h1 (hsy x' y hxn hy hg); omega
  · obtain ⟨c, hc⟩ := h.con d hd
    have h1 := hc x' hxm
    have h2 := hc y ‹_›
    have h3 := hd x' y hxn hy hg
    have hyv := h.va.val y hy
    apply hw
    have hyv' : s.getD y 0 = 0 ∨ s.getD y 0 = 1 := by omega
    unfold wt
    rw [h1, h2] at h3
    rw [← h3]
    rcases hxv with h | h <;> rcases hyv' with h' | h' <;> rw [h, h'] <;> cases c <;> simp
/-- Colours for all: a division. -/
theorem Clo.valid {n : Nat} {g e : Nat → Nat → Bool} {s : List Int} (h : Clo n g e s) (hv : Vals n s) (ha : ∀ x, x < n → 0 ≤ s.getD x 0) : Valid n g e fun x => decide (s.getD x 0 = 1) := fun x y hx hy hg => by
  have h1 := (h x y hx hy (ha x hx) hg).2
  have h2 := hv.val x hx; have h3 := hv.val y hy
  have h4 := ha x hx; have h5 := ha y hy
  have hx' : s.getD x 0 = 0 ∨ s.getD x 0 = 1 := by omega
  have hy' : s.getD y 0 = 0 ∨ s.getD y 0 = 1 := by omega
  dsimp only
  unfold wt at h1
  generalize e x y = r at h1 ⊢
  cases r <;> rcases hx' with h | h <;> rcases hy' with h' | h' <;> rw [h, h'] at h1 ⊢ <;> simp at h1 ⊢
end Go.Scr
/- Words made of numbers. No condition. -/
namespace Go.Scr
set_option linter.unusedVariables false
set_option linter.unusedSimpArgs false

def putT (l : List Int) (a : Nat) (v : Int) : List Int := l.take a ++ [v] ++ l.drop a
theorem putT_len {l : List Int} {a : Nat} {v : Int} : (putT l a v).length = l.length + 1 := by
  unfold putT; simp; omega
def madeK (x : List (Int × Int × Unit)) : Nat → List Int
  | 0 => [0, 0]
  | i + 1 => let w := putT (madeK x i) ((x.getD i (0, 0, ())).1.toNat % (2 * i + 3)) (i + 1)
    putT w ((x.getD i (0, 0, ())).2.1.toNat % (2 * i + 4)) (i + 1)
theorem madeK_len {x : List (Int × Int × Unit)} : ∀ {i : Nat}, (madeK x i).length = 2 * i + 2
  | 0 => rfl
  | i + 1 => by rw [madeK]; simp only [putT_len, madeK_len]; omega
theorem putT_get {l : List Int} {a : Nat} {v : Int} (ha : a ≤ l.length) {i : Nat} : (putT l a v).getD i 0 = if i < a then l.getD i 0 else if i = a then v else l.getD (i - 1) 0 := by
  unfold putT
  simp only [List.getD_eq_getElem?_getD]
  have hl : (l.take a).length = a := by rw [List.length_take]; omega
  by_cases h : i < a
  · rw [if_pos h, List.append_assoc, List.getElem?_append_left (by omega), List.getElem?_take, if_pos h]
  · rw [if_neg h]
    by_cases h2 : i = a
    · subst h2
      rw [if_pos rfl, List.append_assoc, List.getElem?_append_right (by omega), hl]; simp
    · rw [if_neg h2, List.getElem?_append_right (by simp; omega), List.getElem?_drop]
      congr 2
      simp; omega
/-- Signs made of a number. -/
def sigAt (z i : Nat) : Int := 1 - 2 * (bitT z i : Int)
def sigT (n z : Nat) : List Int := (List.range n).map fun i => sigAt z i
theorem sigT_len {n z : Nat} : (sigT n z).length = n := by simp [sigT]
theorem sigT_get {n z i : Nat} (h : i < n) : (sigT n z).getD i 0 = sigAt z i := by
  simp [sigT, List.getD_eq_getElem?_getD, List.getElem?_map, List.getElem?_range h]
theorem sigT_succ {n z : Nat} : sigT (n + 1) z = sigT n z ++ [sigAt z n] := by simp [sigT, List.range_succ]
theorem sigT_all {n z : Nat} : (sigT n z).all (fun x => decide (x = 1) || decide (x = -1)) = true := by
  rw [List.all_eq_true]
  intro x hx
  obtain ⟨i, _, rfl⟩ := List.mem_map.1 hx
  have := bitT_le (k := z) (j := i)
  unfold sigAt
  have h : bitT z i = 0 ∨ bitT z i = 1 := by omega
  rcases h with h | h <;> rw [h] <;> decide
theorem sigT_neg {n z v : Nat} (hz : z < 65536) (hn : n ≤ 16) (hv : v < n) : (sigT n (65535 - z)).getD v 0 = - (sigT n z).getD v 0 := by
  rw [sigT_get hv, sigT_get hv]
  have := bit_not (n := 16) (k := z) (j := v) (by omega) (by omega)
  have h2 := bitT_le (k := z) (j := v)
  unfold sigAt
  rw [show 65535 - z = 2 ^ 16 - 1 - z by omega, this]
  omega
end Go.Scr
/- Words by counting letters; what the law asks of faces. No condition. -/
namespace Go.Scr
set_option linter.unusedVariables false
set_option linter.unusedSimpArgs false

theorem placesK_count {w : List Int} {v : Int} : ∀ {k : Nat}, k ≤ w.length → (placesK w v k).length = (w.take k).count v
  | 0, _ => by simp [placesK]
  | k + 1, h => by
    rw [placesK, take_getD' (by omega), List.count_append, ← placesK_count (k := k) (by omega)]
    by_cases e : w.getD k 0 = v
    · rw [if_pos e, e, List.length_append]; simp
    · rw [if_neg e, List.count_singleton]
      have : (w.getD k 0 == v) = false := by simpa using e
      rw [this]; rfl
theorem places_count {w : List Int} {v : Int} : (placesT w v).length = w.count v := by
  rw [placesT, placesK_count (Nat.le_refl _), List.take_length]
theorem word_count {w : List Int} {n : Nat} (h : Word w n) : ∀ v : Nat, v < n → w.count (v : Int) = 2 := fun v hv => by rw [← places_count]; exact h.two v hv
theorem count_word {w : List Int} {n : Nat} (hl : w.length = 2 * n) (hn : 1 ≤ n) (h : ∀ v : Nat, v < n → w.count (v : Int) = 2) : Word w n :=
  word_of hl hn fun v hv => by rw [places_count]; exact h v hv
theorem count_none {w : List Int} {n : Nat} (h : Word w n) {v : Int} (hv : v < 0 ∨ (n : Int) ≤ v) : w.count v = 0 := by
  rw [List.count_eq_zero]
  intro hm
  obtain ⟨i, hi, rfl⟩ := getD_mem hm
  have := h.rg i (by rw [← h.len]; exact hi)
  omega
theorem count_put {l : List Int} {a : Nat} {v u : Int} : (putT l a v).count u = l.count u + if v = u then 1 else 0 := by
  have h : l.count u = (l.take a).count u + (l.drop a).count u := by rw [← List.count_append, List.take_append_drop]
  unfold putT
  rw [List.count_append, List.count_append, List.count_singleton, h]
  by_cases e : v = u
  · subst e; simp; omega
  · have : (v == u) = false := by simpa using e
    rw [this, if_neg e]; simp
/-- A new letter is put in twice. -/
theorem word_put {w : List Int} {n a b : Nat} (h : Word w n) : Word (putT (putT w a n) b n) (n + 1) := by
  refine count_word ?_ (by omega) fun v hv => ?_
  · rw [putT_len, putT_len, h.len]; omega
  · rw [count_put, count_put]
    by_cases e : v = n
    · subst e; rw [count_none h (.inr (by omega)), if_pos rfl]
    · rw [word_count h v (by omega), if_neg (by omega)]
theorem made_word {x : List (Int × Int × Unit)} : ∀ {i : Nat}, Word (madeK x i) (i + 1)
  | 0 => count_word rfl (by omega) fun v hv => by
    have : v = 0 := by omega
    subst this; rfl
  | i + 1 => by
    rw [madeK]
    exact word_put (made_word (i := i))
theorem nodup_sub {α : Type} [DecidableEq α] : ∀ {l l' : List α}, l.Nodup → (∀ x ∈ l, x ∈ l') → l.length ≤ l'.length
  | [], _, _, _ => by simp
  | x :: l, l', hn, h => by
    have hx := h x (by simp)
    have hn' := List.nodup_cons.1 hn
    have := nodup_sub (l := l) (l' := l'.erase x) hn'.2 fun y hy => by
      have : y ≠ x := fun e => hn'.1 (e ▸ hy)
      exact (List.mem_erase_of_ne this).2 (h y (by simp [hy]))
    rw [List.length_erase_of_mem hx] at this
    have := List.length_pos_of_mem hx
    simp; omega
theorem FK.len {nx : Int → Int} {m : Nat} {F : List (List Int)} (h : FK nx m (2 * m) F) : F.flatten.length = 2 * m := by
  refine Nat.le_antisymm (nodup_range h.nd h.rg) ?_
  have := nodup_sub (l := (List.range (2 * m)).map fun (j : Nat) => (j : Int) - m) (l' := F.flatten) ?_ ?_
  · simpa using this
  · rw [List.nodup_iff_pairwise_ne, List.pairwise_map]
    exact (List.nodup_iff_pairwise_ne.1 List.nodup_range).imp fun {a b} h => by omega
  · intro x hx
    obtain ⟨j, hj, rfl⟩ := List.mem_map.1 hx
    exact h.all j (by simpa using hj)
theorem take_face {F : List (List Int)} {j : Nat} (h : j < F.length) : F.take (j + 1) = F.take j ++ [F.getD j []] := by
  rw [List.take_add_one, List.getD_eq_getElem?_getD, List.getElem?_eq_getElem h]; rfl
theorem flat_take {F : List (List Int)} {j : Nat} (h : j < F.length) : (F.take (j + 1)).flatten = (F.take j).flatten ++ F.getD j [] := by
  rw [take_face h]; simp
theorem flat_len {F : List (List Int)} {j : Nat} : (F.take j).flatten.length ≤ F.flatten.length := by
  have : F.flatten = (F.take j).flatten ++ (F.drop j).flatten := by rw [← List.flatten_append, List.take_append_drop]
  rw [this, List.length_append]; omega
/-- What the law asks at the q-th step of the j-th face. -/
theorem FK.at {nx : Int → Int} {m k : Nat} {F : List (List Int)} (h : FK nx m k F) {j q : Nat} (hj : j < F.length) (hq : q < (F.getD j []).length) :
    -(m : Int) ≤ (F.getD j []).getD q 0 ∧ (F.getD j []).getD q 0 < m ∧ ¬ (F.getD j []).getD q 0 ∈ (F.take j).flatten ++ (F.getD j []).take q ∧ (F.getD j []).getD 0 0 ≤ (F.getD j []).getD q 0 := by
  have hf := getD_mem' hj
  have hv : (F.getD j []).getD q 0 ∈ F.getD j [] := mem_getD hq
  have hr := h.rg _ (List.mem_flatten.2 ⟨_, hf, hv⟩)
  refine ⟨hr.1, hr.2, ?_, h.hd _ hf _ hv⟩
  have hnd := h.nd
  rw [← List.take_append_drop (j + 1) F, List.flatten_append, flat_take hj] at hnd
  have hnd := (List.nodup_append.1 hnd).1
  rw [← List.take_append_drop (q + 1) (F.getD j []), take_getD' hq, ← List.append_assoc] at hnd
  have hnd := (List.nodup_append.1 hnd).1
  rw [← List.append_assoc, List.nodup_append] at hnd
  intro hm
  exact hnd.2.2 _ hm _ (by simp) rfl
theorem FK.inc_at {nx : Int → Int} {m k : Nat} {F : List (List Int)} (h : FK nx m k F) {j : Nat} (hj : j + 1 < F.length) : (F.getD j []).getD 0 0 < (F.getD (j + 1) []).getD 0 0 := by
  have := List.pairwise_iff_getElem.1 h.inc j (j + 1) (by simp; omega) (by simpa using hj) (by omega)
  simp only [List.getElem_map] at this
  have e : ∀ i, (hi : i < F.length) → F.getD i [] = F[i] := fun i hi => by rw [List.getD_eq_getElem?_getD, List.getElem?_eq_getElem hi]; rfl
  rw [e j (by omega), e (j + 1) hj]; exact this
theorem FK.ne_at {nx : Int → Int} {m k : Nat} {F : List (List Int)} (h : FK nx m k F) {j : Nat} (hj : j < F.length) : 1 ≤ (F.getD j []).length :=
  List.length_pos_iff.2 (h.fac _ (getD_mem' hj)).ne
/-- The genus by the number of faces. -/
theorem genus_ok {n : Nat} {w s : List Int} (h : Word w n) (hs : s.all (fun x => decide (x = 1) || decide (x = -1)) = true) (hl : s.length = n) : 0 ≤ genusT n w s ∧ 2 * genusT n w s = (n : Int) + 2 - (facesT (nextT w s) (2 * n)).length := by
  have h1 := faces_le h hs hl
  have h2 := faces_par h hs hl
  unfold genusT
  rw [Int.tdiv_eq_ediv_of_nonneg (by omega)]
  omega
end Go.Scr
/- The colours of the faces of a plane word. No condition. -/
namespace Go.Scr
set_option linter.unusedVariables false
set_option linter.unusedSimpArgs false
set_option linter.unusedSectionVars false

/-! ### In which list an element lies -/
def ofI (x : Int) : List (List Int) → Nat
  | [] => 0
  | f :: r => if x ∈ f then 0 else ofI x r + 1
theorem ofI_lt {x : Int} : ∀ {L : List (List Int)}, x ∈ L.flatten → ofI x L < L.length ∧ x ∈ L.getD (ofI x L) []
  | [], h => by simp at h
  | f :: r, h => by
    rw [ofI]
    split
    · rename_i e; exact ⟨by simp, e⟩
    · rename_i e
      have hr : x ∈ r.flatten := by
        rw [List.flatten_cons, List.mem_append] at h; exact h.resolve_left e
      have := ofI_lt hr
      exact ⟨by simp; exact this.1, by simpa using this.2⟩
theorem ofI_in {x : Int} : ∀ {L M : List (List Int)}, x ∈ L.flatten → ofI x (L ++ M) = ofI x L
  | [], M, h => by simp at h
  | f :: r, M, h => by
    rw [List.cons_append, ofI, ofI]
    split
    · rfl
    · rename_i e
      have hr : x ∈ r.flatten := by
        rw [List.flatten_cons, List.mem_append] at h; exact h.resolve_left e
      rw [ofI_in hr]
theorem ofI_out {x : Int} : ∀ {L M : List (List Int)}, ¬ x ∈ L.flatten → ofI x (L ++ M) = L.length + ofI x M
  | [], M, h => by simp
  | f :: r, M, h => by
    rw [List.flatten_cons, List.mem_append, not_or] at h
    rw [List.cons_append, ofI, if_neg h.1, ofI_out h.2, List.length_cons]; omega
/-- The map from elements to lists. -/
def ofM (L : List (List Int)) : Int → Option Int := fun x => if x ∈ L.flatten then some (ofI x L : Int) else none
theorem ofM_in {L : List (List Int)} {x : Int} (h : x ∈ L.flatten) : ofM L x = some (ofI x L : Int) := by rw [ofM, if_pos h]
theorem ofM_out {L : List (List Int)} {x : Int} (h : ¬ x ∈ L.flatten) : ofM L x = none := by rw [ofM, if_neg h]
theorem ofM_nil : ofM [] = fun _ => none := by funext x; simp [ofM]
theorem ofM_put {A : List (List Int)} {f : List Int} {x : Int} (h : ¬ x ∈ (A ++ [f]).flatten) : (fun y => if y = x then some (A.length : Int) else ofM (A ++ [f]) y) = ofM (A ++ [f ++ [x]]) := by
  funext y
  have hA : ¬ x ∈ A.flatten := fun hx => h (by simp only [List.flatten_append, List.mem_append]; exact .inl hx)
  by_cases e : y = x
  · subst e
    rw [if_pos rfl, ofM_in (by simp), ofI_out hA]
    simp [ofI]
  · rw [if_neg e]
    have hm : y ∈ (A ++ [f ++ [x]]).flatten ↔ y ∈ (A ++ [f]).flatten := by simp [e]
    by_cases hy : y ∈ (A ++ [f]).flatten
    · rw [ofM_in hy, ofM_in (hm.2 hy)]
      by_cases hyA : y ∈ A.flatten
      · rw [ofI_in hyA, ofI_in hyA]
      · rw [ofI_out hyA, ofI_out hyA]
        have hyf : y ∈ f := by
          simp only [List.flatten_append, List.mem_append] at hy
          have := hy.resolve_left hyA
          simpa using this
        simp [ofI, hyf]
    · rw [ofM_out hy, ofM_out (fun h => hy (hm.1 h))]
theorem ofM_new {A : List (List Int)} : ofM (A ++ [[]]) = ofM A := by
  funext y
  have hm : y ∈ (A ++ [[]]).flatten ↔ y ∈ A.flatten := by simp
  by_cases hy : y ∈ A.flatten
  · rw [ofM_in hy, ofM_in (hm.2 hy), ofI_in hy]
  · rw [ofM_out hy, ofM_out (fun h => hy (hm.1 h))]

/-! ### Two colours -/
structure Col (F : List (List Int)) (M : Nat) (d : Nat → Bool) : Prop where
  pos : 0 < M
  mem : ∀ x, -(M : Int) ≤ x → x < M → x ∈ F.flatten
  un : ∀ i j x, i < F.length → j < F.length → x ∈ F.getD i [] → x ∈ F.getD j [] → i = j
  rg : ∀ i x, i < F.length → x ∈ F.getD i [] → -(M : Int) ≤ x ∧ x < M
  z : d (ofI 0 F) = false
  op : ∀ x, -(M : Int) ≤ x → x < M → d (ofI (-1 - x) F) = !d (ofI x F)
  cn : ∀ S : Nat → Bool, S (ofI 0 F) = true → (∀ x, -(M : Int) ≤ x → x < M → S (ofI x F) = true → S (ofI (-1 - x) F) = true) → ∀ i, i < F.length → S i = true
theorem Col.at {F : List (List Int)} {M : Nat} {d : Nat → Bool} (h : Col F M d) {x : Int} (h0 : -(M : Int) ≤ x) (h1 : x < M) : ofI x F < F.length ∧ x ∈ F.getD (ofI x F) [] := ofI_lt (h.mem x h0 h1)
theorem Col.of {F : List (List Int)} {M : Nat} {d : Nat → Bool} (h : Col F M d) {i : Nat} {x : Int} (hi : i < F.length) (hx : x ∈ F.getD i []) : ofI x F = i := by
  have hr := h.rg i x hi hx
  have := h.at hr.1 hr.2
  exact h.un _ _ x this.1 hi this.2 hx
theorem col_of {w s : List Int} {n : Nat} (h : Word w n) (hs : s.all (fun x => decide (x = 1) || decide (x = -1)) = true) (hl : s.length = n) (hg : (facesT (nextT w s) (2 * n)).length = n + 2) : ∃ d, Col (facesT (nextT w s) (2 * n)) (2 * n) d := by
  have hpos := h.pos
  have H := facesT_FK (next_pn h hs hl)
  obtain ⟨X, hX, hXe⟩ := two_colors h hs hl hg
  obtain ⟨F, hF⟩ : ∃ F, F = facesT (nextT w s) (2 * n) := ⟨_, rfl⟩
  rw [← hF] at H ⊢
  have hfac : ∀ i, i < F.length → Fac (nextT w s) (2 * n) (F.getD i []) := fun i hi => H.fac _ (getD_mem' hi)
  have hun : ∀ i j x, i < F.length → j < F.length → x ∈ F.getD i [] → x ∈ F.getD j [] → i = j := fun i j x hi hj h1 h2 => H.disj hi hj h1 h2
  have hrg : ∀ i x, i < F.length → x ∈ F.getD i [] → -((2 * n : Nat) : Int) ≤ x ∧ x < (2 * n : Nat) := fun i x hi hx => H.rg x (List.mem_flatten.2 ⟨_, getD_mem' hi, hx⟩)
  have hmem : ∀ x, -((2 * n : Nat) : Int) ≤ x → x < (2 * n : Nat) → x ∈ F.flatten := fun x h0 h1 => by
    have := nodup_full H.nd H.rg H.len x h0 h1
    exact this
  have hat : ∀ x, -((2 * n : Nat) : Int) ≤ x → x < (2 * n : Nat) → ofI x F < F.length ∧ x ∈ F.getD (ofI x F) [] := fun x h0 h1 => ofI_lt (hmem x h0 h1)
  -- closed sets do not part faces
  have same : ∀ C, Cl (nextT w s) (2 * n) C → ∀ i x y, i < F.length → x ∈ F.getD i [] → y ∈ F.getD i [] → C x = C y := fun C hC i x y hi hx hy => by
    have hh := hfac i hi
    have k1 : ∀ C, Cl (nextT w s) (2 * n) C → ∀ x ∈ F.getD i [], C x = C ((F.getD i []).getD 0 0) := fun C hC x hx => by
      cases e : C ((F.getD i []).getD 0 0) with
      | true => exact hh.ch C hC e x hx
      | false =>
        have hC2 : Cl (nextT w s) (2 * n) fun x => !C x := fun x h0 h1 => by show (!C x) = (!C _); rw [hC x h0 h1]
        have := hh.ch (fun x => !C x) hC2 (by show (!C _) = true; rw [e]; rfl) x hx
        simpa using this
    rw [k1 C hC x hx, k1 C hC y hy]
  have hXo : ∀ x, -((2 * n : Nat) : Int) ≤ x → x < (2 * n : Nat) → X (-1 - x) = !X x := fun x h0 h1 => by
    by_cases hx : 0 ≤ x
    · have := hXe x.toNat (by omega)
      rw [Int.toNat_of_nonneg hx] at this; exact this
    · have := hXe (-1 - x).toNat (by omega)
      rw [Int.toNat_of_nonneg (by omega), show -1 - (-1 - x) = x by omega] at this
      rw [this]; simp
  have hd : ∀ x, -((2 * n : Nat) : Int) ≤ x → x < (2 * n : Nat) → X ((F.getD (ofI x F) []).getD 0 0) = X x := fun x h0 h1 => by
    have := hat x h0 h1
    exact same X hX _ _ _ this.1 (hfac _ this.1).head this.2
  refine ⟨fun i => X ((F.getD i []).getD 0 0) ^^ X 0, by omega, hmem, hun, hrg, ?_, fun x h0 h1 => ?_, fun S hS hcl i hi => ?_⟩
  · show (X ((F.getD (ofI 0 F) []).getD 0 0) ^^ X 0) = false
    rw [hd 0 (by omega) (by omega)]; simp
  · show (X ((F.getD (ofI (-1 - x) F) []).getD 0 0) ^^ X 0) = !(X ((F.getD (ofI x F) []).getD 0 0) ^^ X 0)
    rw [hd _ (by omega) (by omega), hd x h0 h1, hXo x h0 h1]
    cases X x <;> cases X 0 <;> rfl
  · have hY : Cl (nextT w s) (2 * n) fun x => S (ofI x F) := fun x h0 h1 => by
      have h2 := hat x h0 h1
      have h3 := ((hfac _ h2.1).cl x h0 h1).1 h2.2
      have h4 := (next_pn h hs hl).rg x h0 h1
      have h5 := hat _ h4.1 h4.2
      show S (ofI x F) = S (ofI (nextT w s x) F)
      rw [hun _ _ _ h2.1 h5.1 h3 h5.2]
    have hc := conn h hs hl hY fun e he => by
      have k1 := hcl (e : Int) (by omega) (by omega)
      have k2 := hcl (-1 - (e : Int)) (by omega) (by omega)
      rw [show -1 - (-1 - (e : Int)) = e by omega] at k2
      cases e1 : S (ofI (e : Int) F) with
      | true => exact (k1 e1).symm
      | false =>
        cases e2 : S (ofI (-1 - (e : Int)) F) with
        | false => rfl
        | true => rw [k2 e2] at e1; cases e1
    have hx := (hfac i hi).head
    have hr := hrg i _ hi hx
    have := hc _ hr.1 hr.2
    have h2 := hat _ hr.1 hr.2
    rw [hun _ _ _ h2.1 hi h2.2 hx] at this
    rw [this]; exact hS

/-- How many of the first k are white. -/
def whK (d : Nat → Bool) : Nat → Nat
  | 0 => 0
  | k + 1 => whK d k + (d k).toNat
theorem whK_le {d : Nat → Bool} : ∀ {k : Nat}, whK d k ≤ k
  | 0 => Nat.le_refl _
  | k + 1 => by have := whK_le (d := d) (k := k); rw [whK]; cases d k <;> simp <;> omega
theorem whK_pos {d : Nat → Bool} : ∀ {k i : Nat}, i < k → d i = true → 0 < whK d k
  | k + 1, i, hi, hd => by
    rw [whK]
    by_cases e : i = k
    · subst e; rw [hd]; simp
    · have := whK_pos (d := d) (k := k) (i := i) (by omega) hd; omega
theorem whK_lt {d : Nat → Bool} : ∀ {k i : Nat}, i < k → d i = false → whK d k < k
  | k + 1, i, hi, hd => by
    rw [whK]
    by_cases e : i = k
    · subst e; have := whK_le (d := d) (k := i); rw [hd]; simp; omega
    · have := whK_lt (d := d) (k := k) (i := i) (by omega) hd; cases d k <;> simp <;> omega

/-! ### The program's search -/
structure Bf (F : List (List Int)) (d : Nat → Bool) (s H : List Int) (k q : Nat) : Prop where
  len : s.length = F.length
  val : ∀ i, i < F.length → s.getD i 0 = -1 ∨ s.getD i 0 = ((d i).toNat : Int)
  mem : ∀ x ∈ H, 0 ≤ x ∧ x < F.length ∧ 0 ≤ s.getD x.toNat 0
  new : ∀ i : Nat, i < F.length → 0 ≤ s.getD i 0 → (i : Int) ∈ H
  nd : H.Nodup
  kl : k ≤ H.length
  z : 0 ≤ s.getD (ofI 0 F) 0
  don : ∀ i x, i < k → H.getD i 0 = ((x : Nat) : Int) → ∀ p, p < (F.getD x []).length → 0 ≤ s.getD (ofI (-1 - (F.getD x []).getD p 0) F) 0
  par : ∀ x, k < H.length → H.getD k 0 = ((x : Nat) : Int) → ∀ p, p < q → p < (F.getD x []).length → 0 ≤ s.getD (ofI (-1 - (F.getD x []).getD p 0) F) 0
theorem Bf.init {F : List (List Int)} {M : Nat} {d : Nat → Bool} (h : Col F M d) : Bf F d ((List.replicate F.length (-1)).set (ofI 0 F) 0) [(ofI 0 F : Int)] 0 0 := by
  have hp := h.pos
  have h0 := h.at (x := 0) (by omega) (by omega)
  have hg : ∀ i, i < F.length → ((List.replicate F.length (-1 : Int)).set (ofI 0 F) 0).getD i 0 = if i = ofI 0 F then 0 else -1 := fun i hi => by
    rw [set_get (by simp; exact h0.1)]
    split
    · rfl
    · simp [List.getD, hi]
  refine ⟨by simp, fun i hi => ?_, fun x hx => ?_, fun i hi h1 => ?_, by simp, by simp, ?_, by omega, by omega⟩
  · rw [hg i hi]
    split
    · rename_i e; subst e; rw [h.z]; exact .inr rfl
    · exact .inl rfl
  · simp at hx; subst hx
    refine ⟨by omega, by omega, ?_⟩
    rw [Int.toNat_natCast, hg _ h0.1, if_pos rfl]; omega
  · rw [hg i hi] at h1
    split at h1
    · rename_i e; subst e; simp
    · omega
  · rw [hg _ h0.1, if_pos rfl]; omega
theorem Bf.lenH {F : List (List Int)} {d : Nat → Bool} {s H : List Int} {k q : Nat} (h : Bf F d s H k q) : H.length ≤ F.length := by
  have := nodup_lt (n := F.length) (l := H.map Int.toNat) ?_ fun x hx => ?_
  · simpa using this
  · rw [List.nodup_iff_pairwise_ne, List.pairwise_map]
    refine List.Pairwise.imp_of_mem (fun {a b} ha hb hab => ?_) (List.nodup_iff_pairwise_ne.1 h.nd)
    have := h.mem a ha; have := h.mem b hb; omega
  · obtain ⟨a, ha, rfl⟩ := List.mem_map.1 hx
    have := h.mem a ha; omega
theorem Bf.at {F : List (List Int)} {d : Nat → Bool} {s H : List Int} {k q : Nat} (h : Bf F d s H k q) (hk : k < H.length) : ∃ x : Nat, H.getD k 0 = (x : Int) ∧ x < F.length ∧ s.getD x 0 = ((d x).toNat : Int) := by
  have := h.mem _ (mem_getD hk)
  refine ⟨(H.getD k 0).toNat, by omega, by omega, ?_⟩
  have hv := h.val (H.getD k 0).toNat (by omega); omega
theorem Bf.skip {F : List (List Int)} {d : Nat → Bool} {s H : List Int} {k q x : Nat} (h : Bf F d s H k q) (hx : H.getD k 0 = (x : Int)) (hs : 0 ≤ s.getD (ofI (-1 - (F.getD x []).getD q 0) F) 0) : Bf F d s H k (q + 1) := by
  refine ⟨h.len, h.val, h.mem, h.new, h.nd, h.kl, h.z, h.don, fun x' hk hx' p hp hpl => ?_⟩
  have : x' = x := by omega
  subst this
  by_cases e : p = q
  · subst e; exact hs
  · exact h.par x' hk hx' p (by omega) hpl
theorem Bf.put {F : List (List Int)} {M : Nat} {d : Nat → Bool} (hc : Col F M d) {s H : List Int} {k q x y : Nat} (h : Bf F d s H k q) (hk : k < H.length) (hx : H.getD k 0 = (x : Int)) (hq : q < (F.getD x []).length) (hy : y = ofI (-1 - (F.getD x []).getD q 0) F) (hs : s.getD y 0 < 0) :
    Bf F d (s.set y (1 - s.getD x 0)) (H ++ [(y : Int)]) k (q + 1) := by
  obtain ⟨x', hx', hxl, hxv⟩ := h.at hk
  have : x' = x := by omega
  subst this
  have hm : (F.getD x' []).getD q 0 ∈ F.getD x' [] := mem_getD hq
  have hr := hc.rg x' _ hxl hm
  have hyl := (hc.at (x := -1 - (F.getD x' []).getD q 0) (by omega) (by omega)).1
  rw [← hy] at hyl
  have ho := hc.op _ hr.1 hr.2
  rw [hc.of hxl hm, ← hy] at ho
  have hysl : y < s.length := by rw [h.len]; exact hyl
  have hw : 1 - s.getD x' 0 = ((d y).toNat : Int) := by rw [hxv, ho]; cases d x' <;> rfl
  rw [hw]
  have hge : ∀ i, 0 ≤ s.getD i 0 → (s.set y ((d y).toNat : Int)).getD i 0 = s.getD i 0 := fun i hi => by rw [set_get hysl, if_neg (by rintro rfl; omega)]
  have hyy : (s.set y ((d y).toNat : Int)).getD y 0 = ((d y).toNat : Int) := by rw [set_get hysl, if_pos rfl]
  have hge2 : ∀ i, 0 ≤ s.getD i 0 → 0 ≤ (s.set y ((d y).toNat : Int)).getD i 0 := fun i hi => by rw [hge i hi]; exact hi
  have hyH : ¬ (y : Int) ∈ H := fun hm => by have := h.mem _ hm; rw [Int.toNat_natCast] at this; omega
  refine ⟨by rw [List.length_set]; exact h.len, fun i hi => ?_, fun a ha => ?_, fun i hi h0 => ?_, ?_, by simp; have := h.kl; omega, hge2 _ h.z, fun i a hi ha p hp => ?_, fun a _ ha p hp hpl => ?_⟩
  · rw [set_get hysl]
    split
    · rename_i e; subst e; exact .inr rfl
    · exact h.val i hi
  · rcases List.mem_append.1 ha with ha | ha
    · have := h.mem a ha; exact ⟨this.1, this.2.1, hge2 _ this.2.2⟩
    · simp at ha; subst ha; exact ⟨by omega, by omega, by rw [Int.toNat_natCast, hyy]; omega⟩
  · rw [set_get hysl] at h0
    split at h0
    · rename_i e; subst e; simp
    · exact List.mem_append.2 (.inl (h.new i hi h0))
  · rw [List.nodup_append]
    refine ⟨h.nd, by simp, fun a ha b hb => ?_⟩
    simp at hb; subst hb
    rintro rfl; exact hyH ha
  · have hil : i < H.length := by have := h.kl; omega
    rw [getD_app, if_pos hil] at ha
    exact hge2 _ (h.don i a hi ha p hp)
  · rw [getD_app, if_pos hk] at ha
    have : a = x' := by omega
    subst this
    by_cases e : p = q
    · subst e; rw [← hy, hyy]; omega
    · exact hge2 _ (h.par a hk hx' p (by omega) hpl)
theorem Bf.next {F : List (List Int)} {d : Nat → Bool} {s H : List Int} {k x : Nat} (h : Bf F d s H k (F.getD x []).length) (hk : k < H.length) (hx : H.getD k 0 = (x : Int)) : Bf F d s H (k + 1) 0 := by
  refine ⟨h.len, h.val, h.mem, h.new, h.nd, hk, h.z, fun i a hi ha p hp => ?_, fun _ _ _ p hp => by omega⟩
  by_cases e : i = k
  · subst e
    have : a = x := by omega
    subst this
    exact h.par a hk ha p hp hp
  · exact h.don i a (by omega) ha p hp
theorem Bf.done {F : List (List Int)} {M : Nat} {d : Nat → Bool} (hc : Col F M d) {s H : List Int} {q : Nat} (h : Bf F d s H H.length q) : ∀ i, i < F.length → s.getD i 0 = ((d i).toNat : Int) := by
  have hall := hc.cn (fun i => decide (0 ≤ s.getD i 0)) (decide_eq_true h.z) fun x h0 h1 hx => by
    have h2 := hc.at h0 h1
    have h3 := h.new _ h2.1 (of_decide_eq_true hx)
    obtain ⟨i, hi, hgi⟩ := getD_mem h3
    obtain ⟨p, hp, hgp⟩ := getD_mem h2.2
    have := h.don i _ hi hgi p hp
    rw [hgp] at this
    exact decide_eq_true this
  intro i hi
  have := of_decide_eq_true (hall i hi)
  have hv := h.val i hi; omega
end Go.Scr
