/- Joined of: S31 Sd2 S27 S28 S11 S13 S17 Sk1 Sk2 Sm10 Sk3 Sk4 S38. No condition. -/
import Derived.Test.YtdfajcfkdfjoeabJ5
import Derived.Test.YtdfajcfkdfjoeabJ4

/- The colours of the faces: the program's. No condition. -/
namespace Go.Proofs.Ytdfajcfkdfjoeab
open Go Go.Vc Go.Scr
set_option linter.unusedVariables false
set_option linter.unusedSimpArgs false

theorem mi_eq' {m m' : Int → Option Int} {c c' : Nat} (h : m = m') (hc : c = c') : Ob.mp .i64 (.int .i64) m c = Ob.mp .i64 (.int .i64) m' c' := by rw [h, hc]
theorem Colors_no {w s : List Int} (h : ¬ whyT w s = 0) (hl : w.length ≤ 1000) (hs : s.length ≤ 1000) : FnAt Try.prog false 8 [.arr (.int .i64) w, .arr (.int .i64) s] (.tup [.lit (.int .i64 0), .lit (.int .i64 0), .lit (.int .i64 (whyT w s))]) [] := by
  refine FnAt.of_body tys_ok Try.func8 (by rfl) rfl Try.ntmps8 (by rw [Try.results8]) (by simp) ?_
  
  repeat' (first
 | refine W.seq ?_
 | refine W.block ?_
 | (refine W.region tys_ok [] ?_; conv => whnf)
 | (refine W.drawAll tys_ok [] mixed rfl ?_; conv => whnf)
 | (refine W.ret ?_; conv => whnf)
 | (refine W.skip ?_; conv => whnf)
 | (refine W.exit ?_; conv => whnf)
 | (refine call_at (al := true) (signed_no h hl hs) rfl rfl rfl rfl ?_; conv => whnf)

    | (refine W.cond rfl (fun hb => ?_) (fun hb => ?_) <;> (try simp only [Int.reduceToNat, Int.reduceTDiv, Int.reduceTMod, minL, maxL, pickB, zHB] at hb) <;> (try (first | (cases hb; done) | exact absurd hb (by decide) | (exfalso; omega))))
    | ((with_reducible refine And.intro ?_ ?_); (focus ((repeat' (first | (with_reducible rfl) | (with_reducible refine And.intro ?_ ?_) | omega | rfl | exact Or.inl rfl | exact Or.inr rfl | exact of_decide_eq_true rfl | exact Path.imp_of (of_decide_eq_true rfl) | (focus ((try simp only [Int.reduceToNat, Int.reduceTDiv, Int.reduceTMod, minL, maxL, pickB, zHB, InK, Path.imp, List.length_replicate, List.length_set, List.length_append, List.length_cons, List.length_nil] at *); omega)) | (refine app_le rfl ?_; omega))); done)); (conv => whnf))
    | ((with_reducible refine And.intro (Side.out ?_) ?_); rotate_left; (conv => whnf))
    | (refine retF1 ?_ <;> (conv => whnf) <;> repeat' (first
 | exact trivial
 | (with_reducible rfl)
 | ((with_reducible refine And.intro ?_ ?_) <;> conv => whnf)
 | omega
 | rfl
 | (refine congrArg (SV.arr _) ?_)
 | (refine congrArg (Value.int _) ?_)
 | (refine congrArg Value.bool ?_)))
 | (refine retF2 ?_ <;> (conv => whnf) <;> repeat' (first
 | exact trivial
 | (with_reducible rfl)
 | ((with_reducible refine And.intro ?_ ?_) <;> conv => whnf)
 | omega
 | rfl
 | (refine congrArg (SV.arr _) ?_)
 | (refine congrArg (Value.int _) ?_)
 | (refine congrArg Value.bool ?_)))); all_goals (try unfold Side)
  all_goals try (repeat' (first | (with_reducible rfl) | (with_reducible refine And.intro ?_ ?_) | omega | rfl | exact Or.inl rfl | exact Or.inr rfl | exact of_decide_eq_true rfl | exact Path.imp_of (of_decide_eq_true rfl) | (focus ((try simp only [Int.reduceToNat, Int.reduceTDiv, Int.reduceTMod, minL, maxL, pickB, zHB, InK, Path.imp, List.length_replicate, List.length_set, List.length_append, List.length_cons, List.length_nil] at *); omega)) | (refine app_le rfl ?_; omega)))
theorem Colors_none {w s : List Int} {n : Nat} (h : Word w n) (hn : n ≤ 10) (hs : signsB s n = true) (hg : ¬ genusT n w s = 0) : FnAt Try.prog false 8 [.arr (.int .i64) w, .arr (.int .i64) s] (.tup [.lit (.int .i64 0), .lit (.int .i64 0), .lit (.int .i64 5)]) [] := by
  refine FnAt.of_body tys_ok Try.func8 (by rfl) rfl Try.ntmps8 (by rw [Try.results8]) (by simp) ?_
  
  repeat' (first
 | refine W.seq ?_
 | refine W.block ?_
 | (refine W.region tys_ok [] ?_; conv => whnf)
 | (refine W.drawAll tys_ok [] mixed rfl ?_; conv => whnf)
 | (refine W.ret ?_; conv => whnf)
 | (refine W.skip ?_; conv => whnf)
 | (refine W.exit ?_; conv => whnf)
 | (refine call_at (al := true) (signed_ok h hn hs) rfl rfl rfl rfl ?_; conv => whnf)
 | (refine call_at (al := false) (genus_at h hn hs) rfl rfl rfl rfl ?_; conv => whnf)

    | (refine W.cond rfl (fun hb => ?_) (fun hb => ?_) <;> (try simp only [Int.reduceToNat, Int.reduceTDiv, Int.reduceTMod, minL, maxL, pickB, zHB] at hb) <;> (try (first | (cases hb; done) | exact absurd hb (by decide) | (exfalso; omega))))
    | ((with_reducible refine And.intro ?_ ?_); (focus ((repeat' (first | (with_reducible rfl) | (with_reducible refine And.intro ?_ ?_) | omega | rfl | exact Or.inl rfl | exact Or.inr rfl | exact of_decide_eq_true rfl | exact Path.imp_of (of_decide_eq_true rfl) | (focus ((try simp only [Int.reduceToNat, Int.reduceTDiv, Int.reduceTMod, minL, maxL, pickB, zHB, InK, Path.imp, List.length_replicate, List.length_set, List.length_append, List.length_cons, List.length_nil] at *); omega)) | (refine app_le rfl ?_; omega))); done)); (conv => whnf))
    | ((with_reducible refine And.intro (Side.out ?_) ?_); rotate_left; (conv => whnf))
    | (refine retF1 ?_ <;> (conv => whnf) <;> repeat' (first
 | exact trivial
 | (with_reducible rfl)
 | ((with_reducible refine And.intro ?_ ?_) <;> conv => whnf)
 | omega
 | rfl
 | (refine congrArg (SV.arr _) ?_)
 | (refine congrArg (Value.int _) ?_)
 | (refine congrArg Value.bool ?_)))
 | (refine retF2 ?_ <;> (conv => whnf) <;> repeat' (first
 | exact trivial
 | (with_reducible rfl)
 | ((with_reducible refine And.intro ?_ ?_) <;> conv => whnf)
 | omega
 | rfl
 | (refine congrArg (SV.arr _) ?_)
 | (refine congrArg (Value.int _) ?_)
 | (refine congrArg Value.bool ?_)))); all_goals (try unfold Side)
  all_goals try (repeat' (first | (with_reducible rfl) | (with_reducible refine And.intro ?_ ?_) | omega | rfl | exact Or.inl rfl | exact Or.inr rfl | exact of_decide_eq_true rfl | exact Path.imp_of (of_decide_eq_true rfl) | (focus ((try simp only [Int.reduceToNat, Int.reduceTDiv, Int.reduceTMod, minL, maxL, pickB, zHB, InK, Path.imp, List.length_replicate, List.length_set, List.length_append, List.length_cons, List.length_nil] at *); omega)) | (refine app_le rfl ?_; omega)))
theorem ofM_get {F : List (List Int)} {x : Int} (h : x ∈ F.flatten) : (ofM F x).getD 0 = (ofI x F : Int) := by rw [ofM_in h]; rfl
theorem take_get {xs : List Int} {j : Nat} (h : j < xs.length) : xs.take (j + 1) = xs.take j ++ [xs.getD j 0] := by
  rw [List.take_add_one]; simp [List.getD, h]
set_option maxHeartbeats 16000000 in
theorem Colors_ok {w s : List Int} {n : Nat} (h : Word w n) (hn : n ≤ 10) (hs : signsB s n = true) (hg : genusT n w s = 0) {d : Nat → Bool} (hd : Col (facesT (nextT w s) (2 * n)) (2 * n) d) :
    FnAt Try.prog false 8 [.arr (.int .i64) w, .arr (.int .i64) s] (.tup [.lit (.int .i64 ((n + 2 : Nat) - (whK d (n + 2) : Int))), .lit (.int .i64 (whK d (n + 2))), .lit (.int .i64 0)]) [] := by
  have hp := h.pos
  have hs' := hs
  simp only [signsB, Bool.and_eq_true, decide_eq_true_eq] at hs'
  have hgk := (genus_ok h hs'.1 hs'.2).2
  have hgen := genus_at h hn hs
  have hfac := faces_at h hn hs
  have H := facesT_FK (next_pn h hs'.1 hs'.2)
  rw [hg] at hgk hgen
  obtain ⟨F, hF⟩ : ∃ F, F = facesT (nextT w s) (2 * n) := ⟨_, rfl⟩
  rw [← hF] at hd hgk hfac H
  clear hF
  have hFl : F.length = n + 2 := by omega
  have hFl2 : @List.length (Ty.sl (.int .i64)).T F = n + 2 := hFl
  rw [← hFl]
  have H1 := fun j q hj hq => H.at (j := j) (q := q) hj hq
  have H4 := H.len
  have H5 := fun j => flat_len (F := F) (j := j)
  have H6 := fun j hj => flat_take (F := F) (j := j) hj
  have H7 := fun j hj => take_face (F := F) (j := j) hj
  have hz := hd.mem 0 (by omega) (by omega)
  have hz0 := ofM_get hz
  have hzl := (hd.at (x := 0) (by omega) (by omega)).1
  have hrep := repeat_at (n := F.length) (by omega) (by omega)
  have hini := Bf.init hd
  have hfl40 : ∀ j, j < F.length → (F.getD j []).length ≤ 40 := fun j hj => by
    have h6 := H6 j hj
    have h5 := H5 (j + 1)
    rw [h6, List.length_append] at h5; omega
  refine FnAt.of_body tys_ok Try.func8 (by rfl) rfl Try.ntmps8 (by rw [Try.results8]) (by simp) ?_
  
  repeat' (first
 | refine W.seq ?_
 | refine W.block ?_
 | (refine W.region tys_ok [40] ?_; conv => whnf)
 | (refine W.drawAll tys_ok [40] mixed rfl ?_; conv => whnf)
 | (refine W.ret ?_; conv => whnf)
 | (refine W.skip ?_; conv => whnf)
 | (refine W.exit ?_; conv => whnf)
 | (refine call_at (al := true) (signed_ok h hn hs) rfl rfl rfl rfl ?_; conv => whnf)
 | (refine call_at (al := false) (hgen) rfl rfl rfl rfl ?_; conv => whnf)
 | (refine call_at (al := false) (hfac) rfl rfl rfl rfl ?_; conv => whnf)

    | (refine W.cond rfl (fun hb => ?_) (fun hb => ?_) <;> (try simp only [Int.reduceToNat, Int.reduceTDiv, Int.reduceTMod, minL, maxL, pickB, zHB] at hb) <;> (try (first | (cases hb; done) | exact absurd hb (by decide) | (exfalso; omega))))
    | ((with_reducible refine And.intro ?_ ?_); (focus ((repeat' (first | (with_reducible rfl) | (with_reducible refine And.intro ?_ ?_) | omega | rfl | exact Or.inl rfl | exact Or.inr rfl | exact of_decide_eq_true rfl | exact Path.imp_of (of_decide_eq_true rfl) | (focus ((try simp only [Int.reduceToNat, Int.reduceTDiv, Int.reduceTMod, minL, maxL, pickB, zHB, InK, Path.imp, List.length_replicate, List.length_set, List.length_append, List.length_cons, List.length_nil] at *); omega)) | (refine app_le rfl ?_; omega))); done)); (conv => whnf))
    | ((with_reducible refine And.intro (Side.out ?_) ?_); rotate_left; (conv => whnf))
    | (refine retF1 ?_ <;> (conv => whnf) <;> repeat' (first
 | exact trivial
 | (with_reducible rfl)
 | ((with_reducible refine And.intro ?_ ?_) <;> conv => whnf)
 | omega
 | rfl
 | (refine congrArg (SV.arr _) ?_)
 | (refine congrArg (Value.int _) ?_)
 | (refine congrArg Value.bool ?_)))
 | (refine retF2 ?_ <;> (conv => whnf) <;> repeat' (first
 | exact trivial
 | (with_reducible rfl)
 | ((with_reducible refine And.intro ?_ ?_) <;> conv => whnf)
 | omega
 | rfl
 | (refine congrArg (SV.arr _) ?_)
 | (refine congrArg (Value.int _) ?_)
 | (refine congrArg Value.bool ?_)))); all_goals (try unfold Side)
  all_goals try (repeat' (first | (with_reducible rfl) | (with_reducible refine And.intro ?_ ?_) | omega | rfl | exact Or.inl rfl | exact Or.inr rfl | exact of_decide_eq_true rfl | exact Path.imp_of (of_decide_eq_true rfl) | (focus ((try simp only [Int.reduceToNat, Int.reduceTDiv, Int.reduceTMod, minL, maxL, pickB, zHB, InK, Path.imp, List.length_replicate, List.length_set, List.length_append, List.length_cons, List.length_nil] at *); omega)) | (refine app_le rfl ?_; omega)))
  refine W.loop (fun i : Nat => ⟨[(9, .st true (.arr (.sl (.int .i64)) (F : List (List Int)))), (10, .own 900010), (42, .st true (.arr (.sl (.int .i64)) (F : List (List Int)))), (43, .lit (.int .i64 ((F.length : Nat)))), (44, .lit (.int .i64 (i)))], [(900010, .mp .i64 (.int .i64) (ofM (F.take i)) (F.take i).flatten.length)]⟩) (fun i => i ≤ F.length) (fun i => F.length - i) (0) ?_ ?_
  · refine ⟨Nat.zero_le _, ?_⟩
    refine subF.ok ?_ <;> (conv => whnf) <;> repeat' (first
 | exact trivial
 | (with_reducible rfl)
 | ((with_reducible refine And.intro ?_ ?_) <;> conv => whnf)
 | omega
 | rfl
 | (refine congrArg (SV.arr _) ?_)
 | (refine congrArg (Value.int _) ?_)
 | (refine congrArg Value.bool ?_))
    all_goals exact mi_eq' ofM_nil.symm rfl
  · intro i hi
    by_cases hil : i < F.length
    · have h40 := hfl40 i hil
      have hfe : @List.length (Ty.int .i64).T (F.getD i []) = (F.getD i []).length := rfl
      repeat' (first
 | refine W.seq ?_
 | refine W.block ?_
 | (refine W.region tys_ok [] ?_; conv => whnf)
 | (refine W.drawAll tys_ok [] mixed rfl ?_; conv => whnf)
 | (refine W.ret ?_; conv => whnf)
 | (refine W.skip ?_; conv => whnf)
 | (refine W.exit ?_; conv => whnf)

    | (refine W.cond rfl (fun hb => ?_) (fun hb => ?_) <;> (try simp only [Int.reduceToNat, Int.reduceTDiv, Int.reduceTMod, minL, maxL, pickB, zHB] at hb) <;> (try (first | (cases hb; done) | exact absurd hb (by decide) | (exfalso; omega))))
    | ((with_reducible refine And.intro ?_ ?_); (focus ((repeat' (first | (with_reducible rfl) | (with_reducible refine And.intro ?_ ?_) | omega | rfl | exact Or.inl rfl | exact Or.inr rfl | exact of_decide_eq_true rfl | exact Path.imp_of (of_decide_eq_true rfl) | (focus ((try simp only [Int.reduceToNat, Int.reduceTDiv, Int.reduceTMod, minL, maxL, pickB, zHB, InK, Path.imp, List.length_replicate, List.length_set, List.length_append, List.length_cons, List.length_nil] at *); omega)) | (refine app_le rfl ?_; omega))); done)); (conv => whnf))
    | ((with_reducible refine And.intro (Side.out ?_) ?_); rotate_left; (conv => whnf))
    | (refine retF1 ?_ <;> (conv => whnf) <;> repeat' (first
 | exact trivial
 | (with_reducible rfl)
 | ((with_reducible refine And.intro ?_ ?_) <;> conv => whnf)
 | omega
 | rfl
 | (refine congrArg (SV.arr _) ?_)
 | (refine congrArg (Value.int _) ?_)
 | (refine congrArg Value.bool ?_)))
 | (refine retF2 ?_ <;> (conv => whnf) <;> repeat' (first
 | exact trivial
 | (with_reducible rfl)
 | ((with_reducible refine And.intro ?_ ?_) <;> conv => whnf)
 | omega
 | rfl
 | (refine congrArg (SV.arr _) ?_)
 | (refine congrArg (Value.int _) ?_)
 | (refine congrArg Value.bool ?_)))); all_goals (try unfold Side)
      all_goals try (repeat' (first | (with_reducible rfl) | (with_reducible refine And.intro ?_ ?_) | omega | rfl | exact Or.inl rfl | exact Or.inr rfl | exact of_decide_eq_true rfl | exact Path.imp_of (of_decide_eq_true rfl) | (focus ((try simp only [Int.reduceToNat, Int.reduceTDiv, Int.reduceTMod, minL, maxL, pickB, zHB, InK, Path.imp, List.length_replicate, List.length_set, List.length_append, List.length_cons, List.length_nil] at *); omega)) | (refine app_le rfl ?_; omega)))
      refine W.loop (fun q : Nat => ⟨[(9, .st true (.arr (.sl (.int .i64)) (F : List (List Int)))), (10, .own 900010), (42, .st true (.arr (.sl (.int .i64)) (F : List (List Int)))), (43, .lit (.int .i64 ((F.length : Nat)))), (44, .lit (.int .i64 (i))), (11, .lit (.int .i64 (i))), (49, .st true (.arr (.int .i64) ((F.getD i []) : List Int))), (50, .lit (.int .i64 ((F.getD i []).length))), (51, .lit (.int .i64 (q)))], [(900010, .mp .i64 (.int .i64) (ofM (F.take i ++ [(F.getD i []).take q])) (F.take i ++ [(F.getD i []).take q]).flatten.length)]⟩) (fun q => q ≤ (F.getD i []).length) (fun q => (F.getD i []).length - q) (0) ?_ ?_
      · refine ⟨Nat.zero_le _, ?_⟩
        refine subF.ok ?_ <;> (conv => whnf) <;> repeat' (first
 | exact trivial
 | (with_reducible rfl)
 | ((with_reducible refine And.intro ?_ ?_) <;> conv => whnf)
 | omega
 | rfl
 | (refine congrArg (SV.arr _) ?_)
 | (refine congrArg (Value.int _) ?_)
 | (refine congrArg Value.bool ?_))
        all_goals exact mi_eq' (by rw [List.take_zero, ofM_new]) (by simp)
      · intro q hq
        by_cases hql : q < (F.getD i []).length
        · obtain ⟨k1, k2, k3, k4⟩ := H1 i q hil hql
          have hni : ¬ (F.getD i []).getD q 0 ∈ (F.take i ++ [(F.getD i []).take q]).flatten := by simpa using k3
          have hput := ofM_put hni
          have htl : (F.take i).length = i := by rw [List.length_take]; omega
          rw [htl, ← take_get hql] at hput
          have hno : (ofM (F.take i ++ [(F.getD i []).take q]) ((F.getD i []).getD q 0)).isSome = false := by rw [ofM_out hni]; rfl
          have hm : Ob.mp .i64 (.int .i64) (mput (ofM (F.take i ++ [(F.getD i []).take q])) ((F.getD i []).getD q 0) (i : Int)) (if (ofM (F.take i ++ [(F.getD i []).take q]) ((F.getD i []).getD q 0)).isSome = true then (F.take i ++ [(F.getD i []).take q]).flatten.length else (F.take i ++ [(F.getD i []).take q]).flatten.length + 1) = Ob.mp .i64 (.int .i64) (ofM (F.take i ++ [(F.getD i []).take (q + 1)])) (F.take i ++ [(F.getD i []).take (q + 1)]).flatten.length :=
            mi_eq' hput (by rw [hno, take_get hql]; simp; omega)
          repeat' (first
 | refine W.seq ?_
 | refine W.block ?_
 | (refine W.region tys_ok [] ?_; conv => whnf)
 | (refine W.drawAll tys_ok [] mixed rfl ?_; conv => whnf)
 | (refine W.ret ?_; conv => whnf)
 | (refine W.skip ?_; conv => whnf)
 | (refine W.exit ?_; conv => whnf)

    | (refine W.cond rfl (fun hb => ?_) (fun hb => ?_) <;> (try simp only [Int.reduceToNat, Int.reduceTDiv, Int.reduceTMod, minL, maxL, pickB, zHB] at hb) <;> (try (first | (cases hb; done) | exact absurd hb (by decide) | (exfalso; omega))))
    | ((with_reducible refine And.intro ?_ ?_); (focus ((repeat' (first | (with_reducible rfl) | (with_reducible refine And.intro ?_ ?_) | omega | rfl | exact Or.inl rfl | exact Or.inr rfl | exact of_decide_eq_true rfl | exact Path.imp_of (of_decide_eq_true rfl) | (focus ((try simp only [Int.reduceToNat, Int.reduceTDiv, Int.reduceTMod, minL, maxL, pickB, zHB, InK, Path.imp, List.length_replicate, List.length_set, List.length_append, List.length_cons, List.length_nil] at *); omega)) | (refine app_le rfl ?_; omega))); done)); (conv => whnf))
    | ((with_reducible refine And.intro (Side.out ?_) ?_); rotate_left; (conv => whnf))
    | (refine retF1 ?_ <;> (conv => whnf) <;> repeat' (first
 | exact trivial
 | (with_reducible rfl)
 | ((with_reducible refine And.intro ?_ ?_) <;> conv => whnf)
 | omega
 | rfl
 | (refine congrArg (SV.arr _) ?_)
 | (refine congrArg (Value.int _) ?_)
 | (refine congrArg Value.bool ?_)))
 | (refine retF2 ?_ <;> (conv => whnf) <;> repeat' (first
 | exact trivial
 | (with_reducible rfl)
 | ((with_reducible refine And.intro ?_ ?_) <;> conv => whnf)
 | omega
 | rfl
 | (refine congrArg (SV.arr _) ?_)
 | (refine congrArg (Value.int _) ?_)
 | (refine congrArg Value.bool ?_)))); all_goals (try unfold Side)
          all_goals try (repeat' (first | (with_reducible rfl) | (with_reducible refine And.intro ?_ ?_) | omega | rfl | exact Or.inl rfl | exact Or.inr rfl | exact of_decide_eq_true rfl | exact Path.imp_of (of_decide_eq_true rfl) | (focus ((try simp only [Int.reduceToNat, Int.reduceTDiv, Int.reduceTMod, minL, maxL, pickB, zHB, InK, Path.imp, List.length_replicate, List.length_set, List.length_append, List.length_cons, List.length_nil] at *); omega)) | (refine app_le rfl ?_; omega)))
          refine ⟨q + 1, ⟨by omega, by omega⟩, ?_⟩
          refine subF.ok ?_ <;> (conv => whnf) <;> repeat' (first
 | exact trivial
 | (with_reducible rfl)
 | ((with_reducible refine And.intro ?_ ?_) <;> conv => whnf)
 | omega
 | rfl
 | (refine congrArg (SV.arr _) ?_)
 | (refine congrArg (Value.int _) ?_)
 | (refine congrArg Value.bool ?_))
          all_goals exact hm
        · have hqe : (F.getD i []).length = q := by omega
          subst hqe
          repeat' (first
 | refine W.seq ?_
 | refine W.block ?_
 | (refine W.region tys_ok [] ?_; conv => whnf)
 | (refine W.drawAll tys_ok [] mixed rfl ?_; conv => whnf)
 | (refine W.ret ?_; conv => whnf)
 | (refine W.skip ?_; conv => whnf)
 | (refine W.exit ?_; conv => whnf)

    | (refine W.cond rfl (fun hb => ?_) (fun hb => ?_) <;> (try simp only [Int.reduceToNat, Int.reduceTDiv, Int.reduceTMod, minL, maxL, pickB, zHB] at hb) <;> (try (first | (cases hb; done) | exact absurd hb (by decide) | (exfalso; omega))))
    | ((with_reducible refine And.intro ?_ ?_); (focus ((repeat' (first | (with_reducible rfl) | (with_reducible refine And.intro ?_ ?_) | omega | rfl | exact Or.inl rfl | exact Or.inr rfl | exact of_decide_eq_true rfl | exact Path.imp_of (of_decide_eq_true rfl) | (focus ((try simp only [Int.reduceToNat, Int.reduceTDiv, Int.reduceTMod, minL, maxL, pickB, zHB, InK, Path.imp, List.length_replicate, List.length_set, List.length_append, List.length_cons, List.length_nil] at *); omega)) | (refine app_le rfl ?_; omega))); done)); (conv => whnf))
    | ((with_reducible refine And.intro (Side.out ?_) ?_); rotate_left; (conv => whnf))
    | (refine retF1 ?_ <;> (conv => whnf) <;> repeat' (first
 | exact trivial
 | (with_reducible rfl)
 | ((with_reducible refine And.intro ?_ ?_) <;> conv => whnf)
 | omega
 | rfl
 | (refine congrArg (SV.arr _) ?_)
 | (refine congrArg (Value.int _) ?_)
 | (refine congrArg Value.bool ?_)))
 | (refine retF2 ?_ <;> (conv => whnf) <;> repeat' (first
 | exact trivial
 | (with_reducible rfl)
 | ((with_reducible refine And.intro ?_ ?_) <;> conv => whnf)
 | omega
 | rfl
 | (refine congrArg (SV.arr _) ?_)
 | (refine congrArg (Value.int _) ?_)
 | (refine congrArg Value.bool ?_)))); all_goals (try unfold Side)
          all_goals try (repeat' (first | (with_reducible rfl) | (with_reducible refine And.intro ?_ ?_) | omega | rfl | exact Or.inl rfl | exact Or.inr rfl | exact of_decide_eq_true rfl | exact Path.imp_of (of_decide_eq_true rfl) | (focus ((try simp only [Int.reduceToNat, Int.reduceTDiv, Int.reduceTMod, minL, maxL, pickB, zHB, InK, Path.imp, List.length_replicate, List.length_set, List.length_append, List.length_cons, List.length_nil] at *); omega)) | (refine app_le rfl ?_; omega)))
          refine ⟨i + 1, ⟨by omega, by omega⟩, ?_⟩
          refine subF.ok ?_ <;> (conv => whnf) <;> repeat' (first
 | exact trivial
 | (with_reducible rfl)
 | ((with_reducible refine And.intro ?_ ?_) <;> conv => whnf)
 | omega
 | rfl
 | (refine congrArg (SV.arr _) ?_)
 | (refine congrArg (Value.int _) ?_)
 | (refine congrArg Value.bool ?_))
          all_goals exact mi_eq' (by rw [List.take_length, H7 i hil]) (by rw [List.take_length, H7 i hil])
    · have hie : F.length = i := by omega
      subst hie
      have htk : ofM (F.take F.length) = ofM F := by rw [List.take_length]
      have htl : (F.take F.length).flatten.length = F.flatten.length := by rw [List.take_length]
      rw [htk, htl]
      have hq1 : 0 ≤ (ofM F 0).getD 0 ∧ Int.toNat ((ofM F 0).getD 0) < @List.length (Ty.int .i64).T (List.replicate F.length (-1 : Int)) := by
        rw [hz0]
        show _ ∧ _ < (List.replicate F.length (-1 : Int)).length
        rw [List.length_replicate]; omega
      have hq2 : (List.replicate F.length (-1 : Int)).set (Int.toNat ((ofM F 0).getD 0)) 0 = (List.replicate F.length (-1)).set (ofI 0 F) 0 := by rw [hz0]; rfl
      have hq3 : [(ofM F 0).getD 0] = List.drop 0 [(ofI 0 F : Int)] := by rw [hz0]; rfl
      repeat' (first
 | refine W.seq ?_
 | refine W.block ?_
 | (refine W.region tys_ok [] ?_; conv => whnf)
 | (refine W.drawAll tys_ok [] mixed rfl ?_; conv => whnf)
 | (refine W.ret ?_; conv => whnf)
 | (refine W.skip ?_; conv => whnf)
 | (refine W.exit ?_; conv => whnf)
 | (refine call_at (al := false) (hrep) rfl rfl rfl rfl ?_; conv => whnf)

    | (refine W.cond rfl (fun hb => ?_) (fun hb => ?_) <;> (try simp only [Int.reduceToNat, Int.reduceTDiv, Int.reduceTMod, minL, maxL, pickB, zHB] at hb) <;> (try (first | (cases hb; done) | exact absurd hb (by decide) | (exfalso; omega))))
    | ((with_reducible refine And.intro ?_ ?_); (focus ((repeat' (first | (with_reducible rfl) | (with_reducible refine And.intro ?_ ?_) | omega | rfl | exact Or.inl rfl | exact Or.inr rfl | exact of_decide_eq_true rfl | exact Path.imp_of (of_decide_eq_true rfl) | (focus ((try simp only [Int.reduceToNat, Int.reduceTDiv, Int.reduceTMod, minL, maxL, pickB, zHB, InK, Path.imp, List.length_replicate, List.length_set, List.length_append, List.length_cons, List.length_nil] at *); omega)) | (refine app_le rfl ?_; omega))); done)); (conv => whnf))
    | ((with_reducible refine And.intro (Side.out ?_) ?_); rotate_left; (conv => whnf))
    | (refine retF1 ?_ <;> (conv => whnf) <;> repeat' (first
 | exact trivial
 | (with_reducible rfl)
 | ((with_reducible refine And.intro ?_ ?_) <;> conv => whnf)
 | omega
 | rfl
 | (refine congrArg (SV.arr _) ?_)
 | (refine congrArg (Value.int _) ?_)
 | (refine congrArg Value.bool ?_)))
 | (refine retF2 ?_ <;> (conv => whnf) <;> repeat' (first
 | exact trivial
 | (with_reducible rfl)
 | ((with_reducible refine And.intro ?_ ?_) <;> conv => whnf)
 | omega
 | rfl
 | (refine congrArg (SV.arr _) ?_)
 | (refine congrArg (Value.int _) ?_)
 | (refine congrArg Value.bool ?_)))); all_goals (try unfold Side)
      all_goals try exact Path.imp_of hq1
      all_goals try exact hq1.2
      all_goals try (repeat' (first | (with_reducible rfl) | (with_reducible refine And.intro ?_ ?_) | omega | rfl | exact Or.inl rfl | exact Or.inr rfl | exact of_decide_eq_true rfl | exact Path.imp_of (of_decide_eq_true rfl) | (focus ((try simp only [Int.reduceToNat, Int.reduceTDiv, Int.reduceTMod, minL, maxL, pickB, zHB, InK, Path.imp, List.length_replicate, List.length_set, List.length_append, List.length_cons, List.length_nil] at *); omega)) | (refine app_le rfl ?_; omega)))
      refine W.loop (fun z : List Int × List Int × Nat => ⟨[(9, .st true (.arr (.sl (.int .i64)) (F : List (List Int)))), (10, .own 900010), (15, .own 900015), (16, .own 900016)], [(900010, .mp .i64 (.int .i64) (ofM F) F.flatten.length), (900015, .row 3 (.int .i64) true (z.1 : List Int)), (900016, .que 3 .i64 (z.2.1.drop z.2.2))]⟩) (fun z => Bf F d z.1 z.2.1 z.2.2 0) (fun z => F.length - z.2.2) (((List.replicate F.length (-1)).set (ofI 0 F) 0, [(ofI 0 F : Int)], 0)) ?_ ?_
      · refine ⟨hini, ?_⟩
        refine subF.ok ?_ <;> (conv => whnf) <;> repeat' (first
 | exact trivial
 | (with_reducible rfl)
 | ((with_reducible refine And.intro ?_ ?_) <;> conv => whnf)
 | omega
 | rfl
 | (refine congrArg (SV.arr _) ?_)
 | (refine congrArg (Value.int _) ?_)
 | (refine congrArg Value.bool ?_))
        all_goals first | exact hq2 | exact hq3 | exact fun e => by cases e
      · rintro ⟨s1, H, k⟩ hbf
        dsimp only at hbf ⊢
        have hkl := hbf.kl
        have hHl := hbf.lenH
        have hdl : @List.length Int (H.drop k) = H.length - k := List.length_drop
        have hs1l : @List.length (Ty.int .i64).T s1 = F.length := hbf.len
        by_cases hk : k < H.length
        · obtain ⟨x, hx, hxl, hxv⟩ := hbf.at hk
          have hgx : (H.drop k).getD 0 0 = (x : Int) := by rw [← hx]; simp [List.getD]
          have hgx2 : 0 ≤ (H.drop k).getD 0 0 ∧ ((H.drop k).getD 0 0).toNat < @List.length (Ty.sl (.int .i64)).T F := by rw [hgx]; omega
          have hfx : F.getD ((H.drop k).getD 0 0).toNat [] = F.getD x [] := by rw [hgx]; rfl
          have hfxl : ((F.getD ((H.drop k).getD 0 0).toNat []).length : Int) = (F.getD x []).length := by rw [hfx]
          repeat' (first
 | refine W.seq ?_
 | refine W.block ?_
 | (refine W.region tys_ok [0, 75] ?_; conv => whnf)
 | (refine W.drawAll tys_ok [0, 75] mixed rfl ?_; conv => whnf)
 | (refine W.ret ?_; conv => whnf)
 | (refine W.skip ?_; conv => whnf)
 | (refine W.exit ?_; conv => whnf)

    | (refine W.cond rfl (fun hb => ?_) (fun hb => ?_) <;> (try simp only [Int.reduceToNat, Int.reduceTDiv, Int.reduceTMod, minL, maxL, pickB, zHB] at hb) <;> (try (first | (cases hb; done) | exact absurd hb (by decide) | (exfalso; omega))))
    | ((with_reducible refine And.intro ?_ ?_); (focus ((repeat' (first | (with_reducible rfl) | (with_reducible refine And.intro ?_ ?_) | omega | rfl | exact Or.inl rfl | exact Or.inr rfl | exact of_decide_eq_true rfl | exact Path.imp_of (of_decide_eq_true rfl) | (focus ((try simp only [Int.reduceToNat, Int.reduceTDiv, Int.reduceTMod, minL, maxL, pickB, zHB, InK, Path.imp, List.length_replicate, List.length_set, List.length_append, List.length_cons, List.length_nil] at *); omega)) | (refine app_le rfl ?_; omega))); done)); (conv => whnf))
    | ((with_reducible refine And.intro (Side.out ?_) ?_); rotate_left; (conv => whnf))
    | (refine retF1 ?_ <;> (conv => whnf) <;> repeat' (first
 | exact trivial
 | (with_reducible rfl)
 | ((with_reducible refine And.intro ?_ ?_) <;> conv => whnf)
 | omega
 | rfl
 | (refine congrArg (SV.arr _) ?_)
 | (refine congrArg (Value.int _) ?_)
 | (refine congrArg Value.bool ?_)))
 | (refine retF2 ?_ <;> (conv => whnf) <;> repeat' (first
 | exact trivial
 | (with_reducible rfl)
 | ((with_reducible refine And.intro ?_ ?_) <;> conv => whnf)
 | omega
 | rfl
 | (refine congrArg (SV.arr _) ?_)
 | (refine congrArg (Value.int _) ?_)
 | (refine congrArg Value.bool ?_)))); all_goals (try unfold Side)
          all_goals try exact Path.imp_of hgx2
          all_goals try (repeat' (first | (with_reducible rfl) | (with_reducible refine And.intro ?_ ?_) | omega | rfl | exact Or.inl rfl | exact Or.inr rfl | exact of_decide_eq_true rfl | exact Path.imp_of (of_decide_eq_true rfl) | (focus ((try simp only [Int.reduceToNat, Int.reduceTDiv, Int.reduceTMod, minL, maxL, pickB, zHB, InK, Path.imp, List.length_replicate, List.length_set, List.length_append, List.length_cons, List.length_nil] at *); omega)) | (refine app_le rfl ?_; omega)))
          refine W.loop (fun v : List Int × List Int × Nat => ⟨[(9, .st true (.arr (.sl (.int .i64)) (F : List (List Int)))), (10, .own 900010), (15, .own 900015), (16, .own 900016), (81, .st true (.arr (.int .i64) ((F.getD x []) : List Int))), (82, .lit (.int .i64 ((F.getD x []).length))), (83, .lit (.int .i64 (v.2.2)))], [(900010, .mp .i64 (.int .i64) (ofM F) F.flatten.length), (900015, .row 3 (.int .i64) true (v.1 : List Int)), (900016, .que 3 .i64 (v.2.1.drop k))]⟩) (fun v => v.2.2 ≤ (F.getD x []).length ∧ Bf F d v.1 v.2.1 k v.2.2 ∧ k < v.2.1.length ∧ v.2.1.getD k 0 = (x : Int)) (fun v => (F.getD x []).length - v.2.2) ((s1, H, 0)) ?_ ?_
          · refine ⟨⟨Nat.zero_le _, hbf, hk, hx⟩, ?_⟩
            refine subF.ok ?_ <;> (conv => whnf) <;> repeat' (first
 | exact trivial
 | (with_reducible rfl)
 | ((with_reducible refine And.intro ?_ ?_) <;> conv => whnf)
 | omega
 | rfl
 | (refine congrArg (SV.arr _) ?_)
 | (refine congrArg (Value.int _) ?_)
 | (refine congrArg Value.bool ?_))
            all_goals first | exact hfx | exact hfxl
          · rintro ⟨s2, H2, q⟩ ⟨hq, hb2, hk2, hx2⟩
            dsimp only at hq hb2 hk2 hx2 ⊢
            have h40 := hfl40 x hxl
            have hfe : @List.length (Ty.int .i64).T (F.getD x []) = (F.getD x []).length := rfl
            have hs2l : @List.length (Ty.int .i64).T s2 = F.length := hb2.len
            have hdl2 : @List.length Int (H2.drop k) = H2.length - k := List.length_drop
            have hH2l := hb2.lenH
            have hgx3 : (H2.drop k).getD 0 0 = (x : Int) := by rw [← hx2]; simp [List.getD]
            obtain ⟨x', hx', _, hxv2⟩ := hb2.at hk2
            have hxx : x' = x := by omega
            subst hxx
            by_cases hql : q < (F.getD x' []).length
            · have hm : (F.getD x' []).getD q 0 ∈ F.getD x' [] := mem_getD hql
              have hrg := hd.rg x' _ hxl hm
              have hof := hd.mem (-1 - (F.getD x' []).getD q 0) (by omega) (by omega)
              have hofl := (hd.at (x := -1 - (F.getD x' []).getD q 0) (by omega) (by omega)).1
              have hog := ofM_get hof
              obtain ⟨y, hy⟩ : ∃ y, y = ofI (-1 - (F.getD x' []).getD q 0) F := ⟨_, rfl⟩
              rw [← hy] at hog hofl
              have hyb : 0 ≤ (ofM F (-1 - (F.getD x' []).getD q 0)).getD 0 ∧ ((ofM F (-1 - (F.getD x' []).getD q 0)).getD 0).toNat < @List.length (Ty.int .i64).T s2 := by rw [hog]; omega
              have hyv : s2.getD ((ofM F (-1 - (F.getD x' []).getD q 0)).getD 0).toNat 0 = s2.getD y 0 := by rw [hog]; rfl
              by_cases hneg : s2.getD y 0 < 0
              · have hput := hb2.put hd hk2 hx2 hql hy hneg
                have happ : H2.drop k ++ [(ofM F (-1 - (F.getD x' []).getD q 0)).getD 0] = (H2 ++ [(y : Int)]).drop k := by rw [hog, List.drop_append_of_le_length (by omega)]
                have hset : s2.set ((ofM F (-1 - (F.getD x' []).getD q 0)).getD 0).toNat (1 - s2.getD ((H2.drop k).getD 0 0).toNat 0) = s2.set y (1 - s2.getD x' 0) := by rw [hog, hgx3]; rfl
                have hkh : k < (H2 ++ [(y : Int)]).length := by rw [List.length_append]; omega
                have hxh : (H2 ++ [(y : Int)]).getD k 0 = (x' : Int) := by rw [getD_app, if_pos hk2]; exact hx2
                have hxb : 0 ≤ (H2.drop k).getD 0 0 ∧ ((H2.drop k).getD 0 0).toNat < @List.length (Ty.int .i64).T s2 := by rw [hgx3]; omega
                have hik : InK .i64 (1 - s2.getD ((H2.drop k).getD 0 0).toNat 0) := by
                  rw [hgx3, Int.toNat_natCast, hxv2]
                  cases d x' <;> simp [InK]
                rw [← hyv] at hneg
                repeat' (first
 | refine W.seq ?_
 | refine W.block ?_
 | (refine W.region tys_ok [] ?_; conv => whnf)
 | (refine W.drawAll tys_ok [] mixed rfl ?_; conv => whnf)
 | (refine W.ret ?_; conv => whnf)
 | (refine W.skip ?_; conv => whnf)
 | (refine W.exit ?_; conv => whnf)

    | (refine W.cond rfl (fun hb => ?_) (fun hb => ?_) <;> (try simp only [Int.reduceToNat, Int.reduceTDiv, Int.reduceTMod, minL, maxL, pickB, zHB] at hb) <;> (try (first | (cases hb; done) | exact absurd hb (by decide) | (exfalso; omega) | (exact absurd hneg hb))))
    | ((with_reducible refine And.intro ?_ ?_); (focus ((repeat' (first | (with_reducible rfl) | (with_reducible refine And.intro ?_ ?_) | omega | rfl | exact Or.inl rfl | exact Or.inr rfl | exact of_decide_eq_true rfl | exact Path.imp_of (of_decide_eq_true rfl) | (focus ((try simp only [Int.reduceToNat, Int.reduceTDiv, Int.reduceTMod, minL, maxL, pickB, zHB, InK, Path.imp, List.length_replicate, List.length_set, List.length_append, List.length_cons, List.length_nil] at *); omega)) | (refine app_le rfl ?_; omega))); done)); (conv => whnf))
    | ((with_reducible refine And.intro (Side.out ?_) ?_); rotate_left; (conv => whnf))
    | (refine retF1 ?_ <;> (conv => whnf) <;> repeat' (first
 | exact trivial
 | (with_reducible rfl)
 | ((with_reducible refine And.intro ?_ ?_) <;> conv => whnf)
 | omega
 | rfl
 | (refine congrArg (SV.arr _) ?_)
 | (refine congrArg (Value.int _) ?_)
 | (refine congrArg Value.bool ?_)))
 | (refine retF2 ?_ <;> (conv => whnf) <;> repeat' (first
 | exact trivial
 | (with_reducible rfl)
 | ((with_reducible refine And.intro ?_ ?_) <;> conv => whnf)
 | omega
 | rfl
 | (refine congrArg (SV.arr _) ?_)
 | (refine congrArg (Value.int _) ?_)
 | (refine congrArg Value.bool ?_)))); all_goals (try unfold Side)
                all_goals try (first | exact Path.imp_of hyb | exact Path.imp_of hxb | exact Path.imp_of hik | exact hyb.2)
                all_goals try (repeat' (first | (with_reducible rfl) | (with_reducible refine And.intro ?_ ?_) | omega | rfl | exact Or.inl rfl | exact Or.inr rfl | exact of_decide_eq_true rfl | exact Path.imp_of (of_decide_eq_true rfl) | (focus ((try simp only [Int.reduceToNat, Int.reduceTDiv, Int.reduceTMod, minL, maxL, pickB, zHB, InK, Path.imp, List.length_replicate, List.length_set, List.length_append, List.length_cons, List.length_nil] at *); omega)) | (refine app_le rfl ?_; omega)))
                all_goals (refine ⟨(s2.set y (1 - s2.getD x' 0), H2 ++ [(y : Int)], q + 1), ⟨⟨hql, hput, hkh, hxh⟩, by dsimp only; omega⟩, ?_⟩)
                all_goals refine subF.ok ?_ <;> (conv => whnf) <;> repeat' (first
 | exact trivial
 | (with_reducible rfl)
 | ((with_reducible refine And.intro ?_ ?_) <;> conv => whnf)
 | omega
 | rfl
 | (refine congrArg (SV.arr _) ?_)
 | (refine congrArg (Value.int _) ?_)
 | (refine congrArg Value.bool ?_))
                all_goals first | exact happ | exact hset
              · have hskip := hb2.skip hx2 (by rw [← hy]; omega)
                rw [← hyv] at hneg
                repeat' (first
 | refine W.seq ?_
 | refine W.block ?_
 | (refine W.region tys_ok [] ?_; conv => whnf)
 | (refine W.drawAll tys_ok [] mixed rfl ?_; conv => whnf)
 | (refine W.ret ?_; conv => whnf)
 | (refine W.skip ?_; conv => whnf)
 | (refine W.exit ?_; conv => whnf)

    | (refine W.cond rfl (fun hb => ?_) (fun hb => ?_) <;> (try simp only [Int.reduceToNat, Int.reduceTDiv, Int.reduceTMod, minL, maxL, pickB, zHB] at hb) <;> (try (first | (cases hb; done) | exact absurd hb (by decide) | (exfalso; omega) | (exact absurd hb hneg))))
    | ((with_reducible refine And.intro ?_ ?_); (focus ((repeat' (first | (with_reducible rfl) | (with_reducible refine And.intro ?_ ?_) | omega | rfl | exact Or.inl rfl | exact Or.inr rfl | exact of_decide_eq_true rfl | exact Path.imp_of (of_decide_eq_true rfl) | (focus ((try simp only [Int.reduceToNat, Int.reduceTDiv, Int.reduceTMod, minL, maxL, pickB, zHB, InK, Path.imp, List.length_replicate, List.length_set, List.length_append, List.length_cons, List.length_nil] at *); omega)) | (refine app_le rfl ?_; omega))); done)); (conv => whnf))
    | ((with_reducible refine And.intro (Side.out ?_) ?_); rotate_left; (conv => whnf))
    | (refine retF1 ?_ <;> (conv => whnf) <;> repeat' (first
 | exact trivial
 | (with_reducible rfl)
 | ((with_reducible refine And.intro ?_ ?_) <;> conv => whnf)
 | omega
 | rfl
 | (refine congrArg (SV.arr _) ?_)
 | (refine congrArg (Value.int _) ?_)
 | (refine congrArg Value.bool ?_)))
 | (refine retF2 ?_ <;> (conv => whnf) <;> repeat' (first
 | exact trivial
 | (with_reducible rfl)
 | ((with_reducible refine And.intro ?_ ?_) <;> conv => whnf)
 | omega
 | rfl
 | (refine congrArg (SV.arr _) ?_)
 | (refine congrArg (Value.int _) ?_)
 | (refine congrArg Value.bool ?_)))); all_goals (try unfold Side)
                all_goals try (first | exact Path.imp_of hyb | exact hyb.2)
                all_goals try (repeat' (first | (with_reducible rfl) | (with_reducible refine And.intro ?_ ?_) | omega | rfl | exact Or.inl rfl | exact Or.inr rfl | exact of_decide_eq_true rfl | exact Path.imp_of (of_decide_eq_true rfl) | (focus ((try simp only [Int.reduceToNat, Int.reduceTDiv, Int.reduceTMod, minL, maxL, pickB, zHB, InK, Path.imp, List.length_replicate, List.length_set, List.length_append, List.length_cons, List.length_nil] at *); omega)) | (refine app_le rfl ?_; omega)))
                all_goals (refine ⟨(s2, H2, q + 1), ⟨⟨hql, hskip, hk2, hx2⟩, by dsimp only; omega⟩, ?_⟩)
                all_goals refine subF.ok ?_ <;> (conv => whnf) <;> repeat' (first
 | exact trivial
 | (with_reducible rfl)
 | ((with_reducible refine And.intro ?_ ?_) <;> conv => whnf)
 | omega
 | rfl
 | (refine congrArg (SV.arr _) ?_)
 | (refine congrArg (Value.int _) ?_)
 | (refine congrArg Value.bool ?_))
            · have hqe : (F.getD x' []).length = q := by omega
              subst hqe
              have hnx := hb2.next hk2 hx2
              have hdd : (H2.drop k).drop 1 = H2.drop (k + 1) := by rw [List.drop_drop]
              repeat' (first
 | refine W.seq ?_
 | refine W.block ?_
 | (refine W.region tys_ok [0, 75] ?_; conv => whnf)
 | (refine W.drawAll tys_ok [0, 75] mixed rfl ?_; conv => whnf)
 | (refine W.ret ?_; conv => whnf)
 | (refine W.skip ?_; conv => whnf)
 | (refine W.exit ?_; conv => whnf)

    | (refine W.cond rfl (fun hb => ?_) (fun hb => ?_) <;> (try simp only [Int.reduceToNat, Int.reduceTDiv, Int.reduceTMod, minL, maxL, pickB, zHB] at hb) <;> (try (first | (cases hb; done) | exact absurd hb (by decide) | (exfalso; omega))))
    | ((with_reducible refine And.intro ?_ ?_); (focus ((repeat' (first | (with_reducible rfl) | (with_reducible refine And.intro ?_ ?_) | omega | rfl | exact Or.inl rfl | exact Or.inr rfl | exact of_decide_eq_true rfl | exact Path.imp_of (of_decide_eq_true rfl) | (focus ((try simp only [Int.reduceToNat, Int.reduceTDiv, Int.reduceTMod, minL, maxL, pickB, zHB, InK, Path.imp, List.length_replicate, List.length_set, List.length_append, List.length_cons, List.length_nil] at *); omega)) | (refine app_le rfl ?_; omega))); done)); (conv => whnf))
    | ((with_reducible refine And.intro (Side.out ?_) ?_); rotate_left; (conv => whnf))
    | (refine retF1 ?_ <;> (conv => whnf) <;> repeat' (first
 | exact trivial
 | (with_reducible rfl)
 | ((with_reducible refine And.intro ?_ ?_) <;> conv => whnf)
 | omega
 | rfl
 | (refine congrArg (SV.arr _) ?_)
 | (refine congrArg (Value.int _) ?_)
 | (refine congrArg Value.bool ?_)))
 | (refine retF2 ?_ <;> (conv => whnf) <;> repeat' (first
 | exact trivial
 | (with_reducible rfl)
 | ((with_reducible refine And.intro ?_ ?_) <;> conv => whnf)
 | omega
 | rfl
 | (refine congrArg (SV.arr _) ?_)
 | (refine congrArg (Value.int _) ?_)
 | (refine congrArg Value.bool ?_)))); all_goals (try unfold Side)
              all_goals try (repeat' (first | (with_reducible rfl) | (with_reducible refine And.intro ?_ ?_) | omega | rfl | exact Or.inl rfl | exact Or.inr rfl | exact of_decide_eq_true rfl | exact Path.imp_of (of_decide_eq_true rfl) | (focus ((try simp only [Int.reduceToNat, Int.reduceTDiv, Int.reduceTMod, minL, maxL, pickB, zHB, InK, Path.imp, List.length_replicate, List.length_set, List.length_append, List.length_cons, List.length_nil] at *); omega)) | (refine app_le rfl ?_; omega)))
              refine ⟨(s2, H2, k + 1), ⟨hnx, by dsimp only; omega⟩, ?_⟩
              refine subF.ok ?_ <;> (conv => whnf) <;> repeat' (first
 | exact trivial
 | (with_reducible rfl)
 | ((with_reducible refine And.intro ?_ ?_) <;> conv => whnf)
 | omega
 | rfl
 | (refine congrArg (SV.arr _) ?_)
 | (refine congrArg (Value.int _) ?_)
 | (refine congrArg Value.bool ?_))
              all_goals exact hdd
        · have hke : k = H.length := by omega
          subst hke
          have hfin := hbf.done hd
          have hdn : @List.length Int (H.drop H.length) = 0 := by simp
          repeat' (first
 | refine W.seq ?_
 | refine W.block ?_
 | (refine W.region tys_ok [] ?_; conv => whnf)
 | (refine W.drawAll tys_ok [] mixed rfl ?_; conv => whnf)
 | (refine W.ret ?_; conv => whnf)
 | (refine W.skip ?_; conv => whnf)
 | (refine W.exit ?_; conv => whnf)

    | (refine W.cond rfl (fun hb => ?_) (fun hb => ?_) <;> (try simp only [Int.reduceToNat, Int.reduceTDiv, Int.reduceTMod, minL, maxL, pickB, zHB] at hb) <;> (try (first | (cases hb; done) | exact absurd hb (by decide) | (exfalso; omega))))
    | ((with_reducible refine And.intro ?_ ?_); (focus ((repeat' (first | (with_reducible rfl) | (with_reducible refine And.intro ?_ ?_) | omega | rfl | exact Or.inl rfl | exact Or.inr rfl | exact of_decide_eq_true rfl | exact Path.imp_of (of_decide_eq_true rfl) | (focus ((try simp only [Int.reduceToNat, Int.reduceTDiv, Int.reduceTMod, minL, maxL, pickB, zHB, InK, Path.imp, List.length_replicate, List.length_set, List.length_append, List.length_cons, List.length_nil] at *); omega)) | (refine app_le rfl ?_; omega))); done)); (conv => whnf))
    | ((with_reducible refine And.intro (Side.out ?_) ?_); rotate_left; (conv => whnf))
    | (refine retF1 ?_ <;> (conv => whnf) <;> repeat' (first
 | exact trivial
 | (with_reducible rfl)
 | ((with_reducible refine And.intro ?_ ?_) <;> conv => whnf)
 | omega
 | rfl
 | (refine congrArg (SV.arr _) ?_)
 | (refine congrArg (Value.int _) ?_)
 | (refine congrArg Value.bool ?_)))
 | (refine retF2 ?_ <;> (conv => whnf) <;> repeat' (first
 | exact trivial
 | (with_reducible rfl)
 | ((with_reducible refine And.intro ?_ ?_) <;> conv => whnf)
 | omega
 | rfl
 | (refine congrArg (SV.arr _) ?_)
 | (refine congrArg (Value.int _) ?_)
 | (refine congrArg Value.bool ?_)))); all_goals (try unfold Side)
          all_goals try (repeat' (first | (with_reducible rfl) | (with_reducible refine And.intro ?_ ?_) | omega | rfl | exact Or.inl rfl | exact Or.inr rfl | exact of_decide_eq_true rfl | exact Path.imp_of (of_decide_eq_true rfl) | (focus ((try simp only [Int.reduceToNat, Int.reduceTDiv, Int.reduceTMod, minL, maxL, pickB, zHB, InK, Path.imp, List.length_replicate, List.length_set, List.length_append, List.length_cons, List.length_nil] at *); omega)) | (refine app_le rfl ?_; omega)))
          refine W.loop (fun j : Nat => ⟨[(9, .st true (.arr (.sl (.int .i64)) (F : List (List Int)))), (20, .lit (.int .i64 ((whK d j : Nat)))), (111, .own 900015), (112, .lit (.int .i64 ((F.length : Nat)))), (113, .lit (.int .i64 (j)))], [(900015, .row 3 (.int .i64) true (s1 : List Int))]⟩) (fun j => j ≤ F.length) (fun j => F.length - j) (0) ?_ ?_
          · refine ⟨Nat.zero_le _, ?_⟩
            refine subF.ok ?_ <;> (conv => whnf) <;> repeat' (first
 | exact trivial
 | (with_reducible rfl)
 | ((with_reducible refine And.intro ?_ ?_) <;> conv => whnf)
 | omega
 | rfl
 | (refine congrArg (SV.arr _) ?_)
 | (refine congrArg (Value.int _) ?_)
 | (refine congrArg Value.bool ?_))
          · intro j hj
            have hwl := whK_le (d := d) (k := j)
            by_cases hjl : j < F.length
            · have hv := hfin j hjl
              have hws : ((whK d j : Nat) : Int) + s1.getD j 0 = (whK d (j + 1) : Nat) := by rw [hv, whK]; omega
              have hik : InK .i64 (((whK d j : Nat) : Int) + s1.getD j 0) := by
                rw [hws]
                have := whK_le (d := d) (k := j + 1)
                simp only [InK]; omega
              repeat' (first
 | refine W.seq ?_
 | refine W.block ?_
 | (refine W.region tys_ok [] ?_; conv => whnf)
 | (refine W.drawAll tys_ok [] mixed rfl ?_; conv => whnf)
 | (refine W.ret ?_; conv => whnf)
 | (refine W.skip ?_; conv => whnf)
 | (refine W.exit ?_; conv => whnf)

    | (refine W.cond rfl (fun hb => ?_) (fun hb => ?_) <;> (try simp only [Int.reduceToNat, Int.reduceTDiv, Int.reduceTMod, minL, maxL, pickB, zHB] at hb) <;> (try (first | (cases hb; done) | exact absurd hb (by decide) | (exfalso; omega))))
    | ((with_reducible refine And.intro ?_ ?_); (focus ((repeat' (first | (with_reducible rfl) | (with_reducible refine And.intro ?_ ?_) | omega | rfl | exact Or.inl rfl | exact Or.inr rfl | exact of_decide_eq_true rfl | exact Path.imp_of (of_decide_eq_true rfl) | (focus ((try simp only [Int.reduceToNat, Int.reduceTDiv, Int.reduceTMod, minL, maxL, pickB, zHB, InK, Path.imp, List.length_replicate, List.length_set, List.length_append, List.length_cons, List.length_nil] at *); omega)) | (refine app_le rfl ?_; omega))); done)); (conv => whnf))
    | ((with_reducible refine And.intro (Side.out ?_) ?_); rotate_left; (conv => whnf))
    | (refine retF1 ?_ <;> (conv => whnf) <;> repeat' (first
 | exact trivial
 | (with_reducible rfl)
 | ((with_reducible refine And.intro ?_ ?_) <;> conv => whnf)
 | omega
 | rfl
 | (refine congrArg (SV.arr _) ?_)
 | (refine congrArg (Value.int _) ?_)
 | (refine congrArg Value.bool ?_)))
 | (refine retF2 ?_ <;> (conv => whnf) <;> repeat' (first
 | exact trivial
 | (with_reducible rfl)
 | ((with_reducible refine And.intro ?_ ?_) <;> conv => whnf)
 | omega
 | rfl
 | (refine congrArg (SV.arr _) ?_)
 | (refine congrArg (Value.int _) ?_)
 | (refine congrArg Value.bool ?_)))); all_goals (try unfold Side)
              all_goals try exact Path.imp_of hik
              all_goals try (repeat' (first | (with_reducible rfl) | (with_reducible refine And.intro ?_ ?_) | omega | rfl | exact Or.inl rfl | exact Or.inr rfl | exact of_decide_eq_true rfl | exact Path.imp_of (of_decide_eq_true rfl) | (focus ((try simp only [Int.reduceToNat, Int.reduceTDiv, Int.reduceTMod, minL, maxL, pickB, zHB, InK, Path.imp, List.length_replicate, List.length_set, List.length_append, List.length_cons, List.length_nil] at *); omega)) | (refine app_le rfl ?_; omega)))
              refine ⟨j + 1, ⟨by omega, by omega⟩, ?_⟩
              refine subF.ok ?_ <;> (conv => whnf) <;> repeat' (first
 | exact trivial
 | (with_reducible rfl)
 | ((with_reducible refine And.intro ?_ ?_) <;> conv => whnf)
 | omega
 | rfl
 | (refine congrArg (SV.arr _) ?_)
 | (refine congrArg (Value.int _) ?_)
 | (refine congrArg Value.bool ?_))
              all_goals exact hws
            · have hje : F.length = j := by omega
              subst hje
              repeat' (first
 | refine W.seq ?_
 | refine W.block ?_
 | (refine W.region tys_ok [] ?_; conv => whnf)
 | (refine W.drawAll tys_ok [] mixed rfl ?_; conv => whnf)
 | (refine W.ret ?_; conv => whnf)
 | (refine W.skip ?_; conv => whnf)
 | (refine W.exit ?_; conv => whnf)

    | (refine W.cond rfl (fun hb => ?_) (fun hb => ?_) <;> (try simp only [Int.reduceToNat, Int.reduceTDiv, Int.reduceTMod, minL, maxL, pickB, zHB] at hb) <;> (try (first | (cases hb; done) | exact absurd hb (by decide) | (exfalso; omega))))
    | ((with_reducible refine And.intro ?_ ?_); (focus ((repeat' (first | (with_reducible rfl) | (with_reducible refine And.intro ?_ ?_) | omega | rfl | exact Or.inl rfl | exact Or.inr rfl | exact of_decide_eq_true rfl | exact Path.imp_of (of_decide_eq_true rfl) | (focus ((try simp only [Int.reduceToNat, Int.reduceTDiv, Int.reduceTMod, minL, maxL, pickB, zHB, InK, Path.imp, List.length_replicate, List.length_set, List.length_append, List.length_cons, List.length_nil] at *); omega)) | (refine app_le rfl ?_; omega))); done)); (conv => whnf))
    | ((with_reducible refine And.intro (Side.out ?_) ?_); rotate_left; (conv => whnf))
    | (refine retF1 ?_ <;> (conv => whnf) <;> repeat' (first
 | exact trivial
 | (with_reducible rfl)
 | ((with_reducible refine And.intro ?_ ?_) <;> conv => whnf)
 | omega
 | rfl
 | (refine congrArg (SV.arr _) ?_)
 | (refine congrArg (Value.int _) ?_)
 | (refine congrArg Value.bool ?_)))
 | (refine retF2 ?_ <;> (conv => whnf) <;> repeat' (first
 | exact trivial
 | (with_reducible rfl)
 | ((with_reducible refine And.intro ?_ ?_) <;> conv => whnf)
 | omega
 | rfl
 | (refine congrArg (SV.arr _) ?_)
 | (refine congrArg (Value.int _) ?_)
 | (refine congrArg Value.bool ?_)))); all_goals (try unfold Side)
              all_goals try (repeat' (first | (with_reducible rfl) | (with_reducible refine And.intro ?_ ?_) | omega | rfl | exact Or.inl rfl | exact Or.inr rfl | exact of_decide_eq_true rfl | exact Path.imp_of (of_decide_eq_true rfl) | (focus ((try simp only [Int.reduceToNat, Int.reduceTDiv, Int.reduceTMod, minL, maxL, pickB, zHB, InK, Path.imp, List.length_replicate, List.length_set, List.length_append, List.length_cons, List.length_nil] at *); omega)) | (refine app_le rfl ?_; omega)))
end Go.Proofs.Ytdfajcfkdfjoeab
/- Letters interlaced with both of two; the three conditions. No condition. -/
namespace Go.Scr
set_option linter.unusedVariables false
set_option linter.unusedSimpArgs false
set_option linter.unusedSectionVars false

theorem inter_self {w : List Int} {a : Int} : interT w a a = false := by simp [interT]
theorem inter_symm {w : List Int} {n : Nat} (h : Word w n) {a b : Nat} (ha : a < n) (hb : b < n) : interT w a b = interT w b a := by
  by_cases e : a = b
  · subst e; rfl
  · obtain ⟨p, q, hpq, hq, hA, hp1, hq1, hallA⟩ := h.places ha
    obtain ⟨r, s, hrs, hs, hB, hr1, hs1, hallB⟩ := h.places hb
    rw [inter_places h ha hb hA hB hpq hq hrs hs hp1 hq1 hr1 hs1 hallB, inter_places h hb ha hB hA hrs hs hpq hq hr1 hs1 hp1 hq1 hallA]
    have e1 : (a : Int) ≠ b := by omega
    have e2 : (b : Int) ≠ a := by omega
    rw [decide_eq_true e1, decide_eq_true e2, Bool.true_and, Bool.true_and]
    have k1 : p ≠ r := by rintro rfl; omega
    have k2 : p ≠ s := by rintro rfl; omega
    have k3 : q ≠ r := by rintro rfl; omega
    have k4 : q ≠ s := by rintro rfl; omega
    by_cases c1 : p < r <;> by_cases c2 : r < q <;> by_cases c3 : p < s <;> by_cases c4 : s < q <;>
      by_cases d1 : r < p <;> by_cases d2 : p < s <;> by_cases d3 : r < q <;> by_cases d4 : q < s <;>
      first | (exfalso; omega) | simp [c1, c2, c3, c4, d1, d2, d3, d4]
def cmnK (w : List Int) (x y : Nat) : Nat → Nat
  | 0 => 0
  | k + 1 => cmnK w x y k + if (interT w x k && interT w y k) = true then 1 else 0
theorem cmnK_le {w : List Int} {x y : Nat} : ∀ {k : Nat}, cmnK w x y k ≤ k
  | 0 => Nat.le_refl _
  | k + 1 => by rw [cmnK]; have := cmnK_le (w := w) (x := x) (y := y) (k := k); split <;> omega
theorem cmnK_symm {w : List Int} {x y : Nat} : ∀ {k : Nat}, cmnK w x y k = cmnK w y x k
  | 0 => rfl
  | k + 1 => by rw [cmnK, cmnK, cmnK_symm, Bool.and_comm]
theorem cmnK_yes {w : List Int} {x y k : Nat} (h : (interT w x k && interT w y k) = true) : cmnK w x y (k + 1) = cmnK w x y k + 1 := by rw [cmnK, if_pos h]
theorem cmnK_no {w : List Int} {x y k : Nat} (h : (interT w x k && interT w y k) = false) : cmnK w x y (k + 1) = cmnK w x y k := by rw [cmnK, h]; rfl
/-- Interlaced; and in different sets. -/
def gD (w : List Int) (x y : Nat) : Bool := interT w x y
def eD (w : List Int) (n x y : Nat) : Bool := decide (cmnK w x y n % 2 = 0)
def C1 (w : List Int) (n a : Nat) : Prop := cmnK w a a n % 2 = 0
def C2 (w : List Int) (n a b : Nat) : Prop := interT w a b = false → cmnK w a b n % 2 = 0
def DrawnP (w : List Int) (n : Nat) : Prop := (∀ a, a < n → C1 w n a) ∧ (∀ a b, b < a → a < n → C2 w n a b) ∧ ∃ d, Valid n (gD w) (eD w n) d
noncomputable def drawnB (w : List Int) (n : Nat) : Bool := @decide (DrawnP w n) (Classical.propDecidable _)
theorem drawnB_yes {w : List Int} {n : Nat} (h : DrawnP w n) : drawnB w n = true := @decide_eq_true _ (Classical.propDecidable _) h
theorem drawnB_no {w : List Int} {n : Nat} (h : ¬ DrawnP w n) : drawnB w n = false := @decide_eq_false _ (Classical.propDecidable _) h
theorem wt_eD {w : List Int} {n x y : Nat} {s : List Int} (h : s.getD x 0 = 0 ∨ s.getD x 0 = 1) : (s.getD x 0 + 1 + (cmnK w x y n : Int)).tmod 2 = wt (eD w n) s x y := by
  unfold wt eD
  rw [Int.tmod_eq_emod_of_nonneg (by omega)]
  by_cases e : cmnK w x y n % 2 = 0
  · rw [if_pos (by simpa using e)]; omega
  · rw [if_neg (by simpa using e)]; omega
theorem gD_symm {w : List Int} {n : Nat} (h : Word w n) : ∀ x y, x < n → y < n → gD w x y = true → gD w y x = true := fun x y hx hy hg => by
  unfold gD at *; rw [inter_symm h hy hx]; exact hg
theorem gD_self {w : List Int} {x : Nat} : gD w x x = false := inter_self
end Go.Scr
/- The three conditions: the program's. No condition. -/
namespace Go.Proofs.Ytdfajcfkdfjoeab
open Go Go.Vc Go.Scr
set_option linter.unusedVariables false
set_option linter.unusedSimpArgs false

set_option maxHeartbeats 4000000 in
theorem both_at {w : List Int} {n : Nat} (h : Word w n) (hn : n ≤ 10) {x y : Nat} (hx : x < n) (hy : y < n) : FnAt Try.prog false 11 [.lit (.int .i64 x), .lit (.int .i64 y), .sadr (curveT n w)] (.lit (.int .i64 (cmnK w x y n))) [] := by
  refine FnAt.of_body tys_ok Try.func11 (by rfl) rfl Try.ntmps11 (by rw [Try.results11]) (by simp) ?_
  
  repeat' (first
 | refine W.seq ?_
 | refine W.block ?_
 | (refine W.region tys_ok [] ?_; conv => whnf)
 | (refine W.drawAll tys_ok [] mixed rfl ?_; conv => whnf)
 | (refine W.ret ?_; conv => whnf)
 | (refine W.skip ?_; conv => whnf)
 | (refine W.exit ?_; conv => whnf)

    | (refine W.cond rfl (fun hb => ?_) (fun hb => ?_) <;> (try simp only [Int.reduceToNat, Int.reduceTDiv, Int.reduceTMod, minL, maxL, pickB, zHB] at hb) <;> (try (first | (cases hb; done) | exact absurd hb (by decide) | (exfalso; omega))))
    | ((with_reducible refine And.intro ?_ ?_); (focus ((repeat' (first | (with_reducible rfl) | (with_reducible refine And.intro ?_ ?_) | omega | rfl | exact Or.inl rfl | exact Or.inr rfl | exact of_decide_eq_true rfl | exact Path.imp_of (of_decide_eq_true rfl) | (focus ((try simp only [Int.reduceToNat, Int.reduceTDiv, Int.reduceTMod, minL, maxL, pickB, zHB, InK, Path.imp, List.length_replicate, List.length_set, List.length_append, List.length_cons, List.length_nil] at *); omega)) | (refine app_le rfl ?_; omega))); done)); (conv => whnf))
    | ((with_reducible refine And.intro (Side.out ?_) ?_); rotate_left; (conv => whnf))
    | (refine retF1 ?_ <;> (conv => whnf) <;> repeat' (first
 | exact trivial
 | (with_reducible rfl)
 | ((with_reducible refine And.intro ?_ ?_) <;> conv => whnf)
 | omega
 | rfl
 | (refine congrArg (SV.arr _) ?_)
 | (refine congrArg (Value.int _) ?_)
 | (refine congrArg Value.bool ?_)))
 | (refine retF2 ?_ <;> (conv => whnf) <;> repeat' (first
 | exact trivial
 | (with_reducible rfl)
 | ((with_reducible refine And.intro ?_ ?_) <;> conv => whnf)
 | omega
 | rfl
 | (refine congrArg (SV.arr _) ?_)
 | (refine congrArg (Value.int _) ?_)
 | (refine congrArg Value.bool ?_)))); all_goals (try unfold Side)
  all_goals try (repeat' (first | (with_reducible rfl) | (with_reducible refine And.intro ?_ ?_) | omega | rfl | exact Or.inl rfl | exact Or.inr rfl | exact of_decide_eq_true rfl | exact Path.imp_of (of_decide_eq_true rfl) | (focus ((try simp only [Int.reduceToNat, Int.reduceTDiv, Int.reduceTMod, minL, maxL, pickB, zHB, InK, Path.imp, List.length_replicate, List.length_set, List.length_append, List.length_cons, List.length_nil] at *); omega)) | (refine app_le rfl ?_; omega)))
  refine W.loop (fun z : Nat => ⟨[(0, .lit (.int .i64 (x))), (1, .lit (.int .i64 (y))), (2, .st false (.sadr (curveT n w))), (6, .lit (.int .i64 ((cmnK w x y z : Nat)))), (11, .lit (.int .i64 (n))), (12, .lit (.int .i64 (z)))], []⟩) (fun z => z ≤ n) (fun z => n - z) (0) ?_ ?_
  · refine ⟨Nat.zero_le _, ?_⟩
    refine subF.ok ?_ <;> (conv => whnf) <;> repeat' (first
 | exact trivial
 | (with_reducible rfl)
 | ((with_reducible refine And.intro ?_ ?_) <;> conv => whnf)
 | omega
 | rfl
 | (refine congrArg (SV.arr _) ?_)
 | (refine congrArg (Value.int _) ?_)
 | (refine congrArg Value.bool ?_))
  · intro z hz
    have hle := cmnK_le (w := w) (x := x) (y := y) (k := z)
    by_cases hzl : z < n
    · have i1 := inter_at h (by omega) hx hzl
      have i2 := inter_at h (by omega) hy hzl
      cases e1 : interT w x z with
      | true =>
        cases e2 : interT w y z with
        | true =>
          have hs := cmnK_yes (w := w) (x := x) (y := y) (k := z) (by rw [e1, e2]; rfl)
          rw [e1] at i1
          rw [e2] at i2
          repeat' (first
 | refine W.seq ?_
 | refine W.block ?_
 | (refine W.region tys_ok [] ?_; conv => whnf)
 | (refine W.drawAll tys_ok [] mixed rfl ?_; conv => whnf)
 | (refine W.ret ?_; conv => whnf)
 | (refine W.skip ?_; conv => whnf)
 | (refine W.exit ?_; conv => whnf)
 | (refine call_at (al := false) (i1) rfl rfl rfl rfl ?_; conv => whnf)
 | (refine call_at (al := false) (i2) rfl rfl rfl rfl ?_; conv => whnf)

    | (refine W.cond rfl (fun hb => ?_) (fun hb => ?_) <;> (try simp only [Int.reduceToNat, Int.reduceTDiv, Int.reduceTMod, minL, maxL, pickB, zHB] at hb) <;> (try (first | (cases hb; done) | exact absurd hb (by decide) | (exfalso; omega))))
    | ((with_reducible refine And.intro ?_ ?_); (focus ((repeat' (first | (with_reducible rfl) | (with_reducible refine And.intro ?_ ?_) | omega | rfl | exact Or.inl rfl | exact Or.inr rfl | exact of_decide_eq_true rfl | exact Path.imp_of (of_decide_eq_true rfl) | (focus ((try simp only [Int.reduceToNat, Int.reduceTDiv, Int.reduceTMod, minL, maxL, pickB, zHB, InK, Path.imp, List.length_replicate, List.length_set, List.length_append, List.length_cons, List.length_nil] at *); omega)) | (refine app_le rfl ?_; omega))); done)); (conv => whnf))
    | ((with_reducible refine And.intro (Side.out ?_) ?_); rotate_left; (conv => whnf))
    | (refine retF1 ?_ <;> (conv => whnf) <;> repeat' (first
 | exact trivial
 | (with_reducible rfl)
 | ((with_reducible refine And.intro ?_ ?_) <;> conv => whnf)
 | omega
 | rfl
 | (refine congrArg (SV.arr _) ?_)
 | (refine congrArg (Value.int _) ?_)
 | (refine congrArg Value.bool ?_)))
 | (refine retF2 ?_ <;> (conv => whnf) <;> repeat' (first
 | exact trivial
 | (with_reducible rfl)
 | ((with_reducible refine And.intro ?_ ?_) <;> conv => whnf)
 | omega
 | rfl
 | (refine congrArg (SV.arr _) ?_)
 | (refine congrArg (Value.int _) ?_)
 | (refine congrArg Value.bool ?_)))); all_goals (try unfold Side)
          all_goals try (repeat' (first | (with_reducible rfl) | (with_reducible refine And.intro ?_ ?_) | omega | rfl | exact Or.inl rfl | exact Or.inr rfl | exact of_decide_eq_true rfl | exact Path.imp_of (of_decide_eq_true rfl) | (focus ((try simp only [Int.reduceToNat, Int.reduceTDiv, Int.reduceTMod, minL, maxL, pickB, zHB, InK, Path.imp, List.length_replicate, List.length_set, List.length_append, List.length_cons, List.length_nil] at *); omega)) | (refine app_le rfl ?_; omega)))
          refine ⟨z + 1, ⟨by omega, by omega⟩, ?_⟩
          rw [hs]
          refine subF.ok ?_ <;> (conv => whnf) <;> repeat' (first
 | exact trivial
 | (with_reducible rfl)
 | ((with_reducible refine And.intro ?_ ?_) <;> conv => whnf)
 | omega
 | rfl
 | (refine congrArg (SV.arr _) ?_)
 | (refine congrArg (Value.int _) ?_)
 | (refine congrArg Value.bool ?_))
        | false =>
          have hs := cmnK_no (w := w) (x := x) (y := y) (k := z) (by rw [e1, e2]; rfl)
          rw [e1] at i1
          rw [e2] at i2
          repeat' (first
 | refine W.seq ?_
 | refine W.block ?_
 | (refine W.region tys_ok [] ?_; conv => whnf)
 | (refine W.drawAll tys_ok [] mixed rfl ?_; conv => whnf)
 | (refine W.ret ?_; conv => whnf)
 | (refine W.skip ?_; conv => whnf)
 | (refine W.exit ?_; conv => whnf)
 | (refine call_at (al := false) (i1) rfl rfl rfl rfl ?_; conv => whnf)
 | (refine call_at (al := false) (i2) rfl rfl rfl rfl ?_; conv => whnf)

    | (refine W.cond rfl (fun hb => ?_) (fun hb => ?_) <;> (try simp only [Int.reduceToNat, Int.reduceTDiv, Int.reduceTMod, minL, maxL, pickB, zHB] at hb) <;> (try (first | (cases hb; done) | exact absurd hb (by decide) | (exfalso; omega))))
    | ((with_reducible refine And.intro ?_ ?_); (focus ((repeat' (first | (with_reducible rfl) | (with_reducible refine And.intro ?_ ?_) | omega | rfl | exact Or.inl rfl | exact Or.inr rfl | exact of_decide_eq_true rfl | exact Path.imp_of (of_decide_eq_true rfl) | (focus ((try simp only [Int.reduceToNat, Int.reduceTDiv, Int.reduceTMod, minL, maxL, pickB, zHB, InK, Path.imp, List.length_replicate, List.length_set, List.length_append, List.length_cons, List.length_nil] at *); omega)) | (refine app_le rfl ?_; omega))); done)); (conv => whnf))
    | ((with_reducible refine And.intro (Side.out ?_) ?_); rotate_left; (conv => whnf))
    | (refine retF1 ?_ <;> (conv => whnf) <;> repeat' (first
 | exact trivial
 | (with_reducible rfl)
 | ((with_reducible refine And.intro ?_ ?_) <;> conv => whnf)
 | omega
 | rfl
 | (refine congrArg (SV.arr _) ?_)
 | (refine congrArg (Value.int _) ?_)
 | (refine congrArg Value.bool ?_)))
 | (refine retF2 ?_ <;> (conv => whnf) <;> repeat' (first
 | exact trivial
 | (with_reducible rfl)
 | ((with_reducible refine And.intro ?_ ?_) <;> conv => whnf)
 | omega
 | rfl
 | (refine congrArg (SV.arr _) ?_)
 | (refine congrArg (Value.int _) ?_)
 | (refine congrArg Value.bool ?_)))); all_goals (try unfold Side)
          all_goals try (repeat' (first | (with_reducible rfl) | (with_reducible refine And.intro ?_ ?_) | omega | rfl | exact Or.inl rfl | exact Or.inr rfl | exact of_decide_eq_true rfl | exact Path.imp_of (of_decide_eq_true rfl) | (focus ((try simp only [Int.reduceToNat, Int.reduceTDiv, Int.reduceTMod, minL, maxL, pickB, zHB, InK, Path.imp, List.length_replicate, List.length_set, List.length_append, List.length_cons, List.length_nil] at *); omega)) | (refine app_le rfl ?_; omega)))
          refine ⟨z + 1, ⟨by omega, by omega⟩, ?_⟩
          rw [hs]
          refine subF.ok ?_ <;> (conv => whnf) <;> repeat' (first
 | exact trivial
 | (with_reducible rfl)
 | ((with_reducible refine And.intro ?_ ?_) <;> conv => whnf)
 | omega
 | rfl
 | (refine congrArg (SV.arr _) ?_)
 | (refine congrArg (Value.int _) ?_)
 | (refine congrArg Value.bool ?_))
      | false =>
        have hs := cmnK_no (w := w) (x := x) (y := y) (k := z) (by rw [e1]; rfl)
        rw [e1] at i1
        repeat' (first
 | refine W.seq ?_
 | refine W.block ?_
 | (refine W.region tys_ok [] ?_; conv => whnf)
 | (refine W.drawAll tys_ok [] mixed rfl ?_; conv => whnf)
 | (refine W.ret ?_; conv => whnf)
 | (refine W.skip ?_; conv => whnf)
 | (refine W.exit ?_; conv => whnf)
 | (refine call_at (al := false) (i1) rfl rfl rfl rfl ?_; conv => whnf)
 | (refine call_at (al := false) (i2) rfl rfl rfl rfl ?_; conv => whnf)

    | (refine W.cond rfl (fun hb => ?_) (fun hb => ?_) <;> (try simp only [Int.reduceToNat, Int.reduceTDiv, Int.reduceTMod, minL, maxL, pickB, zHB] at hb) <;> (try (first | (cases hb; done) | exact absurd hb (by decide) | (exfalso; omega))))
    | ((with_reducible refine And.intro ?_ ?_); (focus ((repeat' (first | (with_reducible rfl) | (with_reducible refine And.intro ?_ ?_) | omega | rfl | exact Or.inl rfl | exact Or.inr rfl | exact of_decide_eq_true rfl | exact Path.imp_of (of_decide_eq_true rfl) | (focus ((try simp only [Int.reduceToNat, Int.reduceTDiv, Int.reduceTMod, minL, maxL, pickB, zHB, InK, Path.imp, List.length_replicate, List.length_set, List.length_append, List.length_cons, List.length_nil] at *); omega)) | (refine app_le rfl ?_; omega))); done)); (conv => whnf))
    | ((with_reducible refine And.intro (Side.out ?_) ?_); rotate_left; (conv => whnf))
    | (refine retF1 ?_ <;> (conv => whnf) <;> repeat' (first
 | exact trivial
 | (with_reducible rfl)
 | ((with_reducible refine And.intro ?_ ?_) <;> conv => whnf)
 | omega
 | rfl
 | (refine congrArg (SV.arr _) ?_)
 | (refine congrArg (Value.int _) ?_)
 | (refine congrArg Value.bool ?_)))
 | (refine retF2 ?_ <;> (conv => whnf) <;> repeat' (first
 | exact trivial
 | (with_reducible rfl)
 | ((with_reducible refine And.intro ?_ ?_) <;> conv => whnf)
 | omega
 | rfl
 | (refine congrArg (SV.arr _) ?_)
 | (refine congrArg (Value.int _) ?_)
 | (refine congrArg Value.bool ?_)))); all_goals (try unfold Side)
        all_goals try (repeat' (first | (with_reducible rfl) | (with_reducible refine And.intro ?_ ?_) | omega | rfl | exact Or.inl rfl | exact Or.inr rfl | exact of_decide_eq_true rfl | exact Path.imp_of (of_decide_eq_true rfl) | (focus ((try simp only [Int.reduceToNat, Int.reduceTDiv, Int.reduceTMod, minL, maxL, pickB, zHB, InK, Path.imp, List.length_replicate, List.length_set, List.length_append, List.length_cons, List.length_nil] at *); omega)) | (refine app_le rfl ?_; omega)))
        refine ⟨z + 1, ⟨by omega, by omega⟩, ?_⟩
        rw [hs]
        refine subF.ok ?_ <;> (conv => whnf) <;> repeat' (first
 | exact trivial
 | (with_reducible rfl)
 | ((with_reducible refine And.intro ?_ ?_) <;> conv => whnf)
 | omega
 | rfl
 | (refine congrArg (SV.arr _) ?_)
 | (refine congrArg (Value.int _) ?_)
 | (refine congrArg Value.bool ?_))
    · have hze : n = z := by omega
      subst hze
      repeat' (first
 | refine W.seq ?_
 | refine W.block ?_
 | (refine W.region tys_ok [] ?_; conv => whnf)
 | (refine W.drawAll tys_ok [] mixed rfl ?_; conv => whnf)
 | (refine W.ret ?_; conv => whnf)
 | (refine W.skip ?_; conv => whnf)
 | (refine W.exit ?_; conv => whnf)

    | (refine W.cond rfl (fun hb => ?_) (fun hb => ?_) <;> (try simp only [Int.reduceToNat, Int.reduceTDiv, Int.reduceTMod, minL, maxL, pickB, zHB] at hb) <;> (try (first | (cases hb; done) | exact absurd hb (by decide) | (exfalso; omega))))
    | ((with_reducible refine And.intro ?_ ?_); (focus ((repeat' (first | (with_reducible rfl) | (with_reducible refine And.intro ?_ ?_) | omega | rfl | exact Or.inl rfl | exact Or.inr rfl | exact of_decide_eq_true rfl | exact Path.imp_of (of_decide_eq_true rfl) | (focus ((try simp only [Int.reduceToNat, Int.reduceTDiv, Int.reduceTMod, minL, maxL, pickB, zHB, InK, Path.imp, List.length_replicate, List.length_set, List.length_append, List.length_cons, List.length_nil] at *); omega)) | (refine app_le rfl ?_; omega))); done)); (conv => whnf))
    | ((with_reducible refine And.intro (Side.out ?_) ?_); rotate_left; (conv => whnf))
    | (refine retF1 ?_ <;> (conv => whnf) <;> repeat' (first
 | exact trivial
 | (with_reducible rfl)
 | ((with_reducible refine And.intro ?_ ?_) <;> conv => whnf)
 | omega
 | rfl
 | (refine congrArg (SV.arr _) ?_)
 | (refine congrArg (Value.int _) ?_)
 | (refine congrArg Value.bool ?_)))
 | (refine retF2 ?_ <;> (conv => whnf) <;> repeat' (first
 | exact trivial
 | (with_reducible rfl)
 | ((with_reducible refine And.intro ?_ ?_) <;> conv => whnf)
 | omega
 | rfl
 | (refine congrArg (SV.arr _) ?_)
 | (refine congrArg (Value.int _) ?_)
 | (refine congrArg Value.bool ?_)))); all_goals (try unfold Side)
      all_goals try (repeat' (first | (with_reducible rfl) | (with_reducible refine And.intro ?_ ?_) | omega | rfl | exact Or.inl rfl | exact Or.inr rfl | exact of_decide_eq_true rfl | exact Path.imp_of (of_decide_eq_true rfl) | (focus ((try simp only [Int.reduceToNat, Int.reduceTDiv, Int.reduceTMod, minL, maxL, pickB, zHB, InK, Path.imp, List.length_replicate, List.length_set, List.length_append, List.length_cons, List.length_nil] at *); omega)) | (refine app_le rfl ?_; omega)))
theorem Drawn_no {w : List Int} (h : ¬ checkT w = 0) (hl : w.length ≤ 1000) : FnAt Try.prog false 6 [.arr (.int .i64) w] (.tup [.lit (.bool false), .lit (.int .i64 (checkT w))]) [] := by
  refine FnAt.of_body tys_ok Try.func6 (by rfl) rfl Try.ntmps6 (by rw [Try.results6]) (by simp) ?_
  
  repeat' (first
 | refine W.seq ?_
 | refine W.block ?_
 | (refine W.region tys_ok [] ?_; conv => whnf)
 | (refine W.drawAll tys_ok [] mixed rfl ?_; conv => whnf)
 | (refine W.ret ?_; conv => whnf)
 | (refine W.skip ?_; conv => whnf)
 | (refine W.exit ?_; conv => whnf)
 | (refine call_at (al := true) (read_bad h hl) rfl rfl rfl rfl ?_; conv => whnf)

    | (refine W.cond rfl (fun hb => ?_) (fun hb => ?_) <;> (try simp only [Int.reduceToNat, Int.reduceTDiv, Int.reduceTMod, minL, maxL, pickB, zHB] at hb) <;> (try (first | (cases hb; done) | exact absurd hb (by decide) | (exfalso; omega))))
    | ((with_reducible refine And.intro ?_ ?_); (focus ((repeat' (first | (with_reducible rfl) | (with_reducible refine And.intro ?_ ?_) | omega | rfl | exact Or.inl rfl | exact Or.inr rfl | exact of_decide_eq_true rfl | exact Path.imp_of (of_decide_eq_true rfl) | (focus ((try simp only [Int.reduceToNat, Int.reduceTDiv, Int.reduceTMod, minL, maxL, pickB, zHB, InK, Path.imp, List.length_replicate, List.length_set, List.length_append, List.length_cons, List.length_nil] at *); omega)) | (refine app_le rfl ?_; omega))); done)); (conv => whnf))
    | ((with_reducible refine And.intro (Side.out ?_) ?_); rotate_left; (conv => whnf))
    | (refine retF1 ?_ <;> (conv => whnf) <;> repeat' (first
 | exact trivial
 | (with_reducible rfl)
 | ((with_reducible refine And.intro ?_ ?_) <;> conv => whnf)
 | omega
 | rfl
 | (refine congrArg (SV.arr _) ?_)
 | (refine congrArg (Value.int _) ?_)
 | (refine congrArg Value.bool ?_)))
 | (refine retF2 ?_ <;> (conv => whnf) <;> repeat' (first
 | exact trivial
 | (with_reducible rfl)
 | ((with_reducible refine And.intro ?_ ?_) <;> conv => whnf)
 | omega
 | rfl
 | (refine congrArg (SV.arr _) ?_)
 | (refine congrArg (Value.int _) ?_)
 | (refine congrArg Value.bool ?_)))); all_goals (try unfold Side)
  all_goals try (repeat' (first | (with_reducible rfl) | (with_reducible refine And.intro ?_ ?_) | omega | rfl | exact Or.inl rfl | exact Or.inr rfl | exact of_decide_eq_true rfl | exact Path.imp_of (of_decide_eq_true rfl) | (focus ((try simp only [Int.reduceToNat, Int.reduceTDiv, Int.reduceTMod, minL, maxL, pickB, zHB, InK, Path.imp, List.length_replicate, List.length_set, List.length_append, List.length_cons, List.length_nil] at *); omega)) | (refine app_le rfl ?_; omega)))
end Go.Proofs.Ytdfajcfkdfjoeab
/- The three conditions: the program's. No condition. -/
namespace Go.Proofs.Ytdfajcfkdfjoeab
open Go Go.Vc Go.Scr
set_option linter.unusedVariables false
set_option linter.unusedSimpArgs false

structure ClV (w : List Int) (n f : Nat) (s : List Int) : Prop where
  clo : Clo n (gD w) (eD w n) s
  va : Vals n s
  all : ∀ a, a < f → 0 ≤ s.getD a 0
set_option maxHeartbeats 16000000 in
theorem Drawn_ok {w : List Int} {n : Nat} (h : Word w n) (hn : n ≤ 10) : FnAt Try.prog false 6 [.arr (.int .i64) w] (.tup [.lit (.bool (drawnB w n)), .lit (.int .i64 0)]) [] := by
  have hp := h.pos
  have no1 : ∀ x, x < n → ¬ C1 w n x → drawnB w n = false := fun x hx hc => drawnB_no fun hd => hc (hd.1 x hx)
  have no2 : ∀ x y, y < x → x < n → ¬ C2 w n x y → drawnB w n = false := fun x y hy hx hc => drawnB_no fun hd => hc (hd.2.1 x y hy hx)
  have no3 : (¬ ∃ d, Valid n (gD w) (eD w n) d) → drawnB w n = false := fun hc => drawnB_no fun hd => hc hd.2.2
  have yes : (∀ a, a < n → C1 w n a) → (∀ a b, b < a → a < n → C2 w n a b) → (∃ d, Valid n (gD w) (eD w n) d) → drawnB w n = true := fun h1 h2 h3 => drawnB_yes ⟨h1, h2, h3⟩
  have bmod : ∀ x y, ((cmnK w x y n : Int).tmod 2 = 1 ↔ ¬ cmnK w x y n % 2 = 0) := fun x y => by rw [Int.tmod_eq_emod_of_nonneg (by omega)]; omega
  have hcb := fun x y (hx : x < n) (hy : y < n) => both_at h hn hx hy
  have hci := fun x y (hx : x < n) (hy : y < n) => inter_at h (by omega) hx hy
  have hrep := repeat_at (n := n) hp (by omega)
  obtain ⟨D, hD⟩ : ∃ D, D = drawnB w n := ⟨_, rfl⟩
  rw [← hD] at no1 no2 no3 yes ⊢
  clear hD
  refine FnAt.of_body tys_ok Try.func6 (by rfl) rfl Try.ntmps6 (by rw [Try.results6]) (by simp) ?_
  
  repeat' (first
 | refine W.seq ?_
 | refine W.block ?_
 | (refine W.region tys_ok [] ?_; conv => whnf)
 | (refine W.drawAll tys_ok [] mixed rfl ?_; conv => whnf)
 | (refine W.ret ?_; conv => whnf)
 | (refine W.skip ?_; conv => whnf)
 | (refine W.exit ?_; conv => whnf)
 | (refine call_at (al := true) (read_ok h hn) rfl rfl rfl rfl ?_; conv => whnf)

    | (refine W.cond rfl (fun hb => ?_) (fun hb => ?_) <;> (try simp only [Int.reduceToNat, Int.reduceTDiv, Int.reduceTMod, minL, maxL, pickB, zHB] at hb) <;> (try (first | (cases hb; done) | exact absurd hb (by decide) | (exfalso; omega))))
    | ((with_reducible refine And.intro ?_ ?_); (focus ((repeat' (first | (with_reducible rfl) | (with_reducible refine And.intro ?_ ?_) | omega | rfl | exact Or.inl rfl | exact Or.inr rfl | exact of_decide_eq_true rfl | exact Path.imp_of (of_decide_eq_true rfl) | (focus ((try simp only [Int.reduceToNat, Int.reduceTDiv, Int.reduceTMod, minL, maxL, pickB, zHB, InK, Path.imp, List.length_replicate, List.length_set, List.length_append, List.length_cons, List.length_nil] at *); omega)) | (refine app_le rfl ?_; omega))); done)); (conv => whnf))
    | ((with_reducible refine And.intro (Side.out ?_) ?_); rotate_left; (conv => whnf))
    | (refine retF1 ?_ <;> (conv => whnf) <;> repeat' (first
 | exact trivial
 | (with_reducible rfl)
 | ((with_reducible refine And.intro ?_ ?_) <;> conv => whnf)
 | omega
 | rfl
 | (refine congrArg (SV.arr _) ?_)
 | (refine congrArg (Value.int _) ?_)
 | (refine congrArg Value.bool ?_)))
 | (refine retF2 ?_ <;> (conv => whnf) <;> repeat' (first
 | exact trivial
 | (with_reducible rfl)
 | ((with_reducible refine And.intro ?_ ?_) <;> conv => whnf)
 | omega
 | rfl
 | (refine congrArg (SV.arr _) ?_)
 | (refine congrArg (Value.int _) ?_)
 | (refine congrArg Value.bool ?_)))); all_goals (try unfold Side)
  all_goals try (repeat' (first | (with_reducible rfl) | (with_reducible refine And.intro ?_ ?_) | omega | rfl | exact Or.inl rfl | exact Or.inr rfl | exact of_decide_eq_true rfl | exact Path.imp_of (of_decide_eq_true rfl) | (focus ((try simp only [Int.reduceToNat, Int.reduceTDiv, Int.reduceTMod, minL, maxL, pickB, zHB, InK, Path.imp, List.length_replicate, List.length_set, List.length_append, List.length_cons, List.length_nil] at *); omega)) | (refine app_le rfl ?_; omega)))
  refine W.loop (fun x : Nat => ⟨[(4, .padr 900004 0), (6, .fn 11 [.padr 900004 0]), (27, .lit (.int .i64 (n))), (28, .lit (.int .i64 (x)))], [(900004, .box1 (.st false (curveT n w)))]⟩) (fun x => x ≤ n ∧ (∀ a, a < x → C1 w n a) ∧ (∀ a b, b < a → a < x → C2 w n a b)) (fun x => n - x) (0) ?_ ?_
  · refine ⟨⟨Nat.zero_le _, by omega, by omega⟩, ?_⟩
    refine subF.ok ?_ <;> (conv => whnf) <;> repeat' (first
 | exact trivial
 | (with_reducible rfl)
 | ((with_reducible refine And.intro ?_ ?_) <;> conv => whnf)
 | omega
 | rfl
 | (refine congrArg (SV.arr _) ?_)
 | (refine congrArg (Value.int _) ?_)
 | (refine congrArg Value.bool ?_))
  · rintro x ⟨hx, hc1, hc2⟩
    by_cases hxn : x < n
    · have hb1 := hcb x x hxn hxn
      have hbl := cmnK_le (w := w) (x := x) (y := x) (k := n)
      by_cases hcx : C1 w n x
      · have hcm : ¬ (cmnK w x x n : Int).tmod 2 = 1 := fun hh => (bmod x x).1 hh hcx
        repeat' (first
 | refine W.seq ?_
 | refine W.block ?_
 | (refine W.region tys_ok [] ?_; conv => whnf)
 | (refine W.drawAll tys_ok [] mixed rfl ?_; conv => whnf)
 | (refine W.ret ?_; conv => whnf)
 | (refine W.skip ?_; conv => whnf)
 | (refine W.exit ?_; conv => whnf)
 | (refine call_at (al := false) (hb1) rfl rfl rfl rfl ?_; conv => whnf)

    | (refine W.cond rfl (fun hb => ?_) (fun hb => ?_) <;> (try simp only [Int.reduceToNat, Int.reduceTDiv, Int.reduceTMod, minL, maxL, pickB, zHB] at hb) <;> (try (first | (cases hb; done) | exact absurd hb (by decide) | (exfalso; omega) | (exact absurd hb hcm))))
    | ((with_reducible refine And.intro ?_ ?_); (focus ((repeat' (first | (with_reducible rfl) | (with_reducible refine And.intro ?_ ?_) | omega | rfl | exact Or.inl rfl | exact Or.inr rfl | exact of_decide_eq_true rfl | exact Path.imp_of (of_decide_eq_true rfl) | (focus ((try simp only [Int.reduceToNat, Int.reduceTDiv, Int.reduceTMod, minL, maxL, pickB, zHB, InK, Path.imp, List.length_replicate, List.length_set, List.length_append, List.length_cons, List.length_nil] at *); omega)) | (refine app_le rfl ?_; omega))); done)); (conv => whnf))
    | ((with_reducible refine And.intro (Side.out ?_) ?_); rotate_left; (conv => whnf))
    | (refine retF1 ?_ <;> (conv => whnf) <;> repeat' (first
 | exact trivial
 | (with_reducible rfl)
 | ((with_reducible refine And.intro ?_ ?_) <;> conv => whnf)
 | omega
 | rfl
 | (refine congrArg (SV.arr _) ?_)
 | (refine congrArg (Value.int _) ?_)
 | (refine congrArg Value.bool ?_)))
 | (refine retF2 ?_ <;> (conv => whnf) <;> repeat' (first
 | exact trivial
 | (with_reducible rfl)
 | ((with_reducible refine And.intro ?_ ?_) <;> conv => whnf)
 | omega
 | rfl
 | (refine congrArg (SV.arr _) ?_)
 | (refine congrArg (Value.int _) ?_)
 | (refine congrArg Value.bool ?_)))); all_goals (try unfold Side)
        all_goals try (repeat' (first | (with_reducible rfl) | (with_reducible refine And.intro ?_ ?_) | omega | rfl | exact Or.inl rfl | exact Or.inr rfl | exact of_decide_eq_true rfl | exact Path.imp_of (of_decide_eq_true rfl) | (focus ((try simp only [Int.reduceToNat, Int.reduceTDiv, Int.reduceTMod, minL, maxL, pickB, zHB, InK, Path.imp, List.length_replicate, List.length_set, List.length_append, List.length_cons, List.length_nil] at *); omega)) | (refine app_le rfl ?_; omega)))
        refine W.loop (fun y : Nat => ⟨[(4, .padr 900004 0), (6, .fn 11 [.padr 900004 0]), (27, .lit (.int .i64 (n))), (28, .lit (.int .i64 (x))), (7, .lit (.int .i64 (x))), (37, .lit (.int .i64 (x))), (38, .lit (.int .i64 (y)))], [(900004, .box1 (.st false (curveT n w)))]⟩) (fun y => y ≤ x ∧ (∀ b, b < y → C2 w n x b)) (fun y => x - y) (0) ?_ ?_
        · refine ⟨⟨Nat.zero_le _, by omega⟩, ?_⟩
          refine subF.ok ?_ <;> (conv => whnf) <;> repeat' (first
 | exact trivial
 | (with_reducible rfl)
 | ((with_reducible refine And.intro ?_ ?_) <;> conv => whnf)
 | omega
 | rfl
 | (refine congrArg (SV.arr _) ?_)
 | (refine congrArg (Value.int _) ?_)
 | (refine congrArg Value.bool ?_))
        · rintro y ⟨hy, hcy⟩
          by_cases hyx : y < x
          · have hb2 := hcb x y hxn (by omega)
            have hi2 := hci x y hxn (by omega)
            by_cases hc : C2 w n x y
            · have hkl : ¬ (interT w x y = false ∧ (cmnK w x y n : Int).tmod 2 = 1) := fun hh => (bmod x y).1 hh.2 (hc hh.1)
              repeat' (first
 | refine W.seq ?_
 | refine W.block ?_
 | (refine W.region tys_ok [] ?_; conv => whnf)
 | (refine W.drawAll tys_ok [] mixed rfl ?_; conv => whnf)
 | (refine W.ret ?_; conv => whnf)
 | (refine W.skip ?_; conv => whnf)
 | (refine W.exit ?_; conv => whnf)
 | (refine call_at (al := false) (hi2) rfl rfl rfl rfl ?_; conv => whnf)
 | (refine call_at (al := false) (hb2) rfl rfl rfl rfl ?_; conv => whnf)

    | (refine W.cond rfl (fun hb => ?_) (fun hb => ?_) <;> (try simp only [Int.reduceToNat, Int.reduceTDiv, Int.reduceTMod, minL, maxL, pickB, zHB] at hb) <;> (try (first | (cases hb; done) | exact absurd hb (by decide) | (exfalso; omega) | (exact absurd hb hkl))))
    | ((with_reducible refine And.intro ?_ ?_); (focus ((repeat' (first | (with_reducible rfl) | (with_reducible refine And.intro ?_ ?_) | omega | rfl | exact Or.inl rfl | exact Or.inr rfl | exact of_decide_eq_true rfl | exact Path.imp_of (of_decide_eq_true rfl) | (focus ((try simp only [Int.reduceToNat, Int.reduceTDiv, Int.reduceTMod, minL, maxL, pickB, zHB, InK, Path.imp, List.length_replicate, List.length_set, List.length_append, List.length_cons, List.length_nil] at *); omega)) | (refine app_le rfl ?_; omega))); done)); (conv => whnf))
    | ((with_reducible refine And.intro (Side.out ?_) ?_); rotate_left; (conv => whnf))
    | (refine retF1 ?_ <;> (conv => whnf) <;> repeat' (first
 | exact trivial
 | (with_reducible rfl)
 | ((with_reducible refine And.intro ?_ ?_) <;> conv => whnf)
 | omega
 | rfl
 | (refine congrArg (SV.arr _) ?_)
 | (refine congrArg (Value.int _) ?_)
 | (refine congrArg Value.bool ?_)))
 | (refine retF2 ?_ <;> (conv => whnf) <;> repeat' (first
 | exact trivial
 | (with_reducible rfl)
 | ((with_reducible refine And.intro ?_ ?_) <;> conv => whnf)
 | omega
 | rfl
 | (refine congrArg (SV.arr _) ?_)
 | (refine congrArg (Value.int _) ?_)
 | (refine congrArg Value.bool ?_)))); all_goals (try unfold Side)
              all_goals try (repeat' (first | (with_reducible rfl) | (with_reducible refine And.intro ?_ ?_) | omega | rfl | exact Or.inl rfl | exact Or.inr rfl | exact of_decide_eq_true rfl | exact Path.imp_of (of_decide_eq_true rfl) | (focus ((try simp only [Int.reduceToNat, Int.reduceTDiv, Int.reduceTMod, minL, maxL, pickB, zHB, InK, Path.imp, List.length_replicate, List.length_set, List.length_append, List.length_cons, List.length_nil] at *); omega)) | (refine app_le rfl ?_; omega)))
              refine ⟨y + 1, ⟨⟨by omega, fun b hb => ?_⟩, by omega⟩, ?_⟩
              · by_cases e : b = y
                · subst e; exact hc
                · exact hcy b (by omega)
              · refine subF.ok ?_ <;> (conv => whnf) <;> repeat' (first
 | exact trivial
 | (with_reducible rfl)
 | ((with_reducible refine And.intro ?_ ?_) <;> conv => whnf)
 | omega
 | rfl
 | (refine congrArg (SV.arr _) ?_)
 | (refine congrArg (Value.int _) ?_)
 | (refine congrArg Value.bool ?_))
            · have hno := no2 x y hyx hxn hc
              have hkl : interT w x y = false ∧ (cmnK w x y n : Int).tmod 2 = 1 := by
                refine ⟨?_, (bmod x y).2 fun he => hc fun _ => he⟩
                cases hi : interT w x y with
                | false => rfl
                | true => exact absurd (fun (h : interT w x y = false) => by rw [hi] at h; cases h) hc
              repeat' (first
 | refine W.seq ?_
 | refine W.block ?_
 | (refine W.region tys_ok [] ?_; conv => whnf)
 | (refine W.drawAll tys_ok [] mixed rfl ?_; conv => whnf)
 | (refine W.ret ?_; conv => whnf)
 | (refine W.skip ?_; conv => whnf)
 | (refine W.exit ?_; conv => whnf)
 | (refine call_at (al := false) (hi2) rfl rfl rfl rfl ?_; conv => whnf)
 | (refine call_at (al := false) (hb2) rfl rfl rfl rfl ?_; conv => whnf)

    | (refine W.cond rfl (fun hb => ?_) (fun hb => ?_) <;> (try simp only [Int.reduceToNat, Int.reduceTDiv, Int.reduceTMod, minL, maxL, pickB, zHB] at hb) <;> (try (first | (cases hb; done) | exact absurd hb (by decide) | (exfalso; omega) | (rcases hb with hb | hb; exact absurd (hb.symm.trans hkl.1) (by decide); exact absurd hkl.2 hb))))
    | ((with_reducible refine And.intro ?_ ?_); (focus ((repeat' (first | (with_reducible rfl) | (with_reducible refine And.intro ?_ ?_) | omega | rfl | exact Or.inl rfl | exact Or.inr rfl | exact of_decide_eq_true rfl | exact Path.imp_of (of_decide_eq_true rfl) | (focus ((try simp only [Int.reduceToNat, Int.reduceTDiv, Int.reduceTMod, minL, maxL, pickB, zHB, InK, Path.imp, List.length_replicate, List.length_set, List.length_append, List.length_cons, List.length_nil] at *); omega)) | (refine app_le rfl ?_; omega))); done)); (conv => whnf))
    | ((with_reducible refine And.intro (Side.out ?_) ?_); rotate_left; (conv => whnf))
    | (refine retF1 ?_ <;> (conv => whnf) <;> repeat' (first
 | exact trivial
 | (with_reducible rfl)
 | ((with_reducible refine And.intro ?_ ?_) <;> conv => whnf)
 | omega
 | rfl
 | (refine congrArg (SV.arr _) ?_)
 | (refine congrArg (Value.int _) ?_)
 | (refine congrArg Value.bool ?_)))
 | (refine retF2 ?_ <;> (conv => whnf) <;> repeat' (first
 | exact trivial
 | (with_reducible rfl)
 | ((with_reducible refine And.intro ?_ ?_) <;> conv => whnf)
 | omega
 | rfl
 | (refine congrArg (SV.arr _) ?_)
 | (refine congrArg (Value.int _) ?_)
 | (refine congrArg Value.bool ?_)))); all_goals (try unfold Side)
              all_goals try (repeat' (first | (with_reducible rfl) | (with_reducible refine And.intro ?_ ?_) | omega | rfl | exact Or.inl rfl | exact Or.inr rfl | exact of_decide_eq_true rfl | exact Path.imp_of (of_decide_eq_true rfl) | (focus ((try simp only [Int.reduceToNat, Int.reduceTDiv, Int.reduceTMod, minL, maxL, pickB, zHB, InK, Path.imp, List.length_replicate, List.length_set, List.length_append, List.length_cons, List.length_nil] at *); omega)) | (refine app_le rfl ?_; omega)))
              all_goals exact hno.symm
          · have hye : x = y := by omega
            subst hye
            repeat' (first
 | refine W.seq ?_
 | refine W.block ?_
 | (refine W.region tys_ok [] ?_; conv => whnf)
 | (refine W.drawAll tys_ok [] mixed rfl ?_; conv => whnf)
 | (refine W.ret ?_; conv => whnf)
 | (refine W.skip ?_; conv => whnf)
 | (refine W.exit ?_; conv => whnf)

    | (refine W.cond rfl (fun hb => ?_) (fun hb => ?_) <;> (try simp only [Int.reduceToNat, Int.reduceTDiv, Int.reduceTMod, minL, maxL, pickB, zHB] at hb) <;> (try (first | (cases hb; done) | exact absurd hb (by decide) | (exfalso; omega))))
    | ((with_reducible refine And.intro ?_ ?_); (focus ((repeat' (first | (with_reducible rfl) | (with_reducible refine And.intro ?_ ?_) | omega | rfl | exact Or.inl rfl | exact Or.inr rfl | exact of_decide_eq_true rfl | exact Path.imp_of (of_decide_eq_true rfl) | (focus ((try simp only [Int.reduceToNat, Int.reduceTDiv, Int.reduceTMod, minL, maxL, pickB, zHB, InK, Path.imp, List.length_replicate, List.length_set, List.length_append, List.length_cons, List.length_nil] at *); omega)) | (refine app_le rfl ?_; omega))); done)); (conv => whnf))
    | ((with_reducible refine And.intro (Side.out ?_) ?_); rotate_left; (conv => whnf))
    | (refine retF1 ?_ <;> (conv => whnf) <;> repeat' (first
 | exact trivial
 | (with_reducible rfl)
 | ((with_reducible refine And.intro ?_ ?_) <;> conv => whnf)
 | omega
 | rfl
 | (refine congrArg (SV.arr _) ?_)
 | (refine congrArg (Value.int _) ?_)
 | (refine congrArg Value.bool ?_)))
 | (refine retF2 ?_ <;> (conv => whnf) <;> repeat' (first
 | exact trivial
 | (with_reducible rfl)
 | ((with_reducible refine And.intro ?_ ?_) <;> conv => whnf)
 | omega
 | rfl
 | (refine congrArg (SV.arr _) ?_)
 | (refine congrArg (Value.int _) ?_)
 | (refine congrArg Value.bool ?_)))); all_goals (try unfold Side)
            all_goals try (repeat' (first | (with_reducible rfl) | (with_reducible refine And.intro ?_ ?_) | omega | rfl | exact Or.inl rfl | exact Or.inr rfl | exact of_decide_eq_true rfl | exact Path.imp_of (of_decide_eq_true rfl) | (focus ((try simp only [Int.reduceToNat, Int.reduceTDiv, Int.reduceTMod, minL, maxL, pickB, zHB, InK, Path.imp, List.length_replicate, List.length_set, List.length_append, List.length_cons, List.length_nil] at *); omega)) | (refine app_le rfl ?_; omega)))
            refine ⟨x + 1, ⟨⟨by omega, fun a ha => ?_, fun a b hba ha => ?_⟩, by omega⟩, ?_⟩
            · by_cases e : a = x
              · subst e; exact hcx
              · exact hc1 a (by omega)
            · by_cases e : a = x
              · subst e; exact hcy b hba
              · exact hc2 a b hba (by omega)
            · refine subF.ok ?_ <;> (conv => whnf) <;> repeat' (first
 | exact trivial
 | (with_reducible rfl)
 | ((with_reducible refine And.intro ?_ ?_) <;> conv => whnf)
 | omega
 | rfl
 | (refine congrArg (SV.arr _) ?_)
 | (refine congrArg (Value.int _) ?_)
 | (refine congrArg Value.bool ?_))
      · have hcm : (cmnK w x x n : Int).tmod 2 = 1 := (bmod x x).2 hcx
        have hno := no1 x hxn hcx
        repeat' (first
 | refine W.seq ?_
 | refine W.block ?_
 | (refine W.region tys_ok [] ?_; conv => whnf)
 | (refine W.drawAll tys_ok [] mixed rfl ?_; conv => whnf)
 | (refine W.ret ?_; conv => whnf)
 | (refine W.skip ?_; conv => whnf)
 | (refine W.exit ?_; conv => whnf)
 | (refine call_at (al := false) (hb1) rfl rfl rfl rfl ?_; conv => whnf)

    | (refine W.cond rfl (fun hb => ?_) (fun hb => ?_) <;> (try simp only [Int.reduceToNat, Int.reduceTDiv, Int.reduceTMod, minL, maxL, pickB, zHB] at hb) <;> (try (first | (cases hb; done) | exact absurd hb (by decide) | (exfalso; omega) | (exact absurd hcm hb))))
    | ((with_reducible refine And.intro ?_ ?_); (focus ((repeat' (first | (with_reducible rfl) | (with_reducible refine And.intro ?_ ?_) | omega | rfl | exact Or.inl rfl | exact Or.inr rfl | exact of_decide_eq_true rfl | exact Path.imp_of (of_decide_eq_true rfl) | (focus ((try simp only [Int.reduceToNat, Int.reduceTDiv, Int.reduceTMod, minL, maxL, pickB, zHB, InK, Path.imp, List.length_replicate, List.length_set, List.length_append, List.length_cons, List.length_nil] at *); omega)) | (refine app_le rfl ?_; omega))); done)); (conv => whnf))
    | ((with_reducible refine And.intro (Side.out ?_) ?_); rotate_left; (conv => whnf))
    | (refine retF1 ?_ <;> (conv => whnf) <;> repeat' (first
 | exact trivial
 | (with_reducible rfl)
 | ((with_reducible refine And.intro ?_ ?_) <;> conv => whnf)
 | omega
 | rfl
 | (refine congrArg (SV.arr _) ?_)
 | (refine congrArg (Value.int _) ?_)
 | (refine congrArg Value.bool ?_)))
 | (refine retF2 ?_ <;> (conv => whnf) <;> repeat' (first
 | exact trivial
 | (with_reducible rfl)
 | ((with_reducible refine And.intro ?_ ?_) <;> conv => whnf)
 | omega
 | rfl
 | (refine congrArg (SV.arr _) ?_)
 | (refine congrArg (Value.int _) ?_)
 | (refine congrArg Value.bool ?_)))); all_goals (try unfold Side)
        all_goals try (repeat' (first | (with_reducible rfl) | (with_reducible refine And.intro ?_ ?_) | omega | rfl | exact Or.inl rfl | exact Or.inr rfl | exact of_decide_eq_true rfl | exact Path.imp_of (of_decide_eq_true rfl) | (focus ((try simp only [Int.reduceToNat, Int.reduceTDiv, Int.reduceTMod, minL, maxL, pickB, zHB, InK, Path.imp, List.length_replicate, List.length_set, List.length_append, List.length_cons, List.length_nil] at *); omega)) | (refine app_le rfl ?_; omega)))
        all_goals exact hno.symm
    · have hxe : n = x := by omega
      subst hxe
      have clv0 : ClV w n 0 (List.replicate n (-1)) := ⟨fun x z hx hz h0 => by
          have : (List.replicate n (-1 : Int)).getD x 0 = -1 := by simp [List.getD, hx]
          omega, ⟨by simp, fun x hx => .inl (by simp [List.getD, hx])⟩, by omega⟩
      repeat' (first
 | refine W.seq ?_
 | refine W.block ?_
 | (refine W.region tys_ok [] ?_; conv => whnf)
 | (refine W.drawAll tys_ok [] mixed rfl ?_; conv => whnf)
 | (refine W.ret ?_; conv => whnf)
 | (refine W.skip ?_; conv => whnf)
 | (refine W.exit ?_; conv => whnf)
 | (refine call_at (al := false) (hrep) rfl rfl rfl rfl ?_; conv => whnf)

    | (refine W.cond rfl (fun hb => ?_) (fun hb => ?_) <;> (try simp only [Int.reduceToNat, Int.reduceTDiv, Int.reduceTMod, minL, maxL, pickB, zHB] at hb) <;> (try (first | (cases hb; done) | exact absurd hb (by decide) | (exfalso; omega))))
    | ((with_reducible refine And.intro ?_ ?_); (focus ((repeat' (first | (with_reducible rfl) | (with_reducible refine And.intro ?_ ?_) | omega | rfl | exact Or.inl rfl | exact Or.inr rfl | exact of_decide_eq_true rfl | exact Path.imp_of (of_decide_eq_true rfl) | (focus ((try simp only [Int.reduceToNat, Int.reduceTDiv, Int.reduceTMod, minL, maxL, pickB, zHB, InK, Path.imp, List.length_replicate, List.length_set, List.length_append, List.length_cons, List.length_nil] at *); omega)) | (refine app_le rfl ?_; omega))); done)); (conv => whnf))
    | ((with_reducible refine And.intro (Side.out ?_) ?_); rotate_left; (conv => whnf))
    | (refine retF1 ?_ <;> (conv => whnf) <;> repeat' (first
 | exact trivial
 | (with_reducible rfl)
 | ((with_reducible refine And.intro ?_ ?_) <;> conv => whnf)
 | omega
 | rfl
 | (refine congrArg (SV.arr _) ?_)
 | (refine congrArg (Value.int _) ?_)
 | (refine congrArg Value.bool ?_)))
 | (refine retF2 ?_ <;> (conv => whnf) <;> repeat' (first
 | exact trivial
 | (with_reducible rfl)
 | ((with_reducible refine And.intro ?_ ?_) <;> conv => whnf)
 | omega
 | rfl
 | (refine congrArg (SV.arr _) ?_)
 | (refine congrArg (Value.int _) ?_)
 | (refine congrArg Value.bool ?_)))); all_goals (try unfold Side)
      all_goals try (repeat' (first | (with_reducible rfl) | (with_reducible refine And.intro ?_ ?_) | omega | rfl | exact Or.inl rfl | exact Or.inr rfl | exact of_decide_eq_true rfl | exact Path.imp_of (of_decide_eq_true rfl) | (focus ((try simp only [Int.reduceToNat, Int.reduceTDiv, Int.reduceTMod, minL, maxL, pickB, zHB, InK, Path.imp, List.length_replicate, List.length_set, List.length_append, List.length_cons, List.length_nil] at *); omega)) | (refine app_le rfl ?_; omega)))
      refine W.loop (fun z : List Int × Nat => ⟨[(4, .padr 900004 0), (6, .fn 11 [.padr 900004 0]), (9, .own 900009), (65, .lit (.int .i64 (n))), (66, .lit (.int .i64 (z.2)))], [(900004, .box1 (.st false (curveT n w))), (900009, .row 3 (.int .i64) true (z.1 : List Int))]⟩) (fun z => z.2 ≤ n ∧ ClV w n z.2 z.1) (fun z => n - z.2) ((List.replicate n (-1), 0)) ?_ ?_
      · refine ⟨⟨Nat.zero_le _, clv0⟩, ?_⟩
        refine subF.ok ?_ <;> (conv => whnf) <;> repeat' (first
 | exact trivial
 | (with_reducible rfl)
 | ((with_reducible refine And.intro ?_ ?_) <;> conv => whnf)
 | omega
 | rfl
 | (refine congrArg (SV.arr _) ?_)
 | (refine congrArg (Value.int _) ?_)
 | (refine congrArg Value.bool ?_))
      · rintro ⟨s, f⟩ ⟨hf, hcv⟩
        dsimp only at hf hcv ⊢
        have hsl : @List.length (Ty.int .i64).T s = n := hcv.va.len
        by_cases hfn : f < n
        · by_cases hsf : 0 ≤ s.getD f 0
          · repeat' (first
 | refine W.seq ?_
 | refine W.block ?_
 | (refine W.region tys_ok [] ?_; conv => whnf)
 | (refine W.drawAll tys_ok [] mixed rfl ?_; conv => whnf)
 | (refine W.ret ?_; conv => whnf)
 | (refine W.skip ?_; conv => whnf)
 | (refine W.exit ?_; conv => whnf)

    | (refine W.cond rfl (fun hb => ?_) (fun hb => ?_) <;> (try simp only [Int.reduceToNat, Int.reduceTDiv, Int.reduceTMod, minL, maxL, pickB, zHB] at hb) <;> (try (first | (cases hb; done) | exact absurd hb (by decide) | (exfalso; omega))))
    | ((with_reducible refine And.intro ?_ ?_); (focus ((repeat' (first | (with_reducible rfl) | (with_reducible refine And.intro ?_ ?_) | omega | rfl | exact Or.inl rfl | exact Or.inr rfl | exact of_decide_eq_true rfl | exact Path.imp_of (of_decide_eq_true rfl) | (focus ((try simp only [Int.reduceToNat, Int.reduceTDiv, Int.reduceTMod, minL, maxL, pickB, zHB, InK, Path.imp, List.length_replicate, List.length_set, List.length_append, List.length_cons, List.length_nil] at *); omega)) | (refine app_le rfl ?_; omega))); done)); (conv => whnf))
    | ((with_reducible refine And.intro (Side.out ?_) ?_); rotate_left; (conv => whnf))
    | (refine retF1 ?_ <;> (conv => whnf) <;> repeat' (first
 | exact trivial
 | (with_reducible rfl)
 | ((with_reducible refine And.intro ?_ ?_) <;> conv => whnf)
 | omega
 | rfl
 | (refine congrArg (SV.arr _) ?_)
 | (refine congrArg (Value.int _) ?_)
 | (refine congrArg Value.bool ?_)))
 | (refine retF2 ?_ <;> (conv => whnf) <;> repeat' (first
 | exact trivial
 | (with_reducible rfl)
 | ((with_reducible refine And.intro ?_ ?_) <;> conv => whnf)
 | omega
 | rfl
 | (refine congrArg (SV.arr _) ?_)
 | (refine congrArg (Value.int _) ?_)
 | (refine congrArg Value.bool ?_)))); all_goals (try unfold Side)
            all_goals try (repeat' (first | (with_reducible rfl) | (with_reducible refine And.intro ?_ ?_) | omega | rfl | exact Or.inl rfl | exact Or.inr rfl | exact of_decide_eq_true rfl | exact Path.imp_of (of_decide_eq_true rfl) | (focus ((try simp only [Int.reduceToNat, Int.reduceTDiv, Int.reduceTMod, minL, maxL, pickB, zHB, InK, Path.imp, List.length_replicate, List.length_set, List.length_append, List.length_cons, List.length_nil] at *); omega)) | (refine app_le rfl ?_; omega)))
            refine ⟨(s, f + 1), ⟨⟨by omega, hcv.clo, hcv.va, fun a ha => ?_⟩, by omega⟩, ?_⟩
            · by_cases e : a = f
              · subst e; exact hsf
              · exact hcv.all a (by omega)
            · refine subF.ok ?_ <;> (conv => whnf) <;> repeat' (first
 | exact trivial
 | (with_reducible rfl)
 | ((with_reducible refine And.intro ?_ ?_) <;> conv => whnf)
 | omega
 | rfl
 | (refine congrArg (SV.arr _) ?_)
 | (refine congrArg (Value.int _) ?_)
 | (refine congrArg Value.bool ?_))
          · have hini := Rd.init (n := n) (g := gD w) (e := eD w n) (s0 := s) hcv.va hfn (by omega)
            repeat' (first
 | refine W.seq ?_
 | refine W.block ?_
 | (refine W.region tys_ok [] ?_; conv => whnf)
 | (refine W.drawAll tys_ok [] mixed rfl ?_; conv => whnf)
 | (refine W.ret ?_; conv => whnf)
 | (refine W.skip ?_; conv => whnf)
 | (refine W.exit ?_; conv => whnf)

    | (refine W.cond rfl (fun hb => ?_) (fun hb => ?_) <;> (try simp only [Int.reduceToNat, Int.reduceTDiv, Int.reduceTMod, minL, maxL, pickB, zHB] at hb) <;> (try (first | (cases hb; done) | exact absurd hb (by decide) | (exfalso; omega))))
    | ((with_reducible refine And.intro ?_ ?_); (focus ((repeat' (first | (with_reducible rfl) | (with_reducible refine And.intro ?_ ?_) | omega | rfl | exact Or.inl rfl | exact Or.inr rfl | exact of_decide_eq_true rfl | exact Path.imp_of (of_decide_eq_true rfl) | (focus ((try simp only [Int.reduceToNat, Int.reduceTDiv, Int.reduceTMod, minL, maxL, pickB, zHB, InK, Path.imp, List.length_replicate, List.length_set, List.length_append, List.length_cons, List.length_nil] at *); omega)) | (refine app_le rfl ?_; omega))); done)); (conv => whnf))
    | ((with_reducible refine And.intro (Side.out ?_) ?_); rotate_left; (conv => whnf))
    | (refine retF1 ?_ <;> (conv => whnf) <;> repeat' (first
 | exact trivial
 | (with_reducible rfl)
 | ((with_reducible refine And.intro ?_ ?_) <;> conv => whnf)
 | omega
 | rfl
 | (refine congrArg (SV.arr _) ?_)
 | (refine congrArg (Value.int _) ?_)
 | (refine congrArg Value.bool ?_)))
 | (refine retF2 ?_ <;> (conv => whnf) <;> repeat' (first
 | exact trivial
 | (with_reducible rfl)
 | ((with_reducible refine And.intro ?_ ?_) <;> conv => whnf)
 | omega
 | rfl
 | (refine congrArg (SV.arr _) ?_)
 | (refine congrArg (Value.int _) ?_)
 | (refine congrArg Value.bool ?_)))); all_goals (try unfold Side)
            all_goals try (repeat' (first | (with_reducible rfl) | (with_reducible refine And.intro ?_ ?_) | omega | rfl | exact Or.inl rfl | exact Or.inr rfl | exact of_decide_eq_true rfl | exact Path.imp_of (of_decide_eq_true rfl) | (focus ((try simp only [Int.reduceToNat, Int.reduceTDiv, Int.reduceTMod, minL, maxL, pickB, zHB, InK, Path.imp, List.length_replicate, List.length_set, List.length_append, List.length_cons, List.length_nil] at *); omega)) | (refine app_le rfl ?_; omega)))
            refine W.loop (fun z : List Int × List Int × Nat => ⟨[(4, .padr 900004 0), (6, .fn 11 [.padr 900004 0]), (9, .own 900009), (65, .lit (.int .i64 (n))), (66, .lit (.int .i64 (f))), (11, .own 900011)], [(900004, .box1 (.st false (curveT n w))), (900009, .row 3 (.int .i64) true (z.1 : List Int)), (900011, .que 3 .i64 (z.2.1.drop z.2.2))]⟩) (fun z => Rd n (gD w) (eD w n) s z.1 z.2.1 z.2.2 0 ∧ 0 ≤ z.1.getD f 0) (fun z => n - z.2.2) ((s.set f 0, [(f : Int)], 0)) ?_ ?_
            · refine ⟨⟨hini, by rw [set_get (by rw [hcv.va.len]; exact hfn), if_pos rfl]; exact Int.le_refl _⟩, ?_⟩
              refine subF.ok ?_ <;> (conv => whnf) <;> repeat' (first
 | exact trivial
 | (with_reducible rfl)
 | ((with_reducible refine And.intro ?_ ?_) <;> conv => whnf)
 | omega
 | rfl
 | (refine congrArg (SV.arr _) ?_)
 | (refine congrArg (Value.int _) ?_)
 | (refine congrArg Value.bool ?_))
              all_goals exact fun e => by cases e
            · rintro ⟨s1, H, k⟩ ⟨hrd, hsf1⟩
              dsimp only at hrd hsf1 ⊢
              have hkl := hrd.kl
              have hHl := hrd.len
              have hdl : @List.length Int (H.drop k) = H.length - k := List.length_drop
              have hs1l : @List.length (Ty.int .i64).T s1 = n := hrd.va.len
              by_cases hk : k < H.length
              · obtain ⟨x, hx, hxn, hxv, hx0, hxm⟩ := hrd.at hk
                have hgx : (H.drop k).getD 0 0 = (x : Int) := by rw [← hx]; simp [List.getD]
                repeat' (first
 | refine W.seq ?_
 | refine W.block ?_
 | (refine W.region tys_ok [0, 83] ?_; conv => whnf)
 | (refine W.drawAll tys_ok [0, 83] mixed rfl ?_; conv => whnf)
 | (refine W.ret ?_; conv => whnf)
 | (refine W.skip ?_; conv => whnf)
 | (refine W.exit ?_; conv => whnf)

    | (refine W.cond rfl (fun hb => ?_) (fun hb => ?_) <;> (try simp only [Int.reduceToNat, Int.reduceTDiv, Int.reduceTMod, minL, maxL, pickB, zHB] at hb) <;> (try (first | (cases hb; done) | exact absurd hb (by decide) | (exfalso; omega))))
    | ((with_reducible refine And.intro ?_ ?_); (focus ((repeat' (first | (with_reducible rfl) | (with_reducible refine And.intro ?_ ?_) | omega | rfl | exact Or.inl rfl | exact Or.inr rfl | exact of_decide_eq_true rfl | exact Path.imp_of (of_decide_eq_true rfl) | (focus ((try simp only [Int.reduceToNat, Int.reduceTDiv, Int.reduceTMod, minL, maxL, pickB, zHB, InK, Path.imp, List.length_replicate, List.length_set, List.length_append, List.length_cons, List.length_nil] at *); omega)) | (refine app_le rfl ?_; omega))); done)); (conv => whnf))
    | ((with_reducible refine And.intro (Side.out ?_) ?_); rotate_left; (conv => whnf))
    | (refine retF1 ?_ <;> (conv => whnf) <;> repeat' (first
 | exact trivial
 | (with_reducible rfl)
 | ((with_reducible refine And.intro ?_ ?_) <;> conv => whnf)
 | omega
 | rfl
 | (refine congrArg (SV.arr _) ?_)
 | (refine congrArg (Value.int _) ?_)
 | (refine congrArg Value.bool ?_)))
 | (refine retF2 ?_ <;> (conv => whnf) <;> repeat' (first
 | exact trivial
 | (with_reducible rfl)
 | ((with_reducible refine And.intro ?_ ?_) <;> conv => whnf)
 | omega
 | rfl
 | (refine congrArg (SV.arr _) ?_)
 | (refine congrArg (Value.int _) ?_)
 | (refine congrArg Value.bool ?_)))); all_goals (try unfold Side)
                all_goals try (repeat' (first | (with_reducible rfl) | (with_reducible refine And.intro ?_ ?_) | omega | rfl | exact Or.inl rfl | exact Or.inr rfl | exact of_decide_eq_true rfl | exact Path.imp_of (of_decide_eq_true rfl) | (focus ((try simp only [Int.reduceToNat, Int.reduceTDiv, Int.reduceTMod, minL, maxL, pickB, zHB, InK, Path.imp, List.length_replicate, List.length_set, List.length_append, List.length_cons, List.length_nil] at *); omega)) | (refine app_le rfl ?_; omega)))
                refine W.loop (fun v : List Int × List Int × Nat => ⟨[(4, .padr 900004 0), (6, .fn 11 [.padr 900004 0]), (9, .own 900009), (65, .lit (.int .i64 (n))), (66, .lit (.int .i64 (f))), (11, .own 900011), (12, .lit (.int .i64 (x))), (90, .lit (.int .i64 (n))), (91, .lit (.int .i64 (v.2.2)))], [(900004, .box1 (.st false (curveT n w))), (900009, .row 3 (.int .i64) true (v.1 : List Int)), (900011, .que 3 .i64 (v.2.1.drop k))]⟩) (fun v => v.2.2 ≤ n ∧ Rd n (gD w) (eD w n) s v.1 v.2.1 k v.2.2 ∧ k < v.2.1.length ∧ v.2.1.getD k 0 = (x : Int) ∧ 0 ≤ v.1.getD f 0) (fun v => n - v.2.2) ((s1, H, 0)) ?_ ?_
                · refine ⟨⟨Nat.zero_le _, hrd, hk, hx, hsf1⟩, ?_⟩
                  refine subF.ok ?_ <;> (conv => whnf) <;> repeat' (first
 | exact trivial
 | (with_reducible rfl)
 | ((with_reducible refine And.intro ?_ ?_) <;> conv => whnf)
 | omega
 | rfl
 | (refine congrArg (SV.arr _) ?_)
 | (refine congrArg (Value.int _) ?_)
 | (refine congrArg Value.bool ?_))
                  all_goals exact hgx
                · rintro ⟨s2, H2, y⟩ ⟨hy, hr2, hk2, hx2, hsf2⟩
                  dsimp only at hy hr2 hk2 hx2 hsf2 ⊢
                  obtain ⟨x', hx', _, hxv2, _, _⟩ := hr2.at hk2
                  have hxx : x' = x := by omega
                  subst hxx
                  have hs2l : @List.length (Ty.int .i64).T s2 = n := hr2.va.len
                  have hdl2 : @List.length Int (H2.drop k) = H2.length - k := List.length_drop
                  have hH2l := hr2.len
                  by_cases hyn : y < n
                  · have hb2 := hcb x' y hxn hyn
                    have hi2 := hci x' y hxn hyn
                    have hbl := cmnK_le (w := w) (x := x') (y := y) (k := n)
                    have hw := wt_eD (w := w) (n := n) (y := y) hxv2
                    have hwv : wt (eD w n) s2 x' y = 0 ∨ wt (eD w n) s2 x' y = 1 := by
                      unfold wt; split <;> rcases hxv2 with h | h <;> omega
                    cases hi : interT w x' y with
                    | false =>
                      rw [hi] at hi2
                      repeat' (first
 | refine W.seq ?_
 | refine W.block ?_
 | (refine W.region tys_ok [] ?_; conv => whnf)
 | (refine W.drawAll tys_ok [] mixed rfl ?_; conv => whnf)
 | (refine W.ret ?_; conv => whnf)
 | (refine W.skip ?_; conv => whnf)
 | (refine W.exit ?_; conv => whnf)
 | (refine call_at (al := false) (hi2) rfl rfl rfl rfl ?_; conv => whnf)
 | (refine call_at (al := false) (hb2) rfl rfl rfl rfl ?_; conv => whnf)

    | (refine W.cond rfl (fun hb => ?_) (fun hb => ?_) <;> (try simp only [Int.reduceToNat, Int.reduceTDiv, Int.reduceTMod, minL, maxL, pickB, zHB] at hb) <;> (try (first | (cases hb; done) | exact absurd hb (by decide) | (exfalso; omega))))
    | ((with_reducible refine And.intro ?_ ?_); (focus ((repeat' (first | (with_reducible rfl) | (with_reducible refine And.intro ?_ ?_) | omega | rfl | exact Or.inl rfl | exact Or.inr rfl | exact of_decide_eq_true rfl | exact Path.imp_of (of_decide_eq_true rfl) | (focus ((try simp only [Int.reduceToNat, Int.reduceTDiv, Int.reduceTMod, minL, maxL, pickB, zHB, InK, Path.imp, List.length_replicate, List.length_set, List.length_append, List.length_cons, List.length_nil] at *); omega)) | (refine app_le rfl ?_; omega))); done)); (conv => whnf))
    | ((with_reducible refine And.intro (Side.out ?_) ?_); rotate_left; (conv => whnf))
    | (refine retF1 ?_ <;> (conv => whnf) <;> repeat' (first
 | exact trivial
 | (with_reducible rfl)
 | ((with_reducible refine And.intro ?_ ?_) <;> conv => whnf)
 | omega
 | rfl
 | (refine congrArg (SV.arr _) ?_)
 | (refine congrArg (Value.int _) ?_)
 | (refine congrArg Value.bool ?_)))
 | (refine retF2 ?_ <;> (conv => whnf) <;> repeat' (first
 | exact trivial
 | (with_reducible rfl)
 | ((with_reducible refine And.intro ?_ ?_) <;> conv => whnf)
 | omega
 | rfl
 | (refine congrArg (SV.arr _) ?_)
 | (refine congrArg (Value.int _) ?_)
 | (refine congrArg Value.bool ?_)))); all_goals (try unfold Side)
                      all_goals try (repeat' (first | (with_reducible rfl) | (with_reducible refine And.intro ?_ ?_) | omega | rfl | exact Or.inl rfl | exact Or.inr rfl | exact of_decide_eq_true rfl | exact Path.imp_of (of_decide_eq_true rfl) | (focus ((try simp only [Int.reduceToNat, Int.reduceTDiv, Int.reduceTMod, minL, maxL, pickB, zHB, InK, Path.imp, List.length_replicate, List.length_set, List.length_append, List.length_cons, List.length_nil] at *); omega)) | (refine app_le rfl ?_; omega)))
                      refine ⟨(s2, H2, y + 1), ⟨⟨hyn, hr2.skip hx2 fun h => ?_, hk2, hx2, hsf2⟩, by dsimp only; omega⟩, ?_⟩
                      · unfold gD at h; rw [hi] at h; cases h
                      · refine subF.ok ?_ <;> (conv => whnf) <;> repeat' (first
 | exact trivial
 | (with_reducible rfl)
 | ((with_reducible refine And.intro ?_ ?_) <;> conv => whnf)
 | omega
 | rfl
 | (refine congrArg (SV.arr _) ?_)
 | (refine congrArg (Value.int _) ?_)
 | (refine congrArg Value.bool ?_))
                    | true =>
                      rw [hi] at hi2
                      have hgt : gD w x' y = true := hi
                      have hyv := hr2.va.val y hyn
                      by_cases hneg : s2.getD y 0 = -1
                      · have hput := hr2.put hk2 hx2 hyn hgt (by omega)
                        have happ : H2.drop k ++ [(y : Int)] = (H2 ++ [(y : Int)]).drop k := by rw [List.drop_append_of_le_length (by omega)]
                        have hset : (s2.set y ((s2.getD x' 0 + 1 + (cmnK w x' y n : Int)).tmod 2)) = s2.set y (wt (eD w n) s2 x' y) := by rw [hw]
                        have hkh : k < (H2 ++ [(y : Int)]).length := by rw [List.length_append]; omega
                        have hxh : (H2 ++ [(y : Int)]).getD k 0 = (x' : Int) := by rw [getD_app, if_pos hk2]; exact hx2
                        have hsf3 : 0 ≤ (s2.set y (wt (eD w n) s2 x' y)).getD f 0 := by
                          rw [set_get (by rw [hr2.va.len]; exact hyn)]
                          split
                          · omega
                          · exact hsf2
                        repeat' (first
 | refine W.seq ?_
 | refine W.block ?_
 | (refine W.drawPh (id := 31) tys_ok [] mixed [0, 0, 3, 4, 8, 0, 0, 0, 224, 272, 512, 2047] [([0, 1, 2, 5, 6, 7], 3, 511), ([9, 10, 11], 0, 4095)] (by decide +kernel) ?_; conv => whnf)
 | (refine W.region tys_ok [] ?_; conv => whnf)
 | (refine W.drawAll tys_ok [] mixed rfl ?_; conv => whnf)
 | (refine W.ret ?_; conv => whnf)
 | (refine W.skip ?_; conv => whnf)
 | (refine W.exit ?_; conv => whnf)
 | (refine call_at (al := false) (hi2) rfl rfl rfl rfl ?_; conv => whnf)
 | (refine call_at (al := false) (hb2) rfl rfl rfl rfl ?_; conv => whnf)

    | (refine Both.mk ?_ ?_ <;> (conv => whnf))
    | (refine subF.leaf ?_ <;> (conv => whnf) <;> repeat' (first
 | exact trivial
 | (with_reducible rfl)
 | ((with_reducible refine And.intro ?_ ?_) <;> conv => whnf)
 | omega
 | rfl
 | (refine congrArg (SV.arr _) ?_)
 | (refine congrArg (Value.int _) ?_)
 | (refine congrArg Value.bool ?_)))
 | (refine subF.side ?_ <;> (conv => whnf) <;> repeat' (first
 | exact trivial
 | (with_reducible rfl)
 | ((with_reducible refine And.intro ?_ ?_) <;> conv => whnf)
 | omega
 | rfl
 | (refine congrArg (SV.arr _) ?_)
 | (refine congrArg (Value.int _) ?_)
 | (refine congrArg Value.bool ?_)))
 | (refine W.cond rfl (fun hb => ?_) (fun hb => ?_) <;> (try simp only [Int.reduceToNat, Int.reduceTDiv, Int.reduceTMod, minL, maxL, pickB, zHB] at hb) <;> (try (first | (cases hb; done) | exact absurd hb (by decide) | (exfalso; omega) | (exact absurd hneg hb))))
 | ((with_reducible refine And.intro ?_ ?_); (focus ((repeat' (first | (with_reducible rfl) | (with_reducible refine And.intro ?_ ?_) | omega | rfl | exact Or.inl rfl | exact Or.inr rfl | exact of_decide_eq_true rfl | exact Path.imp_of (of_decide_eq_true rfl) | (focus ((try simp only [Int.reduceToNat, Int.reduceTDiv, Int.reduceTMod, minL, maxL, pickB, zHB, InK, Path.imp, List.length_replicate, List.length_set, List.length_append, List.length_cons, List.length_nil] at *); omega)) | (refine app_le rfl ?_; omega))); done)); (conv => whnf))
 | ((with_reducible refine And.intro (Side.out ?_) ?_); rotate_left; (conv => whnf))
 | (refine retF1 ?_ <;> (conv => whnf) <;> repeat' (first
 | exact trivial
 | (with_reducible rfl)
 | ((with_reducible refine And.intro ?_ ?_) <;> conv => whnf)
 | omega
 | rfl
 | (refine congrArg (SV.arr _) ?_)
 | (refine congrArg (Value.int _) ?_)
 | (refine congrArg Value.bool ?_)))
 | (refine retF2 ?_ <;> (conv => whnf) <;> repeat' (first
 | exact trivial
 | (with_reducible rfl)
 | ((with_reducible refine And.intro ?_ ?_) <;> conv => whnf)
 | omega
 | rfl
 | (refine congrArg (SV.arr _) ?_)
 | (refine congrArg (Value.int _) ?_)
 | (refine congrArg Value.bool ?_)))); all_goals (try unfold Side)
                        all_goals try (repeat' (first | (with_reducible rfl) | (with_reducible refine And.intro ?_ ?_) | omega | rfl | exact Or.inl rfl | exact Or.inr rfl | exact of_decide_eq_true rfl | exact Path.imp_of (of_decide_eq_true rfl) | (focus ((try simp only [Int.reduceToNat, Int.reduceTDiv, Int.reduceTMod, minL, maxL, pickB, zHB, InK, Path.imp, List.length_replicate, List.length_set, List.length_append, List.length_cons, List.length_nil] at *); omega)) | (refine app_le rfl ?_; omega)))
                        all_goals (refine ⟨(s2.set y (wt (eD w n) s2 x' y), H2 ++ [(y : Int)], y + 1), ⟨⟨hyn, hput, hkh, hxh, hsf3⟩, by dsimp only; omega⟩, ?_⟩)
                        all_goals refine subF.ok ?_ <;> (conv => whnf) <;> repeat' (first
 | exact trivial
 | (with_reducible rfl)
 | ((with_reducible refine And.intro ?_ ?_) <;> conv => whnf)
 | omega
 | rfl
 | (refine congrArg (SV.arr _) ?_)
 | (refine congrArg (Value.int _) ?_)
 | (refine congrArg Value.bool ?_))
                        all_goals first | exact happ | exact hset | trace_state
                      · by_cases hwe : s2.getD y 0 = wt (eD w n) s2 x' y
                        · have hwe2 : s2.getD y 0 = (s2.getD x' 0 + 1 + (cmnK w x' y n : Int)).tmod 2 := by rw [hw]; exact hwe
                          repeat' (first
 | refine W.seq ?_
 | refine W.block ?_
 | (refine W.drawPh (id := 31) tys_ok [] mixed [0, 0, 3, 4, 8, 0, 0, 0, 224, 272, 512, 2047] [([0, 1, 2, 5, 6, 7], 3, 511), ([9, 10, 11], 0, 4095)] (by decide +kernel) ?_; conv => whnf)
 | (refine W.region tys_ok [] ?_; conv => whnf)
 | (refine W.drawAll tys_ok [] mixed rfl ?_; conv => whnf)
 | (refine W.ret ?_; conv => whnf)
 | (refine W.skip ?_; conv => whnf)
 | (refine W.exit ?_; conv => whnf)
 | (refine call_at (al := false) (hi2) rfl rfl rfl rfl ?_; conv => whnf)
 | (refine call_at (al := false) (hb2) rfl rfl rfl rfl ?_; conv => whnf)

    | (refine Both.mk ?_ ?_ <;> (conv => whnf))
    | (refine subF.leaf ?_ <;> (conv => whnf) <;> repeat' (first
 | exact trivial
 | (with_reducible rfl)
 | ((with_reducible refine And.intro ?_ ?_) <;> conv => whnf)
 | omega
 | rfl
 | (refine congrArg (SV.arr _) ?_)
 | (refine congrArg (Value.int _) ?_)
 | (refine congrArg Value.bool ?_)))
 | (refine subF.side ?_ <;> (conv => whnf) <;> repeat' (first
 | exact trivial
 | (with_reducible rfl)
 | ((with_reducible refine And.intro ?_ ?_) <;> conv => whnf)
 | omega
 | rfl
 | (refine congrArg (SV.arr _) ?_)
 | (refine congrArg (Value.int _) ?_)
 | (refine congrArg Value.bool ?_)))
 | (refine W.cond rfl (fun hb => ?_) (fun hb => ?_) <;> (try simp only [Int.reduceToNat, Int.reduceTDiv, Int.reduceTMod, minL, maxL, pickB, zHB] at hb) <;> (try (first | (cases hb; done) | exact absurd hb (by decide) | (exfalso; omega) | (exact absurd hb hneg) | (exact absurd hwe2 hb))))
 | ((with_reducible refine And.intro ?_ ?_); (focus ((repeat' (first | (with_reducible rfl) | (with_reducible refine And.intro ?_ ?_) | omega | rfl | exact Or.inl rfl | exact Or.inr rfl | exact of_decide_eq_true rfl | exact Path.imp_of (of_decide_eq_true rfl) | (focus ((try simp only [Int.reduceToNat, Int.reduceTDiv, Int.reduceTMod, minL, maxL, pickB, zHB, InK, Path.imp, List.length_replicate, List.length_set, List.length_append, List.length_cons, List.length_nil] at *); omega)) | (refine app_le rfl ?_; omega))); done)); (conv => whnf))
 | ((with_reducible refine And.intro (Side.out ?_) ?_); rotate_left; (conv => whnf))
 | (refine retF1 ?_ <;> (conv => whnf) <;> repeat' (first
 | exact trivial
 | (with_reducible rfl)
 | ((with_reducible refine And.intro ?_ ?_) <;> conv => whnf)
 | omega
 | rfl
 | (refine congrArg (SV.arr _) ?_)
 | (refine congrArg (Value.int _) ?_)
 | (refine congrArg Value.bool ?_)))
 | (refine retF2 ?_ <;> (conv => whnf) <;> repeat' (first
 | exact trivial
 | (with_reducible rfl)
 | ((with_reducible refine And.intro ?_ ?_) <;> conv => whnf)
 | omega
 | rfl
 | (refine congrArg (SV.arr _) ?_)
 | (refine congrArg (Value.int _) ?_)
 | (refine congrArg Value.bool ?_)))); all_goals (try unfold Side)
                          all_goals try (repeat' (first | (with_reducible rfl) | (with_reducible refine And.intro ?_ ?_) | omega | rfl | exact Or.inl rfl | exact Or.inr rfl | exact of_decide_eq_true rfl | exact Path.imp_of (of_decide_eq_true rfl) | (focus ((try simp only [Int.reduceToNat, Int.reduceTDiv, Int.reduceTMod, minL, maxL, pickB, zHB, InK, Path.imp, List.length_replicate, List.length_set, List.length_append, List.length_cons, List.length_nil] at *); omega)) | (refine app_le rfl ?_; omega)))
                          all_goals (refine ⟨(s2, H2, y + 1), ⟨⟨hyn, hr2.skip hx2 fun _ => ⟨by omega, hwe⟩, hk2, hx2, hsf2⟩, by dsimp only; omega⟩, ?_⟩)
                          all_goals refine subF.ok ?_ <;> (conv => whnf) <;> repeat' (first
 | exact trivial
 | (with_reducible rfl)
 | ((with_reducible refine And.intro ?_ ?_) <;> conv => whnf)
 | omega
 | rfl
 | (refine congrArg (SV.arr _) ?_)
 | (refine congrArg (Value.int _) ?_)
 | (refine congrArg Value.bool ?_))
                        · have hwe2 : ¬ s2.getD y 0 = (s2.getD x' 0 + 1 + (cmnK w x' y n : Int)).tmod 2 := by rw [hw]; exact hwe
                          have hno := no3 fun ⟨d, hd⟩ => hr2.bad (gD_symm h) hcv.clo hk2 hx2 hyn hgt (by omega) hwe d hd
                          repeat' (first
 | refine W.seq ?_
 | refine W.block ?_
 | (refine W.drawPh (id := 31) tys_ok [] mixed [0, 0, 3, 4, 8, 0, 0, 0, 224, 272, 512, 2047] [([0, 1, 2, 5, 6, 7], 3, 511), ([9, 10, 11], 0, 4095)] (by decide +kernel) ?_; conv => whnf)
 | (refine W.region tys_ok [] ?_; conv => whnf)
 | (refine W.drawAll tys_ok [] mixed rfl ?_; conv => whnf)
 | (refine W.ret ?_; conv => whnf)
 | (refine W.skip ?_; conv => whnf)
 | (refine W.exit ?_; conv => whnf)
 | (refine call_at (al := false) (hi2) rfl rfl rfl rfl ?_; conv => whnf)
 | (refine call_at (al := false) (hb2) rfl rfl rfl rfl ?_; conv => whnf)

    | (refine Both.mk ?_ ?_ <;> (conv => whnf))
    | (refine subF.leaf ?_ <;> (conv => whnf) <;> repeat' (first
 | exact trivial
 | (with_reducible rfl)
 | ((with_reducible refine And.intro ?_ ?_) <;> conv => whnf)
 | omega
 | rfl
 | (refine congrArg (SV.arr _) ?_)
 | (refine congrArg (Value.int _) ?_)
 | (refine congrArg Value.bool ?_)))
 | (refine subF.side ?_ <;> (conv => whnf) <;> repeat' (first
 | exact trivial
 | (with_reducible rfl)
 | ((with_reducible refine And.intro ?_ ?_) <;> conv => whnf)
 | omega
 | rfl
 | (refine congrArg (SV.arr _) ?_)
 | (refine congrArg (Value.int _) ?_)
 | (refine congrArg Value.bool ?_)))
 | (refine W.cond rfl (fun hb => ?_) (fun hb => ?_) <;> (try simp only [Int.reduceToNat, Int.reduceTDiv, Int.reduceTMod, minL, maxL, pickB, zHB] at hb) <;> (try (first | (cases hb; done) | exact absurd hb (by decide) | (exfalso; omega) | (exact absurd hb hneg) | (exact absurd hb hwe2))))
 | ((with_reducible refine And.intro ?_ ?_); (focus ((repeat' (first | (with_reducible rfl) | (with_reducible refine And.intro ?_ ?_) | omega | rfl | exact Or.inl rfl | exact Or.inr rfl | exact of_decide_eq_true rfl | exact Path.imp_of (of_decide_eq_true rfl) | (focus ((try simp only [Int.reduceToNat, Int.reduceTDiv, Int.reduceTMod, minL, maxL, pickB, zHB, InK, Path.imp, List.length_replicate, List.length_set, List.length_append, List.length_cons, List.length_nil] at *); omega)) | (refine app_le rfl ?_; omega))); done)); (conv => whnf))
 | ((with_reducible refine And.intro (Side.out ?_) ?_); rotate_left; (conv => whnf))
 | (refine retF1 ?_ <;> (conv => whnf) <;> repeat' (first
 | exact trivial
 | (with_reducible rfl)
 | ((with_reducible refine And.intro ?_ ?_) <;> conv => whnf)
 | omega
 | rfl
 | (refine congrArg (SV.arr _) ?_)
 | (refine congrArg (Value.int _) ?_)
 | (refine congrArg Value.bool ?_)))
 | (refine retF2 ?_ <;> (conv => whnf) <;> repeat' (first
 | exact trivial
 | (with_reducible rfl)
 | ((with_reducible refine And.intro ?_ ?_) <;> conv => whnf)
 | omega
 | rfl
 | (refine congrArg (SV.arr _) ?_)
 | (refine congrArg (Value.int _) ?_)
 | (refine congrArg Value.bool ?_)))); all_goals (try unfold Side)
                          all_goals try (repeat' (first | (with_reducible rfl) | (with_reducible refine And.intro ?_ ?_) | omega | rfl | exact Or.inl rfl | exact Or.inr rfl | exact of_decide_eq_true rfl | exact Path.imp_of (of_decide_eq_true rfl) | (focus ((try simp only [Int.reduceToNat, Int.reduceTDiv, Int.reduceTMod, minL, maxL, pickB, zHB, InK, Path.imp, List.length_replicate, List.length_set, List.length_append, List.length_cons, List.length_nil] at *); omega)) | (refine app_le rfl ?_; omega)))
                          all_goals exact hno.symm
                  · have hye : n = y := by omega
                    subst hye
                    have hnx := hr2.next hk2
                    have hdd : (H2.drop k).drop 1 = H2.drop (k + 1) := by rw [List.drop_drop]
                    repeat' (first
 | refine W.seq ?_
 | refine W.block ?_
 | (refine W.region tys_ok [0, 83] ?_; conv => whnf)
 | (refine W.drawAll tys_ok [0, 83] mixed rfl ?_; conv => whnf)
 | (refine W.ret ?_; conv => whnf)
 | (refine W.skip ?_; conv => whnf)
 | (refine W.exit ?_; conv => whnf)

    | (refine W.cond rfl (fun hb => ?_) (fun hb => ?_) <;> (try simp only [Int.reduceToNat, Int.reduceTDiv, Int.reduceTMod, minL, maxL, pickB, zHB] at hb) <;> (try (first | (cases hb; done) | exact absurd hb (by decide) | (exfalso; omega))))
    | ((with_reducible refine And.intro ?_ ?_); (focus ((repeat' (first | (with_reducible rfl) | (with_reducible refine And.intro ?_ ?_) | omega | rfl | exact Or.inl rfl | exact Or.inr rfl | exact of_decide_eq_true rfl | exact Path.imp_of (of_decide_eq_true rfl) | (focus ((try simp only [Int.reduceToNat, Int.reduceTDiv, Int.reduceTMod, minL, maxL, pickB, zHB, InK, Path.imp, List.length_replicate, List.length_set, List.length_append, List.length_cons, List.length_nil] at *); omega)) | (refine app_le rfl ?_; omega))); done)); (conv => whnf))
    | ((with_reducible refine And.intro (Side.out ?_) ?_); rotate_left; (conv => whnf))
    | (refine retF1 ?_ <;> (conv => whnf) <;> repeat' (first
 | exact trivial
 | (with_reducible rfl)
 | ((with_reducible refine And.intro ?_ ?_) <;> conv => whnf)
 | omega
 | rfl
 | (refine congrArg (SV.arr _) ?_)
 | (refine congrArg (Value.int _) ?_)
 | (refine congrArg Value.bool ?_)))
 | (refine retF2 ?_ <;> (conv => whnf) <;> repeat' (first
 | exact trivial
 | (with_reducible rfl)
 | ((with_reducible refine And.intro ?_ ?_) <;> conv => whnf)
 | omega
 | rfl
 | (refine congrArg (SV.arr _) ?_)
 | (refine congrArg (Value.int _) ?_)
 | (refine congrArg Value.bool ?_)))); all_goals (try unfold Side)
                    all_goals try (repeat' (first | (with_reducible rfl) | (with_reducible refine And.intro ?_ ?_) | omega | rfl | exact Or.inl rfl | exact Or.inr rfl | exact of_decide_eq_true rfl | exact Path.imp_of (of_decide_eq_true rfl) | (focus ((try simp only [Int.reduceToNat, Int.reduceTDiv, Int.reduceTMod, minL, maxL, pickB, zHB, InK, Path.imp, List.length_replicate, List.length_set, List.length_append, List.length_cons, List.length_nil] at *); omega)) | (refine app_le rfl ?_; omega)))
                    refine ⟨(s2, H2, k + 1), ⟨⟨hnx, hsf2⟩, by dsimp only; omega⟩, ?_⟩
                    refine subF.ok ?_ <;> (conv => whnf) <;> repeat' (first
 | exact trivial
 | (with_reducible rfl)
 | ((with_reducible refine And.intro ?_ ?_) <;> conv => whnf)
 | omega
 | rfl
 | (refine congrArg (SV.arr _) ?_)
 | (refine congrArg (Value.int _) ?_)
 | (refine congrArg Value.bool ?_))
                    all_goals exact hdd
              · have hke : k = H.length := by omega
                subst hke
                have hd := hrd.done hcv.clo
                have hdn : @List.length Int (H.drop H.length) = 0 := by simp
                repeat' (first
 | refine W.seq ?_
 | refine W.block ?_
 | (refine W.region tys_ok [] ?_; conv => whnf)
 | (refine W.drawAll tys_ok [] mixed rfl ?_; conv => whnf)
 | (refine W.ret ?_; conv => whnf)
 | (refine W.skip ?_; conv => whnf)
 | (refine W.exit ?_; conv => whnf)

    | (refine W.cond rfl (fun hb => ?_) (fun hb => ?_) <;> (try simp only [Int.reduceToNat, Int.reduceTDiv, Int.reduceTMod, minL, maxL, pickB, zHB] at hb) <;> (try (first | (cases hb; done) | exact absurd hb (by decide) | (exfalso; omega))))
    | ((with_reducible refine And.intro ?_ ?_); (focus ((repeat' (first | (with_reducible rfl) | (with_reducible refine And.intro ?_ ?_) | omega | rfl | exact Or.inl rfl | exact Or.inr rfl | exact of_decide_eq_true rfl | exact Path.imp_of (of_decide_eq_true rfl) | (focus ((try simp only [Int.reduceToNat, Int.reduceTDiv, Int.reduceTMod, minL, maxL, pickB, zHB, InK, Path.imp, List.length_replicate, List.length_set, List.length_append, List.length_cons, List.length_nil] at *); omega)) | (refine app_le rfl ?_; omega))); done)); (conv => whnf))
    | ((with_reducible refine And.intro (Side.out ?_) ?_); rotate_left; (conv => whnf))
    | (refine retF1 ?_ <;> (conv => whnf) <;> repeat' (first
 | exact trivial
 | (with_reducible rfl)
 | ((with_reducible refine And.intro ?_ ?_) <;> conv => whnf)
 | omega
 | rfl
 | (refine congrArg (SV.arr _) ?_)
 | (refine congrArg (Value.int _) ?_)
 | (refine congrArg Value.bool ?_)))
 | (refine retF2 ?_ <;> (conv => whnf) <;> repeat' (first
 | exact trivial
 | (with_reducible rfl)
 | ((with_reducible refine And.intro ?_ ?_) <;> conv => whnf)
 | omega
 | rfl
 | (refine congrArg (SV.arr _) ?_)
 | (refine congrArg (Value.int _) ?_)
 | (refine congrArg Value.bool ?_)))); all_goals (try unfold Side)
                all_goals try (repeat' (first | (with_reducible rfl) | (with_reducible refine And.intro ?_ ?_) | omega | rfl | exact Or.inl rfl | exact Or.inr rfl | exact of_decide_eq_true rfl | exact Path.imp_of (of_decide_eq_true rfl) | (focus ((try simp only [Int.reduceToNat, Int.reduceTDiv, Int.reduceTMod, minL, maxL, pickB, zHB, InK, Path.imp, List.length_replicate, List.length_set, List.length_append, List.length_cons, List.length_nil] at *); omega)) | (refine app_le rfl ?_; omega)))
                refine ⟨(s1, f + 1), ⟨⟨hfn, hd, hrd.va, fun a ha => ?_⟩, by dsimp only; omega⟩, ?_⟩
                · have ha : a < f + 1 := ha
                  by_cases e : a = f
                  · subst e; exact hsf1
                  · have := hrd.old a (by omega) (hcv.all a (by omega))
                    rw [this]; exact hcv.all a (by omega)
                · refine subF.ok ?_ <;> (conv => whnf) <;> repeat' (first
 | exact trivial
 | (with_reducible rfl)
 | ((with_reducible refine And.intro ?_ ?_) <;> conv => whnf)
 | omega
 | rfl
 | (refine congrArg (SV.arr _) ?_)
 | (refine congrArg (Value.int _) ?_)
 | (refine congrArg Value.bool ?_))
        · have hfe : n = f := by omega
          subst hfe
          have hy := yes hc1 hc2 ⟨_, hcv.clo.valid hcv.va hcv.all⟩
          repeat' (first
 | refine W.seq ?_
 | refine W.block ?_
 | (refine W.region tys_ok [] ?_; conv => whnf)
 | (refine W.drawAll tys_ok [] mixed rfl ?_; conv => whnf)
 | (refine W.ret ?_; conv => whnf)
 | (refine W.skip ?_; conv => whnf)
 | (refine W.exit ?_; conv => whnf)

    | (refine W.cond rfl (fun hb => ?_) (fun hb => ?_) <;> (try simp only [Int.reduceToNat, Int.reduceTDiv, Int.reduceTMod, minL, maxL, pickB, zHB] at hb) <;> (try (first | (cases hb; done) | exact absurd hb (by decide) | (exfalso; omega))))
    | ((with_reducible refine And.intro ?_ ?_); (focus ((repeat' (first | (with_reducible rfl) | (with_reducible refine And.intro ?_ ?_) | omega | rfl | exact Or.inl rfl | exact Or.inr rfl | exact of_decide_eq_true rfl | exact Path.imp_of (of_decide_eq_true rfl) | (focus ((try simp only [Int.reduceToNat, Int.reduceTDiv, Int.reduceTMod, minL, maxL, pickB, zHB, InK, Path.imp, List.length_replicate, List.length_set, List.length_append, List.length_cons, List.length_nil] at *); omega)) | (refine app_le rfl ?_; omega))); done)); (conv => whnf))
    | ((with_reducible refine And.intro (Side.out ?_) ?_); rotate_left; (conv => whnf))
    | (refine retF1 ?_ <;> (conv => whnf) <;> repeat' (first
 | exact trivial
 | (with_reducible rfl)
 | ((with_reducible refine And.intro ?_ ?_) <;> conv => whnf)
 | omega
 | rfl
 | (refine congrArg (SV.arr _) ?_)
 | (refine congrArg (Value.int _) ?_)
 | (refine congrArg Value.bool ?_)))
 | (refine retF2 ?_ <;> (conv => whnf) <;> repeat' (first
 | exact trivial
 | (with_reducible rfl)
 | ((with_reducible refine And.intro ?_ ?_) <;> conv => whnf)
 | omega
 | rfl
 | (refine congrArg (SV.arr _) ?_)
 | (refine congrArg (Value.int _) ?_)
 | (refine congrArg Value.bool ?_)))); all_goals (try unfold Side)
          all_goals try (repeat' (first | (with_reducible rfl) | (with_reducible refine And.intro ?_ ?_) | omega | rfl | exact Or.inl rfl | exact Or.inr rfl | exact of_decide_eq_true rfl | exact Path.imp_of (of_decide_eq_true rfl) | (focus ((try simp only [Int.reduceToNat, Int.reduceTDiv, Int.reduceTMod, minL, maxL, pickB, zHB, InK, Path.imp, List.length_replicate, List.length_set, List.length_append, List.length_cons, List.length_nil] at *); omega)) | (refine app_le rfl ?_; omega)))
          all_goals exact hy.symm
end Go.Proofs.Ytdfajcfkdfjoeab
/- The least genus of a word: the program's and the document's. No condition. -/
namespace Go.Proofs.Ytdfajcfkdfjoeab
open Go Go.Vc Go.Scr
set_option linter.unusedVariables false
set_option linter.unusedSimpArgs false

theorem sgT_signs {n k : Nat} : signsB (sgT n k) n = true := by
  rw [signsB, sgT_len, show sgnB (sgT n k) = true from sgT_all]; simp
theorem leastK_rg {n : Nat} {w : List Int} (hn : n ≤ 10) : ∀ k, -100 ≤ (leastK n w k).1 ∧ (leastK n w k).1 ≤ 100
  | 0 => by simp [leastK]
  | k + 1 => by
    rw [leastK]
    split
    · exact (genus_rg hn).2
    · exact leastK_rg hn k
theorem pow_le {n : Nat} (hn : n ≤ 10) : 1 ≤ 2 ^ n ∧ 2 ^ n ≤ 1024 := ⟨Nat.one_le_two_pow, Nat.pow_le_pow_right (by omega) hn⟩
theorem toNat_sub' {n i : Nat} (h : i < n) : ((n : Int) - 1 - i).toNat = n - 1 - i := by omega
theorem sgp {n k i N : Nat} (hN : N = 2 ^ n) (hk : k < N) (hi : i < n) (hn : n ≤ 10) : ∃ e : Int, ((((N : Int) - 1 - k) / 2 ^ ((n : Int) - 1 - i).toNat).toNat &&& Int.toNat 1 : Nat) = e ∧ 0 ≤ e ∧ e ≤ 1 ∧ e * 2 - 1 = sgAt n k i ∧
    (0 ≤ (n : Int) - 1 - i ∧ ((n : Int) - 1 - i).toNat ≤ IntKind.i64.bits) ∧ (0 ≤ ((N : Int) - 1 - k) / 2 ^ ((n : Int) - 1 - i).toNat ∧ (0 : Int) ≤ 1 ∧ InK .i64 (((N : Int) - 1 - k) / 2 ^ ((n : Int) - 1 - i).toNat) ∧ InK .i64 1) := by
  have hb := pow_le hn
  have h1 : ((n : Int) - 1 - i).toNat = n - 1 - i := by omega
  have h2 : ((N : Int) - 1 - k) / 2 ^ (n - 1 - i) = (((N - 1 - k) / 2 ^ (n - 1 - i) : Nat) : Int) := by
    rw [show (N : Int) - 1 - k = ((N - 1 - k : Nat) : Int) by omega]; norm_cast
  have h3 : (N - 1 - k) / 2 ^ (n - 1 - i) ≤ 1024 := Nat.le_trans (Nat.div_le_self _ _) (by omega)
  subst hN
  have h4 := sg_prog hk hi
  rw [h1, h2, Int.toNat_natCast]
  have h5 : ((2 ^ n - 1 - k) / 2 ^ (n - 1 - i)) &&& Int.toNat 1 ≤ 1 := by
    show _ &&& 1 ≤ 1
    rw [Nat.and_one_is_mod]; omega
  obtain ⟨Q, hQ⟩ : ∃ Q : Nat, Q = (2 ^ n - 1 - k) / 2 ^ (n - 1 - i) := ⟨_, rfl⟩
  rw [← hQ] at h3 h4 h5 ⊢
  refine ⟨_, rfl, by omega, by exact_mod_cast h5, h4, ⟨by omega, by show _ ≤ 64; omega⟩, by omega, by omega, ?_, by simp [InK]⟩
  simp only [InK]; omega
set_option maxHeartbeats 4000000 in
theorem least_at {w : List Int} {n : Nat} (h : Word w n) (hn : n ≤ 10) : FnAt Try.prog false 10 [curveT n w] (.tup [.lit (.int .i64 (leastT n w).1), .st true (.arr (.int .i64) (leastT n w).2)]) [] := by
  have hp := h.pos
  obtain ⟨N, hN⟩ : ∃ N : Nat, N = 2 ^ n := ⟨_, rfl⟩
  have hNb := pow_le hn
  rw [← hN] at hNb
  have hNi : (1 : Int) * 2 ^ (n : Int).toNat = (N : Int) := by rw [hN, Int.toNat_natCast, Int.one_mul]; norm_cast
  have hg := fun k => genus_at h hn (sgT_signs (n := n) (k := k))
  have hrg := fun k => genus_rg (w := w) (s := sgT n k) hn
  obtain ⟨L, hL⟩ : ∃ L : Nat → Int × List Int, L = leastK n w := ⟨_, rfl⟩
  have hLT : L N = leastT n w := by rw [hL, hN]; rfl
  have hL0 : L 0 = (0, []) := by rw [hL]; rfl
  have hLy : ∀ k, (L k).2 = [] ∨ genusT n w (sgT n k) < (L k).1 → L (k + 1) = (genusT n w (sgT n k), sgT n k) := by rw [hL]; exact fun k => leastK_yes
  have hLn : ∀ k, ¬ ((L k).2 = [] ∨ genusT n w (sgT n k) < (L k).1) → L (k + 1) = L k := by rw [hL]; exact fun k => leastK_no
  rw [← hLT]
  clear hL hLT
  have hsh : 0 ≤ (n : Int) ∧ (n : Int).toNat ≤ IntKind.i64.bits ∧ InK .i64 (1 * 2 ^ (n : Int).toNat) := ⟨by omega, by show _ ≤ 64; omega, by rw [hNi]; simp only [InK]; omega⟩
  refine FnAt.of_body tys_ok Try.func10 (by rfl) rfl Try.ntmps10 (by rw [Try.results10]) (by simp) ?_
  
  repeat' (first
 | refine W.seq ?_
 | refine W.block ?_
 | (refine W.region tys_ok [] ?_; conv => whnf)
 | (refine W.drawAll tys_ok [] mixed rfl ?_; conv => whnf)
 | (refine W.ret ?_; conv => whnf)
 | (refine W.skip ?_; conv => whnf)
 | (refine W.exit ?_; conv => whnf)

    | (refine W.cond rfl (fun hb => ?_) (fun hb => ?_) <;> (try simp only [Int.reduceToNat, Int.reduceTDiv, Int.reduceTMod, minL, maxL, pickB, zHB] at hb) <;> (try (first | (cases hb; done) | exact absurd hb (by decide) | (exfalso; omega))))
    | ((with_reducible refine And.intro ?_ ?_); (focus ((repeat' (first | (with_reducible rfl) | (with_reducible refine And.intro ?_ ?_) | omega | rfl | exact Or.inl rfl | exact Or.inr rfl | exact of_decide_eq_true rfl | exact Path.imp_of (of_decide_eq_true rfl) | (focus ((try simp only [Int.reduceToNat, Int.reduceTDiv, Int.reduceTMod, minL, maxL, pickB, zHB, InK, Path.imp, List.length_replicate, List.length_set, List.length_append, List.length_cons, List.length_nil] at *); omega)) | (refine app_le rfl ?_; omega))); done)); (conv => whnf))
    | ((with_reducible refine And.intro (Side.out ?_) ?_); rotate_left; (conv => whnf))
    | (refine retF1 ?_ <;> (conv => whnf) <;> repeat' (first
 | exact trivial
 | (with_reducible rfl)
 | ((with_reducible refine And.intro ?_ ?_) <;> conv => whnf)
 | omega
 | rfl
 | (refine congrArg (SV.arr _) ?_)
 | (refine congrArg (Value.int _) ?_)
 | (refine congrArg Value.bool ?_)))
 | (refine retF2 ?_ <;> (conv => whnf) <;> repeat' (first
 | exact trivial
 | (with_reducible rfl)
 | ((with_reducible refine And.intro ?_ ?_) <;> conv => whnf)
 | omega
 | rfl
 | (refine congrArg (SV.arr _) ?_)
 | (refine congrArg (Value.int _) ?_)
 | (refine congrArg Value.bool ?_)))); all_goals (try unfold Side)
  all_goals try exact Path.imp_of hsh
  all_goals try (repeat' (first | (with_reducible rfl) | (with_reducible refine And.intro ?_ ?_) | omega | rfl | exact Or.inl rfl | exact Or.inr rfl | exact of_decide_eq_true rfl | exact Path.imp_of (of_decide_eq_true rfl) | (focus ((try simp only [Int.reduceToNat, Int.reduceTDiv, Int.reduceTMod, minL, maxL, pickB, zHB, InK, Path.imp, List.length_replicate, List.length_set, List.length_append, List.length_cons, List.length_nil] at *); omega)) | (refine app_le rfl ?_; omega)))
  refine W.loop (fun k : Nat => ⟨[(0, .st false (curveT n w)), (4, .st true (.narr (.int .i64) ((L k).2 : List Int))), (5, .lit (.int .i64 ((L k).1))), (6, .lit (.int .i64 ((N : Int) - 1 - k)))], []⟩) (fun k => k ≤ N) (fun k => N - k) (0) ?_ ?_
  · refine ⟨Nat.zero_le _, ?_⟩
    refine subF.ok ?_ <;> (conv => whnf) <;> repeat' (first
 | exact trivial
 | (with_reducible rfl)
 | ((with_reducible refine And.intro ?_ ?_) <;> conv => whnf)
 | omega
 | rfl
 | (refine congrArg (SV.arr _) ?_)
 | (refine congrArg (Value.int _) ?_)
 | (refine congrArg Value.bool ?_))
    all_goals first | exact congrArg Prod.snd hL0 | exact (congrArg Prod.fst hL0).symm | (rw [hNi]; omega)
  · intro k hk
    by_cases hil : k < N
    · repeat' (first
 | refine W.seq ?_
 | refine W.block ?_
 | (refine W.region tys_ok [] ?_; conv => whnf)
 | (refine W.drawAll tys_ok [] mixed rfl ?_; conv => whnf)
 | (refine W.ret ?_; conv => whnf)
 | (refine W.skip ?_; conv => whnf)
 | (refine W.exit ?_; conv => whnf)

    | (refine W.cond rfl (fun hb => ?_) (fun hb => ?_) <;> (try simp only [Int.reduceToNat, Int.reduceTDiv, Int.reduceTMod, minL, maxL, pickB, zHB] at hb) <;> (try (first | (cases hb; done) | exact absurd hb (by decide) | (exfalso; omega))))
    | ((with_reducible refine And.intro ?_ ?_); (focus ((repeat' (first | (with_reducible rfl) | (with_reducible refine And.intro ?_ ?_) | omega | rfl | exact Or.inl rfl | exact Or.inr rfl | exact of_decide_eq_true rfl | exact Path.imp_of (of_decide_eq_true rfl) | (focus ((try simp only [Int.reduceToNat, Int.reduceTDiv, Int.reduceTMod, minL, maxL, pickB, zHB, InK, Path.imp, List.length_replicate, List.length_set, List.length_append, List.length_cons, List.length_nil] at *); omega)) | (refine app_le rfl ?_; omega))); done)); (conv => whnf))
    | ((with_reducible refine And.intro (Side.out ?_) ?_); rotate_left; (conv => whnf))
    | (refine retF1 ?_ <;> (conv => whnf) <;> repeat' (first
 | exact trivial
 | (with_reducible rfl)
 | ((with_reducible refine And.intro ?_ ?_) <;> conv => whnf)
 | omega
 | rfl
 | (refine congrArg (SV.arr _) ?_)
 | (refine congrArg (Value.int _) ?_)
 | (refine congrArg Value.bool ?_)))
 | (refine retF2 ?_ <;> (conv => whnf) <;> repeat' (first
 | exact trivial
 | (with_reducible rfl)
 | ((with_reducible refine And.intro ?_ ?_) <;> conv => whnf)
 | omega
 | rfl
 | (refine congrArg (SV.arr _) ?_)
 | (refine congrArg (Value.int _) ?_)
 | (refine congrArg Value.bool ?_)))); all_goals (try unfold Side)
      all_goals try (repeat' (first | (with_reducible rfl) | (with_reducible refine And.intro ?_ ?_) | omega | rfl | exact Or.inl rfl | exact Or.inr rfl | exact of_decide_eq_true rfl | exact Path.imp_of (of_decide_eq_true rfl) | (focus ((try simp only [Int.reduceToNat, Int.reduceTDiv, Int.reduceTMod, minL, maxL, pickB, zHB, InK, Path.imp, List.length_replicate, List.length_set, List.length_append, List.length_cons, List.length_nil] at *); omega)) | (refine app_le rfl ?_; omega)))
      refine W.loop (fun i : Nat => ⟨[(0, .st false (curveT n w)), (4, .st true (.narr (.int .i64) ((L k).2 : List Int))), (5, .lit (.int .i64 ((L k).1))), (6, .lit (.int .i64 ((N : Int) - 1 - k))), (7, .own 900007), (23, .lit (.int .i64 (n))), (24, .lit (.int .i64 (i)))], [(900007, .row 3 (.int .i64) true ((sgT n k).take i : List Int))]⟩) (fun i => i ≤ n) (fun i => n - i) (0) ?_ ?_
      · refine ⟨Nat.zero_le _, ?_⟩
        refine subF.ok ?_ <;> (conv => whnf) <;> repeat' (first
 | exact trivial
 | (with_reducible rfl)
 | ((with_reducible refine And.intro ?_ ?_) <;> conv => whnf)
 | omega
 | rfl
 | (refine congrArg (SV.arr _) ?_)
 | (refine congrArg (Value.int _) ?_)
 | (refine congrArg Value.bool ?_))
      · intro i hi
        have hsl : @List.length (Ty.int .i64).T ((sgT n k).take i) ≤ i := by
          show ((sgT n k).take i).length ≤ i
          rw [List.length_take]; omega
        by_cases hin : i < n
        · obtain ⟨e, f0, f1, f2, f3, f4, f5⟩ := sgp hN hil hin hn
          have htk' : (sgT n k).take i ++ [(((((N : Int) - 1 - k) / 2 ^ ((n : Int) - 1 - i).toNat).toNat &&& Int.toNat 1 : Nat) : Int) * 2 - 1] = (sgT n k).take (i + 1) := by rw [sgT_take hin, f0, f3]
          repeat' (first
 | refine W.seq ?_
 | refine W.block ?_
 | (refine W.region tys_ok [] ?_; conv => whnf)
 | (refine W.drawAll tys_ok [] mixed rfl ?_; conv => whnf)
 | (refine W.ret ?_; conv => whnf)
 | (refine W.skip ?_; conv => whnf)
 | (refine W.exit ?_; conv => whnf)

    | (refine W.cond rfl (fun hb => ?_) (fun hb => ?_) <;> (try simp only [Int.reduceToNat, Int.reduceTDiv, Int.reduceTMod, minL, maxL, pickB, zHB] at hb) <;> (try (first | (cases hb; done) | exact absurd hb (by decide) | (exfalso; omega))))
    | ((with_reducible refine And.intro ?_ ?_); (focus ((repeat' (first | (with_reducible rfl) | (with_reducible refine And.intro ?_ ?_) | omega | rfl | exact Or.inl rfl | exact Or.inr rfl | exact of_decide_eq_true rfl | exact Path.imp_of (of_decide_eq_true rfl) | (focus ((try simp only [Int.reduceToNat, Int.reduceTDiv, Int.reduceTMod, minL, maxL, pickB, zHB, InK, Path.imp, List.length_replicate, List.length_set, List.length_append, List.length_cons, List.length_nil] at *); omega)) | (refine app_le rfl ?_; omega))); done)); (conv => whnf))
    | ((with_reducible refine And.intro (Side.out ?_) ?_); rotate_left; (conv => whnf))
    | (refine retF1 ?_ <;> (conv => whnf) <;> repeat' (first
 | exact trivial
 | (with_reducible rfl)
 | ((with_reducible refine And.intro ?_ ?_) <;> conv => whnf)
 | omega
 | rfl
 | (refine congrArg (SV.arr _) ?_)
 | (refine congrArg (Value.int _) ?_)
 | (refine congrArg Value.bool ?_)))
 | (refine retF2 ?_ <;> (conv => whnf) <;> repeat' (first
 | exact trivial
 | (with_reducible rfl)
 | ((with_reducible refine And.intro ?_ ?_) <;> conv => whnf)
 | omega
 | rfl
 | (refine congrArg (SV.arr _) ?_)
 | (refine congrArg (Value.int _) ?_)
 | (refine congrArg Value.bool ?_)))); all_goals (try unfold Side)
          all_goals try exact Path.imp_of f4
          all_goals try exact Path.imp_of f5
          all_goals try exact app_le rfl (Nat.le_trans (Nat.succ_le_succ hsl) (by omega))
          all_goals try (rw [f0])
          all_goals try (repeat' (first | (with_reducible rfl) | (with_reducible refine And.intro ?_ ?_) | omega | rfl | exact Or.inl rfl | exact Or.inr rfl | exact of_decide_eq_true rfl | exact Path.imp_of (of_decide_eq_true rfl) | (focus ((try simp only [Int.reduceToNat, Int.reduceTDiv, Int.reduceTMod, minL, maxL, pickB, zHB, InK, Path.imp, List.length_replicate, List.length_set, List.length_append, List.length_cons, List.length_nil] at *); omega)) | (refine app_le rfl ?_; omega)))
          refine ⟨i + 1, ⟨by omega, by omega⟩, ?_⟩
          refine subF.ok ?_ <;> (conv => whnf) <;> repeat' (first
 | exact trivial
 | (with_reducible rfl)
 | ((with_reducible refine And.intro ?_ ?_) <;> conv => whnf)
 | omega
 | rfl
 | (refine congrArg (SV.arr _) ?_)
 | (refine congrArg (Value.int _) ?_)
 | (refine congrArg Value.bool ?_))
          all_goals first | exact htk' | (refine Eq.trans ?_ htk'; rw [f0]; rfl)
        · have hie : n = i := by omega
          subst hie
          have hta : (sgT n k).take n = sgT n k := List.take_of_length_le (Nat.le_of_eq sgT_len)
          have hgk := hg k
          have hne : ∀ x : List Int, x = sgT n k → x ≠ [] := fun x e h0 => by
            have := sgT_len (n := n) (k := k)
            rw [← e, h0] at this; simp at this; omega
          repeat' (first
 | refine W.seq ?_
 | refine W.block ?_
 | (refine W.resub (x := Code.region 12 _ _) (Γ' := ⟨[(0, .st false (curveT n w)), (4, .st true (.narr (.int .i64) ((L k).2 : List Int))), (5, .lit (.int .i64 ((L k).1))), (6, .lit (.int .i64 ((N : Int) - 1 - k))), (7, .st true (.arr (.int .i64) (sgT n k : List Int)))], []⟩) ?_ (W.region tys_ok [] ?_); rotate_left; (conv => whnf))
 | (refine W.region tys_ok [] ?_; conv => whnf)
 | (refine W.drawAll tys_ok [] mixed rfl ?_; conv => whnf)
 | (refine W.ret ?_; conv => whnf)
 | (refine W.skip ?_; conv => whnf)
 | (refine W.exit ?_; conv => whnf)
 | (refine call_at (al := false) (hgk) rfl rfl rfl rfl ?_; conv => whnf)

    | (refine W.cond rfl (fun hb => ?_) (fun hb => ?_) <;> (try simp only [Int.reduceToNat, Int.reduceTDiv, Int.reduceTMod, minL, maxL, pickB, zHB] at hb) <;> (try (first | (cases hb; done) | exact absurd hb (by decide) | (exfalso; omega))))
    | ((with_reducible refine And.intro ?_ ?_); (focus ((repeat' (first | (with_reducible rfl) | (with_reducible refine And.intro ?_ ?_) | omega | rfl | exact Or.inl rfl | exact Or.inr rfl | exact of_decide_eq_true rfl | exact Path.imp_of (of_decide_eq_true rfl) | (focus ((try simp only [Int.reduceToNat, Int.reduceTDiv, Int.reduceTMod, minL, maxL, pickB, zHB, InK, Path.imp, List.length_replicate, List.length_set, List.length_append, List.length_cons, List.length_nil] at *); omega)) | (refine app_le rfl ?_; omega))); done)); (conv => whnf))
    | ((with_reducible refine And.intro (Side.out ?_) ?_); rotate_left; (conv => whnf))
    | (refine retF1 ?_ <;> (conv => whnf) <;> repeat' (first
 | exact trivial
 | (with_reducible rfl)
 | ((with_reducible refine And.intro ?_ ?_) <;> conv => whnf)
 | omega
 | rfl
 | (refine congrArg (SV.arr _) ?_)
 | (refine congrArg (Value.int _) ?_)
 | (refine congrArg Value.bool ?_)))
 | (refine retF2 ?_ <;> (conv => whnf) <;> repeat' (first
 | exact trivial
 | (with_reducible rfl)
 | ((with_reducible refine And.intro ?_ ?_) <;> conv => whnf)
 | omega
 | rfl
 | (refine congrArg (SV.arr _) ?_)
 | (refine congrArg (Value.int _) ?_)
 | (refine congrArg Value.bool ?_)))); all_goals (try unfold Side)
          all_goals try (repeat' (first | (with_reducible rfl) | (with_reducible refine And.intro ?_ ?_) | omega | rfl | exact Or.inl rfl | exact Or.inr rfl | exact of_decide_eq_true rfl | exact Path.imp_of (of_decide_eq_true rfl) | (focus ((try simp only [Int.reduceToNat, Int.reduceTDiv, Int.reduceTMod, minL, maxL, pickB, zHB, InK, Path.imp, List.length_replicate, List.length_set, List.length_append, List.length_cons, List.length_nil] at *); omega)) | (refine app_le rfl ?_; omega)))
          · refine ⟨k + 1, ⟨by omega, by omega⟩, ?_⟩
            rw [hLy k (hb.imp (fun h => List.isEmpty_iff.1 h) id)]
            refine subF.ok ?_ <;> (conv => whnf) <;> repeat' (first
 | exact trivial
 | (with_reducible rfl)
 | ((with_reducible refine And.intro ?_ ?_) <;> conv => whnf)
 | omega
 | rfl
 | (refine congrArg (SV.arr _) ?_)
 | (refine congrArg (Value.int _) ?_)
 | (refine congrArg Value.bool ?_))
            all_goals exact hne _ rfl
          · refine ⟨k + 1, ⟨by omega, by omega⟩, ?_⟩
            rw [hLn k (fun h => h.elim (fun h => by rw [h] at hb; exact absurd hb.1 (by decide)) hb.2)]
            refine subF.ok ?_ <;> (conv => whnf) <;> repeat' (first
 | exact trivial
 | (with_reducible rfl)
 | ((with_reducible refine And.intro ?_ ?_) <;> conv => whnf)
 | omega
 | rfl
 | (refine congrArg (SV.arr _) ?_)
 | (refine congrArg (Value.int _) ?_)
 | (refine congrArg Value.bool ?_))
          · refine subF.ok ?_ <;> (conv => whnf) <;> repeat' (first
 | exact trivial
 | (with_reducible rfl)
 | ((with_reducible refine And.intro ?_ ?_) <;> conv => whnf)
 | omega
 | rfl
 | (refine congrArg (SV.arr _) ?_)
 | (refine congrArg (Value.int _) ?_)
 | (refine congrArg Value.bool ?_))
            all_goals exact hta
    · have hie : N = k := by omega
      subst hie
      repeat' (first
 | refine W.seq ?_
 | refine W.block ?_
 | (refine W.region tys_ok [] ?_; conv => whnf)
 | (refine W.drawAll tys_ok [] mixed rfl ?_; conv => whnf)
 | (refine W.ret ?_; conv => whnf)
 | (refine W.skip ?_; conv => whnf)
 | (refine W.exit ?_; conv => whnf)

    | (refine W.cond rfl (fun hb => ?_) (fun hb => ?_) <;> (try simp only [Int.reduceToNat, Int.reduceTDiv, Int.reduceTMod, minL, maxL, pickB, zHB] at hb) <;> (try (first | (cases hb; done) | exact absurd hb (by decide) | (exfalso; omega))))
    | ((with_reducible refine And.intro ?_ ?_); (focus ((repeat' (first | (with_reducible rfl) | (with_reducible refine And.intro ?_ ?_) | omega | rfl | exact Or.inl rfl | exact Or.inr rfl | exact of_decide_eq_true rfl | exact Path.imp_of (of_decide_eq_true rfl) | (focus ((try simp only [Int.reduceToNat, Int.reduceTDiv, Int.reduceTMod, minL, maxL, pickB, zHB, InK, Path.imp, List.length_replicate, List.length_set, List.length_append, List.length_cons, List.length_nil] at *); omega)) | (refine app_le rfl ?_; omega))); done)); (conv => whnf))
    | ((with_reducible refine And.intro (Side.out ?_) ?_); rotate_left; (conv => whnf))
    | (refine retF1 ?_ <;> (conv => whnf) <;> repeat' (first
 | exact trivial
 | (with_reducible rfl)
 | ((with_reducible refine And.intro ?_ ?_) <;> conv => whnf)
 | omega
 | rfl
 | (refine congrArg (SV.arr _) ?_)
 | (refine congrArg (Value.int _) ?_)
 | (refine congrArg Value.bool ?_)))
 | (refine retF2 ?_ <;> (conv => whnf) <;> repeat' (first
 | exact trivial
 | (with_reducible rfl)
 | ((with_reducible refine And.intro ?_ ?_) <;> conv => whnf)
 | omega
 | rfl
 | (refine congrArg (SV.arr _) ?_)
 | (refine congrArg (Value.int _) ?_)
 | (refine congrArg Value.bool ?_)))); all_goals (try unfold Side)
      all_goals try (repeat' (first | (with_reducible rfl) | (with_reducible refine And.intro ?_ ?_) | omega | rfl | exact Or.inl rfl | exact Or.inr rfl | exact of_decide_eq_true rfl | exact Path.imp_of (of_decide_eq_true rfl) | (focus ((try simp only [Int.reduceToNat, Int.reduceTDiv, Int.reduceTMod, minL, maxL, pickB, zHB, InK, Path.imp, List.length_replicate, List.length_set, List.length_append, List.length_cons, List.length_nil] at *); omega)) | (refine app_le rfl ?_; omega)))
end Go.Proofs.Ytdfajcfkdfjoeab
/- Least, Plane, Interlaced, and what lives asks. No condition. -/
namespace Go.Proofs.Ytdfajcfkdfjoeab
open Go Go.Vc Go.Scr
set_option linter.unusedVariables false
set_option linter.unusedSimpArgs false

theorem Least_ok {w : List Int} {n : Nat} (h : Word w n) (hn : n ≤ 10) : FnAt Try.prog false 15 [.arr (.int .i64) w] (.tup [.lit (.int .i64 (leastT n w).1), .st true (.arr (.int .i64) (leastT n w).2), .lit (.int .i64 0)]) [] := by
  refine FnAt.of_body tys_ok Try.func15 (by rfl) rfl Try.ntmps15 (by rw [Try.results15]) (by simp) ?_
  
  repeat' (first
 | refine W.seq ?_
 | refine W.block ?_
 | (refine W.region tys_ok [] ?_; conv => whnf)
 | (refine W.drawAll tys_ok [] mixed rfl ?_; conv => whnf)
 | (refine W.ret ?_; conv => whnf)
 | (refine W.skip ?_; conv => whnf)
 | (refine W.exit ?_; conv => whnf)
 | (refine call_at (al := true) (read_ok h hn) rfl rfl rfl rfl ?_; conv => whnf)
 | (refine call_at (al := false) (least_at h hn) rfl rfl rfl rfl ?_; conv => whnf)

    | (refine W.cond rfl (fun hb => ?_) (fun hb => ?_) <;> (try simp only [Int.reduceToNat, Int.reduceTDiv, Int.reduceTMod, minL, maxL, pickB, zHB] at hb) <;> (try (first | (cases hb; done) | exact absurd hb (by decide) | (exfalso; omega))))
    | ((with_reducible refine And.intro ?_ ?_); (focus ((repeat' (first | (with_reducible rfl) | (with_reducible refine And.intro ?_ ?_) | omega | rfl | exact Or.inl rfl | exact Or.inr rfl | exact of_decide_eq_true rfl | exact Path.imp_of (of_decide_eq_true rfl) | (focus ((try simp only [Int.reduceToNat, Int.reduceTDiv, Int.reduceTMod, minL, maxL, pickB, zHB, InK, Path.imp, List.length_replicate, List.length_set, List.length_append, List.length_cons, List.length_nil] at *); omega)) | (refine app_le rfl ?_; omega))); done)); (conv => whnf))
    | ((with_reducible refine And.intro (Side.out ?_) ?_); rotate_left; (conv => whnf))
    | (refine retF1 ?_ <;> (conv => whnf) <;> repeat' (first
 | exact trivial
 | (with_reducible rfl)
 | ((with_reducible refine And.intro ?_ ?_) <;> conv => whnf)
 | omega
 | rfl
 | (refine congrArg (SV.arr _) ?_)
 | (refine congrArg (Value.int _) ?_)
 | (refine congrArg Value.bool ?_)))
 | (refine retF2 ?_ <;> (conv => whnf) <;> repeat' (first
 | exact trivial
 | (with_reducible rfl)
 | ((with_reducible refine And.intro ?_ ?_) <;> conv => whnf)
 | omega
 | rfl
 | (refine congrArg (SV.arr _) ?_)
 | (refine congrArg (Value.int _) ?_)
 | (refine congrArg Value.bool ?_)))); all_goals (try unfold Side)
  all_goals try (repeat' (first | (with_reducible rfl) | (with_reducible refine And.intro ?_ ?_) | omega | rfl | exact Or.inl rfl | exact Or.inr rfl | exact of_decide_eq_true rfl | exact Path.imp_of (of_decide_eq_true rfl) | (focus ((try simp only [Int.reduceToNat, Int.reduceTDiv, Int.reduceTMod, minL, maxL, pickB, zHB, InK, Path.imp, List.length_replicate, List.length_set, List.length_append, List.length_cons, List.length_nil] at *); omega)) | (refine app_le rfl ?_; omega)))
theorem Least_no {w : List Int} (h : ¬ checkT w = 0) (hl : w.length ≤ 1000) : FnAt Try.prog false 15 [.arr (.int .i64) w] (.tup [.lit (.int .i64 0), .own 0, .lit (.int .i64 (checkT w))]) [(0, .row 3 (.int .i64) true [])] := by
  refine FnAt.of_body tys_ok Try.func15 (by rfl) rfl Try.ntmps15 (by rw [Try.results15]) (by simp) ?_
  
  repeat' (first
 | refine W.seq ?_
 | refine W.block ?_
 | (refine W.region tys_ok [] ?_; conv => whnf)
 | (refine W.drawAll tys_ok [] mixed rfl ?_; conv => whnf)
 | (refine W.ret ?_; conv => whnf)
 | (refine W.skip ?_; conv => whnf)
 | (refine W.exit ?_; conv => whnf)
 | (refine call_at (al := true) (read_bad h hl) rfl rfl rfl rfl ?_; conv => whnf)

    | (refine W.cond rfl (fun hb => ?_) (fun hb => ?_) <;> (try simp only [Int.reduceToNat, Int.reduceTDiv, Int.reduceTMod, minL, maxL, pickB, zHB] at hb) <;> (try (first | (cases hb; done) | exact absurd hb (by decide) | (exfalso; omega))))
    | ((with_reducible refine And.intro ?_ ?_); (focus ((repeat' (first | (with_reducible rfl) | (with_reducible refine And.intro ?_ ?_) | omega | rfl | exact Or.inl rfl | exact Or.inr rfl | exact of_decide_eq_true rfl | exact Path.imp_of (of_decide_eq_true rfl) | (focus ((try simp only [Int.reduceToNat, Int.reduceTDiv, Int.reduceTMod, minL, maxL, pickB, zHB, InK, Path.imp, List.length_replicate, List.length_set, List.length_append, List.length_cons, List.length_nil] at *); omega)) | (refine app_le rfl ?_; omega))); done)); (conv => whnf))
    | ((with_reducible refine And.intro (Side.out ?_) ?_); rotate_left; (conv => whnf))
    | (refine retF1 ?_ <;> (conv => whnf) <;> repeat' (first
 | exact trivial
 | (with_reducible rfl)
 | ((with_reducible refine And.intro ?_ ?_) <;> conv => whnf)
 | omega
 | rfl
 | (refine congrArg (SV.arr _) ?_)
 | (refine congrArg (Value.int _) ?_)
 | (refine congrArg Value.bool ?_)))
 | (refine retF2 ?_ <;> (conv => whnf) <;> repeat' (first
 | exact trivial
 | (with_reducible rfl)
 | ((with_reducible refine And.intro ?_ ?_) <;> conv => whnf)
 | omega
 | rfl
 | (refine congrArg (SV.arr _) ?_)
 | (refine congrArg (Value.int _) ?_)
 | (refine congrArg Value.bool ?_)))); all_goals (try unfold Side)
  all_goals try (repeat' (first | (with_reducible rfl) | (with_reducible refine And.intro ?_ ?_) | omega | rfl | exact Or.inl rfl | exact Or.inr rfl | exact of_decide_eq_true rfl | exact Path.imp_of (of_decide_eq_true rfl) | (focus ((try simp only [Int.reduceToNat, Int.reduceTDiv, Int.reduceTMod, minL, maxL, pickB, zHB, InK, Path.imp, List.length_replicate, List.length_set, List.length_append, List.length_cons, List.length_nil] at *); omega)) | (refine app_le rfl ?_; omega)))
theorem Plane_ok {w : List Int} {n : Nat} (h : Word w n) (hn : n ≤ 10) (hg : (leastT n w).1 = 0) : FnAt Try.prog false 5 [.arr (.int .i64) w] (.tup [.st true (.arr (.int .i64) (leastT n w).2), .lit (.int .i64 0)]) [] := by
  refine FnAt.of_body tys_ok Try.func5 (by rfl) rfl Try.ntmps5 (by rw [Try.results5]) (by simp) ?_
  
  repeat' (first
 | refine W.seq ?_
 | refine W.block ?_
 | (refine W.region tys_ok [] ?_; conv => whnf)
 | (refine W.drawAll tys_ok [] mixed rfl ?_; conv => whnf)
 | (refine W.ret ?_; conv => whnf)
 | (refine W.skip ?_; conv => whnf)
 | (refine W.exit ?_; conv => whnf)
 | (refine call_at (al := true) (read_ok h hn) rfl rfl rfl rfl ?_; conv => whnf)
 | (refine call_at (al := false) (least_at h hn) rfl rfl rfl rfl ?_; conv => whnf)

    | (refine W.cond rfl (fun hb => ?_) (fun hb => ?_) <;> (try simp only [Int.reduceToNat, Int.reduceTDiv, Int.reduceTMod, minL, maxL, pickB, zHB] at hb) <;> (try (first | (cases hb; done) | exact absurd hb (by decide) | (exfalso; omega))))
    | ((with_reducible refine And.intro ?_ ?_); (focus ((repeat' (first | (with_reducible rfl) | (with_reducible refine And.intro ?_ ?_) | omega | rfl | exact Or.inl rfl | exact Or.inr rfl | exact of_decide_eq_true rfl | exact Path.imp_of (of_decide_eq_true rfl) | (focus ((try simp only [Int.reduceToNat, Int.reduceTDiv, Int.reduceTMod, minL, maxL, pickB, zHB, InK, Path.imp, List.length_replicate, List.length_set, List.length_append, List.length_cons, List.length_nil] at *); omega)) | (refine app_le rfl ?_; omega))); done)); (conv => whnf))
    | ((with_reducible refine And.intro (Side.out ?_) ?_); rotate_left; (conv => whnf))
    | (refine retF1 ?_ <;> (conv => whnf) <;> repeat' (first
 | exact trivial
 | (with_reducible rfl)
 | ((with_reducible refine And.intro ?_ ?_) <;> conv => whnf)
 | omega
 | rfl
 | (refine congrArg (SV.arr _) ?_)
 | (refine congrArg (Value.int _) ?_)
 | (refine congrArg Value.bool ?_)))
 | (refine retF2 ?_ <;> (conv => whnf) <;> repeat' (first
 | exact trivial
 | (with_reducible rfl)
 | ((with_reducible refine And.intro ?_ ?_) <;> conv => whnf)
 | omega
 | rfl
 | (refine congrArg (SV.arr _) ?_)
 | (refine congrArg (Value.int _) ?_)
 | (refine congrArg Value.bool ?_)))); all_goals (try unfold Side)
  all_goals try (repeat' (first | (with_reducible rfl) | (with_reducible refine And.intro ?_ ?_) | omega | rfl | exact Or.inl rfl | exact Or.inr rfl | exact of_decide_eq_true rfl | exact Path.imp_of (of_decide_eq_true rfl) | (focus ((try simp only [Int.reduceToNat, Int.reduceTDiv, Int.reduceTMod, minL, maxL, pickB, zHB, InK, Path.imp, List.length_replicate, List.length_set, List.length_append, List.length_cons, List.length_nil] at *); omega)) | (refine app_le rfl ?_; omega)))
theorem Plane_none {w : List Int} {n : Nat} (h : Word w n) (hn : n ≤ 10) (hg : ¬ (leastT n w).1 = 0) : FnAt Try.prog false 5 [.arr (.int .i64) w] (.tup [.own 0, .lit (.int .i64 5)]) [(0, .row 3 (.int .i64) true [])] := by
  refine FnAt.of_body tys_ok Try.func5 (by rfl) rfl Try.ntmps5 (by rw [Try.results5]) (by simp) ?_
  
  repeat' (first
 | refine W.seq ?_
 | refine W.block ?_
 | (refine W.region tys_ok [] ?_; conv => whnf)
 | (refine W.drawAll tys_ok [] mixed rfl ?_; conv => whnf)
 | (refine W.ret ?_; conv => whnf)
 | (refine W.skip ?_; conv => whnf)
 | (refine W.exit ?_; conv => whnf)
 | (refine call_at (al := true) (read_ok h hn) rfl rfl rfl rfl ?_; conv => whnf)
 | (refine call_at (al := false) (least_at h hn) rfl rfl rfl rfl ?_; conv => whnf)

    | (refine W.cond rfl (fun hb => ?_) (fun hb => ?_) <;> (try simp only [Int.reduceToNat, Int.reduceTDiv, Int.reduceTMod, minL, maxL, pickB, zHB] at hb) <;> (try (first | (cases hb; done) | exact absurd hb (by decide) | (exfalso; omega))))
    | ((with_reducible refine And.intro ?_ ?_); (focus ((repeat' (first | (with_reducible rfl) | (with_reducible refine And.intro ?_ ?_) | omega | rfl | exact Or.inl rfl | exact Or.inr rfl | exact of_decide_eq_true rfl | exact Path.imp_of (of_decide_eq_true rfl) | (focus ((try simp only [Int.reduceToNat, Int.reduceTDiv, Int.reduceTMod, minL, maxL, pickB, zHB, InK, Path.imp, List.length_replicate, List.length_set, List.length_append, List.length_cons, List.length_nil] at *); omega)) | (refine app_le rfl ?_; omega))); done)); (conv => whnf))
    | ((with_reducible refine And.intro (Side.out ?_) ?_); rotate_left; (conv => whnf))
    | (refine retF1 ?_ <;> (conv => whnf) <;> repeat' (first
 | exact trivial
 | (with_reducible rfl)
 | ((with_reducible refine And.intro ?_ ?_) <;> conv => whnf)
 | omega
 | rfl
 | (refine congrArg (SV.arr _) ?_)
 | (refine congrArg (Value.int _) ?_)
 | (refine congrArg Value.bool ?_)))
 | (refine retF2 ?_ <;> (conv => whnf) <;> repeat' (first
 | exact trivial
 | (with_reducible rfl)
 | ((with_reducible refine And.intro ?_ ?_) <;> conv => whnf)
 | omega
 | rfl
 | (refine congrArg (SV.arr _) ?_)
 | (refine congrArg (Value.int _) ?_)
 | (refine congrArg Value.bool ?_)))); all_goals (try unfold Side)
  all_goals try (repeat' (first | (with_reducible rfl) | (with_reducible refine And.intro ?_ ?_) | omega | rfl | exact Or.inl rfl | exact Or.inr rfl | exact of_decide_eq_true rfl | exact Path.imp_of (of_decide_eq_true rfl) | (focus ((try simp only [Int.reduceToNat, Int.reduceTDiv, Int.reduceTMod, minL, maxL, pickB, zHB, InK, Path.imp, List.length_replicate, List.length_set, List.length_append, List.length_cons, List.length_nil] at *); omega)) | (refine app_le rfl ?_; omega)))
theorem Plane_no {w : List Int} (h : ¬ checkT w = 0) (hl : w.length ≤ 1000) : FnAt Try.prog false 5 [.arr (.int .i64) w] (.tup [.own 0, .lit (.int .i64 (checkT w))]) [(0, .row 3 (.int .i64) true [])] := by
  refine FnAt.of_body tys_ok Try.func5 (by rfl) rfl Try.ntmps5 (by rw [Try.results5]) (by simp) ?_
  
  repeat' (first
 | refine W.seq ?_
 | refine W.block ?_
 | (refine W.region tys_ok [] ?_; conv => whnf)
 | (refine W.drawAll tys_ok [] mixed rfl ?_; conv => whnf)
 | (refine W.ret ?_; conv => whnf)
 | (refine W.skip ?_; conv => whnf)
 | (refine W.exit ?_; conv => whnf)
 | (refine call_at (al := true) (read_bad h hl) rfl rfl rfl rfl ?_; conv => whnf)

    | (refine W.cond rfl (fun hb => ?_) (fun hb => ?_) <;> (try simp only [Int.reduceToNat, Int.reduceTDiv, Int.reduceTMod, minL, maxL, pickB, zHB] at hb) <;> (try (first | (cases hb; done) | exact absurd hb (by decide) | (exfalso; omega))))
    | ((with_reducible refine And.intro ?_ ?_); (focus ((repeat' (first | (with_reducible rfl) | (with_reducible refine And.intro ?_ ?_) | omega | rfl | exact Or.inl rfl | exact Or.inr rfl | exact of_decide_eq_true rfl | exact Path.imp_of (of_decide_eq_true rfl) | (focus ((try simp only [Int.reduceToNat, Int.reduceTDiv, Int.reduceTMod, minL, maxL, pickB, zHB, InK, Path.imp, List.length_replicate, List.length_set, List.length_append, List.length_cons, List.length_nil] at *); omega)) | (refine app_le rfl ?_; omega))); done)); (conv => whnf))
    | ((with_reducible refine And.intro (Side.out ?_) ?_); rotate_left; (conv => whnf))
    | (refine retF1 ?_ <;> (conv => whnf) <;> repeat' (first
 | exact trivial
 | (with_reducible rfl)
 | ((with_reducible refine And.intro ?_ ?_) <;> conv => whnf)
 | omega
 | rfl
 | (refine congrArg (SV.arr _) ?_)
 | (refine congrArg (Value.int _) ?_)
 | (refine congrArg Value.bool ?_)))
 | (refine retF2 ?_ <;> (conv => whnf) <;> repeat' (first
 | exact trivial
 | (with_reducible rfl)
 | ((with_reducible refine And.intro ?_ ?_) <;> conv => whnf)
 | omega
 | rfl
 | (refine congrArg (SV.arr _) ?_)
 | (refine congrArg (Value.int _) ?_)
 | (refine congrArg Value.bool ?_)))); all_goals (try unfold Side)
  all_goals try (repeat' (first | (with_reducible rfl) | (with_reducible refine And.intro ?_ ?_) | omega | rfl | exact Or.inl rfl | exact Or.inr rfl | exact of_decide_eq_true rfl | exact Path.imp_of (of_decide_eq_true rfl) | (focus ((try simp only [Int.reduceToNat, Int.reduceTDiv, Int.reduceTMod, minL, maxL, pickB, zHB, InK, Path.imp, List.length_replicate, List.length_set, List.length_append, List.length_cons, List.length_nil] at *); omega)) | (refine app_le rfl ?_; omega)))

theorem word3 : Word [0, 1, 2, 0, 1, 2] 3 := word_of rfl (by decide) (by decide)
theorem word2 : Word [0, 1, 0, 1] 2 := word_of rfl (by decide) (by decide)
theorem word1 : Word [0, 0] 1 := word_of rfl (by decide) (by decide)
theorem least3 : leastT 3 [0, 1, 2, 0, 1, 2] = (0, [1, -1, 1]) := by decide +kernel
theorem least2 : (leastT 2 [0, 1, 0, 1]).1 = 1 := by decide +kernel
theorem faces1 : (facesT (nextT [0, 0] [1]) 2).length = 3 := by decide +kernel
theorem lives_1 : FnAt Try.prog false 5 [.arr (.int .i64) ([0, 1, 2, 0, 1, 2] : List Int)] (.tup [.st true (.arr (.int .i64) ([1, -1, 1] : List Int)), .lit (.int .i64 0)]) [] := by
  have := Plane_ok word3 (by decide) (by rw [least3])
  rw [least3] at this
  exact this
theorem lives_2 : FnAt Try.prog false 5 [.arr (.int .i64) ([0, 1, 0, 1] : List Int)] (.tup [.own 0, .lit (.int .i64 5)]) [(0, .row 3 (.int .i64) true [])] :=
  Plane_none word2 (by decide) (by rw [least2]; decide)
theorem lives_3 : FnAt Try.prog false 14 [.arr (.int .i64) ([0, 0] : List Int), .arr (.int .i64) ([1] : List Int)] (.tup [.own 0, .lit (.int .i64 0)]) [(0, .row 23 (.sl (.int .i64)) true (facesT (nextT [0, 0] [1]) 2))] :=
  Faces_ok word1 (by decide) (by decide)
theorem lives_4 : ∃ s, FnAt Try.prog false 15 [.arr (.int .i64) ([0, 1, 0, 1] : List Int)] (.tup [.lit (.int .i64 1), .st true (.arr (.int .i64) s), .lit (.int .i64 0)]) [] := by
  have := Least_ok word2 (by decide)
  rw [least2] at this
  exact ⟨_, this⟩
theorem lives_at : FnAt Try.prog false 7 [] (.lit (.bool true)) [] := by
  obtain ⟨s, h4⟩ := lives_4
  have h3 := lives_3
  have hf := faces1
  obtain ⟨F, hF⟩ : ∃ F, F = facesT (nextT [0, 0] [1]) 2 := ⟨_, rfl⟩
  rw [← hF] at h3 hf
  have hf' : @List.length (Ty.sl (.int .i64)).T F = 3 := hf
  refine FnAt.of_body tys_ok Try.func7 (by rfl) rfl Try.ntmps7 (by rw [Try.results7]) (by simp) ?_
  
  repeat' (first
 | refine W.seq ?_
 | refine W.block ?_
 | (refine W.region tys_ok [] ?_; conv => whnf)
 | (refine W.drawAll tys_ok [] mixed rfl ?_; conv => whnf)
 | (refine W.ret ?_; conv => whnf)
 | (refine W.skip ?_; conv => whnf)
 | (refine W.exit ?_; conv => whnf)
 | (refine call_at (al := false) (lives_1) rfl rfl rfl rfl ?_; conv => whnf)
 | (refine call_at (al := false) (lives_2) rfl rfl rfl rfl ?_; conv => whnf)
 | (refine call_at (al := false) (h3) rfl rfl rfl rfl ?_; conv => whnf)
 | (refine call_at (al := false) (h4) rfl rfl rfl rfl ?_; conv => whnf)

    | (refine W.cond rfl (fun hb => ?_) (fun hb => ?_) <;> (try simp only [Int.reduceToNat, Int.reduceTDiv, Int.reduceTMod, minL, maxL, pickB, zHB] at hb) <;> (try (first | (cases hb; done) | exact absurd hb (by decide) | (exfalso; omega))))
    | ((with_reducible refine And.intro ?_ ?_); (focus ((repeat' (first | (with_reducible rfl) | (with_reducible refine And.intro ?_ ?_) | omega | rfl | exact Or.inl rfl | exact Or.inr rfl | exact of_decide_eq_true rfl | exact Path.imp_of (of_decide_eq_true rfl) | (focus ((try simp only [Int.reduceToNat, Int.reduceTDiv, Int.reduceTMod, minL, maxL, pickB, zHB, InK, Path.imp, List.length_replicate, List.length_set, List.length_append, List.length_cons, List.length_nil] at *); omega)) | (refine app_le rfl ?_; omega))); done)); (conv => whnf))
    | ((with_reducible refine And.intro (Side.out ?_) ?_); rotate_left; (conv => whnf))
    | (refine retF1 ?_ <;> (conv => whnf) <;> repeat' (first
 | exact trivial
 | (with_reducible rfl)
 | ((with_reducible refine And.intro ?_ ?_) <;> conv => whnf)
 | omega
 | rfl
 | (refine congrArg (SV.arr _) ?_)
 | (refine congrArg (Value.int _) ?_)
 | (refine congrArg Value.bool ?_)))
 | (refine retF2 ?_ <;> (conv => whnf) <;> repeat' (first
 | exact trivial
 | (with_reducible rfl)
 | ((with_reducible refine And.intro ?_ ?_) <;> conv => whnf)
 | omega
 | rfl
 | (refine congrArg (SV.arr _) ?_)
 | (refine congrArg (Value.int _) ?_)
 | (refine congrArg Value.bool ?_)))); all_goals (try unfold Side)
  all_goals try (repeat' (first | (with_reducible rfl) | (with_reducible refine And.intro ?_ ?_) | omega | rfl | exact Or.inl rfl | exact Or.inr rfl | exact of_decide_eq_true rfl | exact Path.imp_of (of_decide_eq_true rfl) | (focus ((try simp only [Int.reduceToNat, Int.reduceTDiv, Int.reduceTMod, minL, maxL, pickB, zHB, InK, Path.imp, List.length_replicate, List.length_set, List.length_append, List.length_cons, List.length_nil] at *); omega)) | (refine app_le rfl ?_; omega)))
end Go.Proofs.Ytdfajcfkdfjoeab
/- Words and signs made of numbers. No condition. -/
namespace Go.Proofs.Ytdfajcfkdfjoeab
open Go Go.Vc Go.Scr
set_option linter.unusedVariables false
set_option linter.unusedSimpArgs false

set_option maxHeartbeats 4000000 in
theorem put_at {w : List Int} {a : Nat} {v : Int} (ha : a ≤ w.length) (hl : w.length ≤ 100) : FnAt Try.prog false 4 [.arr (.int .i64) w, .lit (.int .i64 a), .lit (.int .i64 v)] (.own 0) [(0, .row 3 (.int .i64) true (putT w a v))] := by
  have hwl : @List.length (Ty.int .i64).T w ≤ 100 := hl
  have ha' : a ≤ @List.length (Ty.int .i64).T w := ha
  have g1 : ([] : List Int) ++ (w.take a).drop 0 ++ [v] ++ (w.take w.length).drop a = putT w a v := by
    unfold putT; simp
  have g2 : (([] : List Int) ++ (w.take a).drop 0 ++ [v]).length + ((w.take w.length).drop a).length ≤ 4294967296 := by simp; omega
  have g3 : (([] : List Int) ++ (w.take a).drop 0).length + [v].length ≤ 4294967296 := by simp; omega
  have g4 : ([] : List Int).length + ((w.take a).drop 0).length ≤ 4294967296 := by simp; omega
  refine FnAt.of_body tys_ok Try.func4 (by rfl) rfl Try.ntmps4 (by rw [Try.results4]) (by simp) ?_
  
  repeat' (first
 | refine W.seq ?_
 | refine W.block ?_
 | (refine W.drawPh (id := 1) tys_ok [] mixed [0, 0, 0, 6, 9, 0, 32, 80, 0, 0, 768, 1152, 4095] [([1, 2, 5, 8, 9], 6, 2047), ([], 1, 4095), ([12], 0, 8191)] (by decide +kernel) ?_; conv => whnf)
 | (refine W.region tys_ok [] ?_; conv => whnf)
 | (refine W.drawAll tys_ok [] mixed rfl ?_; conv => whnf)
 | (refine W.ret ?_; conv => whnf)
 | (refine W.skip ?_; conv => whnf)
 | (refine W.exit ?_; conv => whnf)

    | (refine Both.mk ?_ ?_ <;> (conv => whnf))
    | (refine subF.leaf ?_ <;> (conv => whnf) <;> repeat' (first
 | exact trivial
 | (with_reducible rfl)
 | ((with_reducible refine And.intro ?_ ?_) <;> conv => whnf)
 | omega
 | rfl
 | (refine congrArg (SV.arr _) ?_)
 | (refine congrArg (Value.int _) ?_)
 | (refine congrArg Value.bool ?_)))
 | (refine subF.side ?_ <;> (conv => whnf) <;> repeat' (first
 | exact trivial
 | (with_reducible rfl)
 | ((with_reducible refine And.intro ?_ ?_) <;> conv => whnf)
 | omega
 | rfl
 | (refine congrArg (SV.arr _) ?_)
 | (refine congrArg (Value.int _) ?_)
 | (refine congrArg Value.bool ?_)))
 | (refine W.cond rfl (fun hb => ?_) (fun hb => ?_) <;> (try simp only [Int.reduceToNat, Int.reduceTDiv, Int.reduceTMod, minL, maxL, pickB, zHB] at hb) <;> (try (first | (cases hb; done) | exact absurd hb (by decide) | (exfalso; omega))))
 | ((with_reducible refine And.intro ?_ ?_); (focus ((repeat' (first | (with_reducible rfl) | (with_reducible refine And.intro ?_ ?_) | omega | rfl | exact Or.inl rfl | exact Or.inr rfl | exact of_decide_eq_true rfl | exact Path.imp_of (of_decide_eq_true rfl) | (focus ((try simp only [Int.reduceToNat, Int.reduceTDiv, Int.reduceTMod, minL, maxL, pickB, zHB, InK, Path.imp, List.length_replicate, List.length_set, List.length_append, List.length_cons, List.length_nil] at *); omega)) | (refine app_le rfl ?_; omega))); done)); (conv => whnf))
 | ((with_reducible refine And.intro (Side.out ?_) ?_); rotate_left; (conv => whnf))
 | (refine retF1 ?_ <;> (conv => whnf) <;> repeat' (first
 | exact trivial
 | (with_reducible rfl)
 | ((with_reducible refine And.intro ?_ ?_) <;> conv => whnf)
 | omega
 | rfl
 | (refine congrArg (SV.arr _) ?_)
 | (refine congrArg (Value.int _) ?_)
 | (refine congrArg Value.bool ?_)))
 | (refine retF2 ?_ <;> (conv => whnf) <;> repeat' (first
 | exact trivial
 | (with_reducible rfl)
 | ((with_reducible refine And.intro ?_ ?_) <;> conv => whnf)
 | omega
 | rfl
 | (refine congrArg (SV.arr _) ?_)
 | (refine congrArg (Value.int _) ?_)
 | (refine congrArg Value.bool ?_)))); all_goals (try unfold Side)
  all_goals try (repeat' (first | (with_reducible rfl) | (with_reducible refine And.intro ?_ ?_) | omega | rfl | exact Or.inl rfl | exact Or.inr rfl | exact of_decide_eq_true rfl | exact Path.imp_of (of_decide_eq_true rfl) | (focus ((try simp only [Int.reduceToNat, Int.reduceTDiv, Int.reduceTMod, minL, maxL, pickB, zHB, InK, Path.imp, List.length_replicate, List.length_set, List.length_append, List.length_cons, List.length_nil] at *); omega)) | (refine app_le rfl ?_; omega)))
  all_goals first | exact g1 | exact g2 | exact g3 | exact g4
theorem sig_op {z i : Nat} (hz : z < 65536) (hi : i < 11) : ∃ e : Int, (((z : Int) / 2 ^ (i : Int).toNat).toNat &&& Int.toNat 1 : Nat) = e ∧ 0 ≤ e ∧ e ≤ 1 ∧ 1 - 2 * e = sigAt z i ∧
    (0 ≤ (i : Int) ∧ (i : Int).toNat ≤ IntKind.u16.bits) ∧ (0 ≤ (z : Int) / 2 ^ (i : Int).toNat ∧ (0 : Int) ≤ 1 ∧ InK .u16 ((z : Int) / 2 ^ (i : Int).toNat) ∧ InK .u16 1) := by
  have h2 : (z : Int) / 2 ^ i = ((z / 2 ^ i : Nat) : Int) := by norm_cast
  have h3 : z / 2 ^ i ≤ 65535 := Nat.le_trans (Nat.div_le_self _ _) (by omega)
  have h4 := bit_and (k := z) (j := i)
  have h6 := bitT_le (k := z) (j := i)
  have h7 : sigAt z i = 1 - 2 * (bitT z i : Int) := rfl
  obtain ⟨q, hq⟩ : ∃ q, q = z / 2 ^ i := ⟨_, rfl⟩
  rw [← hq] at h2 h3 h4
  rw [Int.toNat_natCast, h2, Int.toNat_natCast, show Int.toNat 1 = 1 from rfl, h4]
  refine ⟨_, rfl, by omega, by omega, h7.symm, ⟨by omega, by show _ ≤ 16; omega⟩, by omega, by omega, ?_, by simp [InK]⟩
  simp only [InK]; omega
end Go.Proofs.Ytdfajcfkdfjoeab
/- A map of steps with one more face. No condition. -/
namespace Go.Scr
set_option linter.unusedVariables false
set_option linter.unusedSimpArgs false
set_option linter.unusedSectionVars false

/-- The steps of nx', but for l, lie over those of nx: φ goes there, ψ back. -/
structure Over (nx nx' : Int → Int) (m m' : Nat) (φ ψ : Int → Int) (l : Int) : Prop where
  pn : Pn nx m
  pn' : Pn nx' m'
  lr : -(m' : Int) ≤ l ∧ l < m'
  ll : nx' l = l
  φr : ∀ x, -(m : Int) ≤ x → x < m → -(m' : Int) ≤ φ x ∧ φ x < m'
  ψr : ∀ y, -(m' : Int) ≤ y → y < m' → -(m : Int) ≤ ψ y ∧ ψ y < m
  ψφ : ∀ x, -(m : Int) ≤ x → x < m → ψ (φ x) = x ∧ φ x ≠ l
  φψ : ∀ C, Cl nx' m' C → ∀ y, -(m' : Int) ≤ y → y < m' → y ≠ l → C (φ (ψ y)) = C y
  st : ∀ y, -(m' : Int) ≤ y → y < m' → y ≠ l → ψ (nx' y) = nx (ψ y) ∨ ψ (nx' y) = ψ y
  on : ∀ x, -(m : Int) ≤ x → x < m → ∃ y, -(m' : Int) ≤ y ∧ y < m' ∧ y ≠ l ∧ ψ y = x ∧ ψ (nx' y) = nx x
theorem Over.ne {nx nx' : Int → Int} {m m' : Nat} {φ ψ : Int → Int} {l : Int} (h : Over nx nx' m m' φ ψ l) {y : Int} (h0 : -(m' : Int) ≤ y) (h1 : y < m') (hy : y ≠ l) : nx' y ≠ l := fun e =>
  hy (h.pn'.inj y l h0 h1 h.lr.1 h.lr.2 (e.trans h.ll.symm))
theorem Over.down {nx nx' : Int → Int} {m m' : Nat} {φ ψ : Int → Int} {l : Int} (h : Over nx nx' m m' φ ψ l) {C : Int → Bool} (hC : Cl nx' m' C) : Cl nx m fun x => C (φ x) := fun x h0 h1 => by
  obtain ⟨y, y0, y1, yl, e1, e2⟩ := h.on x h0 h1
  have r := h.pn'.rg y y0 y1
  have k1 := h.φψ C hC y y0 y1 yl
  have k2 := h.φψ C hC (nx' y) r.1 r.2 (h.ne y0 y1 yl)
  rw [e1] at k1
  rw [e2] at k2
  show C (φ x) = C (φ (nx x))
  rw [k1, k2]; exact hC y y0 y1
theorem Over.up {nx nx' : Int → Int} {m m' : Nat} {φ ψ : Int → Int} {l : Int} (h : Over nx nx' m m' φ ψ l) {D : Int → Bool} (hD : Cl nx m D) (c : Bool) : Cl nx' m' fun y => if y = l then c else D (ψ y) := fun y h0 h1 => by
  show (if y = l then c else D (ψ y)) = if nx' y = l then c else D (ψ (nx' y))
  by_cases e : y = l
  · subst e; rw [h.ll, if_pos rfl]
  · rw [if_neg e, if_neg (h.ne h0 h1 e)]
    rcases h.st y h0 h1 e with k | k
    · have := h.ψr y h0 h1
      rw [k]; exact hD _ this.1 this.2
    · rw [k]
theorem filter_len {p : Int → Bool} : ∀ {l : List Int}, (l.filter p).length + (l.filter fun x => !p x).length = l.length
  | [] => rfl
  | x :: l => by
    have := filter_len (p := p) (l := l)
    cases h : p x <;> simp [h] <;> omega
theorem Over.faces {nx nx' : Int → Int} {m m' : Nat} {φ ψ : Int → Int} {l : Int} (h : Over nx nx' m m' φ ψ l) : (facesT nx' m').length = (facesT nx m).length + 1 := by
  have H := facesT_FK h.pn
  have H' := facesT_FK h.pn'
  have hin : ∀ f ∈ facesT nx m, -(m : Int) ≤ f.getD 0 0 ∧ f.getD 0 0 < m := fun f hf => H.rg _ (List.mem_flatten.2 ⟨f, hf, (H.fac f hf).head⟩)
  have hin' : ∀ f ∈ facesT nx' m', -(m' : Int) ≤ f.getD 0 0 ∧ f.getD 0 0 < m' := fun f hf => H'.rg _ (List.mem_flatten.2 ⟨f, hf, (H'.fac f hf).head⟩)
  refine Nat.le_antisymm ?_ ?_
  · -- the heads of the faces over, but for l, lie over steps that are kept apart
    obtain ⟨L, hL⟩ : ∃ L, L = (facesT nx' m').map fun f => f.getD 0 0 := ⟨_, rfl⟩
    have hLl : L.length = (facesT nx' m').length := by rw [hL, List.length_map]
    have hLr : ∀ y ∈ L, -(m' : Int) ≤ y ∧ y < m' := fun y hy => by
      rw [hL] at hy
      obtain ⟨f, hf, rfl⟩ := List.mem_map.1 hy
      exact hin' f hf
    have hLs : L.Pairwise fun a b => ∃ C, Cl nx' m' C ∧ C a ≠ C b := by rw [hL]; exact heads_sep h.pn'
    have hLn : L.Nodup := by
      rw [hL, List.nodup_iff_pairwise_ne]
      exact List.Pairwise.imp (fun hab => by omega) H'.inc
    have hf : L.length ≤ (L.filter fun y => !decide (y = l)).length + 1 := by
      have e1 := filter_len (p := fun y => !decide (y = l)) (l := L)
      have e2 : (L.filter fun y => !(!decide (y = l))).length ≤ 1 := by
        have := nodup_sub (l := L.filter fun y => !(!decide (y = l))) (l' := [l]) (hLn.filter _) fun x hx => by
          rw [List.mem_filter] at hx
          simpa using hx.2
        simpa using this
      omega
    have hs := sep_le h.pn (xs := (L.filter fun y => !decide (y = l)).map ψ) (fun x hx => by
      obtain ⟨y, hy, rfl⟩ := List.mem_map.1 hx
      have := hLr y (List.mem_filter.1 hy).1
      exact h.ψr y this.1 this.2) (by
      rw [List.pairwise_map]
      refine List.Pairwise.imp_of_mem (fun {a b} ha hb hab => ?_) (hLs.filter _)
      rw [List.mem_filter] at ha hb
      obtain ⟨C, hC, hne⟩ := hab
      have ra := hLr a ha.1
      have rb := hLr b hb.1
      refine ⟨fun x => C (φ x), h.down hC, ?_⟩
      show C (φ (ψ a)) ≠ C (φ (ψ b))
      rw [h.φψ C hC a ra.1 ra.2 (by simpa using ha.2), h.φψ C hC b rb.1 rb.2 (by simpa using hb.2)]
      exact hne)
    rw [List.length_map] at hs
    omega
  · have hs := sep_le h.pn' (xs := l :: ((facesT nx m).map fun f => f.getD 0 0).map φ) (fun x hx => by
      rcases List.mem_cons.1 hx with rfl | hx
      · exact h.lr
      · obtain ⟨y, hy, rfl⟩ := List.mem_map.1 hx
        obtain ⟨f, hf, rfl⟩ := List.mem_map.1 hy
        exact h.φr _ (hin f hf).1 (hin f hf).2) (by
      rw [List.pairwise_cons]
      refine ⟨fun x hx => ?_, ?_⟩
      · obtain ⟨y, hy, rfl⟩ := List.mem_map.1 hx
        obtain ⟨f, hf, rfl⟩ := List.mem_map.1 hy
        have := h.ψφ _ (hin f hf).1 (hin f hf).2
        refine ⟨_, h.up (D := fun _ => false) (fun _ _ _ => rfl) true, ?_⟩
        show (if l = l then true else false) ≠ if φ (f.getD 0 0) = l then true else false
        rw [if_pos rfl, if_neg this.2]; simp
      · rw [List.pairwise_map]
        refine List.Pairwise.imp_of_mem (fun {a b} ha hb hab => ?_) (heads_sep h.pn)
        obtain ⟨f, hf, rfl⟩ := List.mem_map.1 ha
        obtain ⟨f', hf', rfl⟩ := List.mem_map.1 hb
        obtain ⟨D, hD, hne⟩ := hab
        have k1 := h.ψφ _ (hin f hf).1 (hin f hf).2
        have k2 := h.ψφ _ (hin f' hf').1 (hin f' hf').2
        refine ⟨_, h.up hD true, ?_⟩
        show (if φ (f.getD 0 0) = l then true else D (ψ (φ (f.getD 0 0)))) ≠ if φ (f'.getD 0 0) = l then true else D (ψ (φ (f'.getD 0 0)))
        rw [if_neg k1.2, if_neg k2.2, k1.1, k2.1]; exact hne)
    simpa using hs
end Go.Scr
/- A kink: a new letter twice, side by side. No condition. -/
namespace Go.Scr
set_option linter.unusedVariables false
set_option linter.unusedSimpArgs false
set_option linter.unusedSectionVars false

def kinkT (w : List Int) (n k : Nat) : List Int := putT (putT w k n) k n
theorem kink_len {w : List Int} {n k : Nat} : (kinkT w n k).length = w.length + 2 := by rw [kinkT, putT_len, putT_len]
theorem kink_word {w : List Int} {n k : Nat} (h : Word w n) : Word (kinkT w n k) (n + 1) := word_put h
theorem kink_get {w : List Int} {n k i : Nat} (hk : k ≤ w.length) : (kinkT w n k).getD i 0 = if i < k then w.getD i 0 else if i < k + 2 then (n : Int) else w.getD (i - 2) 0 := by
  rw [kinkT, putT_get (by rw [putT_len]; omega), putT_get hk]
  by_cases h1 : i < k
  · rw [if_pos h1, if_pos h1, if_pos h1]
  · rw [if_neg h1, if_neg h1]
    by_cases h2 : i = k
    · subst h2; rw [if_pos rfl, if_pos (by omega)]
    · rw [if_neg h2, putT_get hk]
      by_cases h3 : i - 1 = k
      · rw [if_neg (by omega), if_pos h3, if_pos (by omega)]
      · rw [if_neg (by omega), if_neg h3, if_neg (by omega), show i - 1 - 1 = i - 2 by omega]
def piN (k a : Nat) : Nat := if a < k then a else a + 2
def psN (n k b : Nat) : Nat := if b < k then b else if b < k + 2 then bf n k else b - 2
def phS (k : Nat) (st : Int) : Int := if 0 ≤ st then (piN k st.toNat : Nat) else -1 - (piN k (-1 - st).toNat : Nat)
def psS (n k : Nat) (st : Int) : Int := if st = k then -1 - (bf n k : Nat) else if st = -1 - (k : Int) then (bf n k : Nat) else if 0 ≤ st then (psN n k st.toNat : Nat) else -1 - (psN n k (-1 - st).toNat : Nat)
theorem psS_f {n k b : Nat} (h : b ≠ k) : psS n k (b : Int) = (psN n k b : Nat) := by
  unfold psS; rw [if_neg (by omega), if_neg (by omega), if_pos (by omega), Int.toNat_natCast]
theorem psS_b {n k b : Nat} (h : b ≠ k) : psS n k (-1 - (b : Int)) = -1 - (psN n k b : Nat) := by
  unfold psS; rw [if_neg (by omega), if_neg (by omega), if_neg (by omega), show -1 - (-1 - (b : Int)) = b by omega, Int.toNat_natCast]
theorem phS_f {k b : Nat} : phS k (b : Int) = (piN k b : Nat) := by
  unfold phS; rw [if_pos (by omega), Int.toNat_natCast]
theorem phS_b {k b : Nat} : phS k (-1 - (b : Int)) = -1 - (piN k b : Nat) := by
  unfold phS; rw [if_neg (by omega), show -1 - (-1 - (b : Int)) = b by omega, Int.toNat_natCast]
theorem ps_pi {n k a : Nat} : psN n k (piN k a) = a ∧ piN k a ≠ k ∧ piN k a ≠ k + 1 := by
  unfold psN piN; split <;> refine ⟨?_, by omega, by omega⟩
  · rfl
  · rw [if_neg (by omega), if_neg (by omega)]; omega
theorem pi_bf {n k : Nat} (hn : 1 ≤ n) (hk : k ≤ 2 * n) : piN k (bf n k) = bf (n + 1) k ∧ bf (n + 1) k ≠ k ∧ psN n k (bf (n + 1) k) = bf n k := by
  have h1 : piN k (bf n k) = bf (n + 1) k := by
    unfold bf
    by_cases h0 : k = 0
    · rw [if_pos h0, if_pos h0]; unfold piN; rw [if_neg (by omega)]; omega
    · rw [if_neg h0, if_neg h0]; unfold piN; rw [if_pos (by omega)]
  exact ⟨h1, by unfold bf; split <;> omega, by rw [← h1]; exact ps_pi.1⟩
theorem ps_bf {n k p : Nat} (hn : 1 ≤ n) (hk : k ≤ 2 * n) (hp : p < 2 * n) : psN n k (bf (n + 1) (piN k p)) = bf n p ∧ bf (n + 1) (piN k p) ≠ k := by
  unfold piN
  by_cases h1 : p < k
  · rw [if_pos h1]
    by_cases h0 : p = 0
    · subst h0
      have e : bf (n + 1) 0 = 2 * n + 1 := by unfold bf; rw [if_pos rfl]; omega
      have e2 : bf n 0 = 2 * n - 1 := by unfold bf; rw [if_pos rfl]
      rw [e, e2]
      refine ⟨?_, by omega⟩
      unfold psN
      rw [if_neg (by omega)]
      by_cases h2 : 2 * n + 1 < k + 2
      · rw [if_pos h2]; unfold bf; rw [if_neg (by omega)]; omega
      · rw [if_neg h2]; omega
    · have e : bf (n + 1) p = p - 1 := by unfold bf; rw [if_neg h0]
      have e2 : bf n p = p - 1 := by unfold bf; rw [if_neg h0]
      rw [e, e2]
      exact ⟨by unfold psN; rw [if_pos (by omega)], by omega⟩
  · rw [if_neg h1]
    have e : bf (n + 1) (p + 2) = p + 1 := by unfold bf; rw [if_neg (by omega)]; rfl
    rw [e]
    refine ⟨?_, by omega⟩
    unfold psN
    rw [if_neg (by omega)]
    by_cases h2 : p + 1 < k + 2
    · rw [if_pos h2]
      have : p = k := by omega
      rw [this]
    · rw [if_neg h2]; unfold bf; rw [if_neg (by omega)]; omega
/-- The steps at the kink. -/
theorem kink_loop {w s' : List Int} {n k : Nat} (h : Word w n) (hk : k ≤ 2 * n) (hs' : s'.all (fun x => decide (x = 1) || decide (x = -1)) = true) (hl' : s'.length = n + 1) : s'.getD n 0 = 1 ∧ nextT (kinkT w n k) s' (bf (n + 1) k : Nat) = -1 - (k : Int) ∧ nextT (kinkT w n k) s' (-1 - (k : Int)) = ((k + 1 : Nat) : Int) ∧ nextT (kinkT w n k) s' (k : Int) = k ∧ nextT (kinkT w n k) s' (-1 - ((k + 1 : Nat) : Int)) = -1 - (bf (n + 1) k : Nat) ∨
    s'.getD n 0 = -1 ∧ nextT (kinkT w n k) s' (bf (n + 1) k : Nat) = ((k + 1 : Nat) : Int) ∧ nextT (kinkT w n k) s' (-1 - (k : Int)) = -1 - (k : Int) ∧ nextT (kinkT w n k) s' (k : Int) = -1 - (bf (n + 1) k : Nat) ∧ nextT (kinkT w n k) s' (-1 - ((k + 1 : Nat) : Int)) = k := by
  have hwl := h.len
  have hW := kink_word (k := k) h
  obtain ⟨P', Q', D⟩ := cr_of hW hs' hl' (x := n) (by omega)
  have a1 := D.all k (by omega) (by rw [kink_get (by omega), if_neg (by omega), if_pos (by omega)])
  have a2 := D.all (k + 1) (by omega) (by rw [kink_get (by omega), if_neg (by omega), if_pos (by omega)])
  have hD := D.pq
  have eP : P' = k := by omega
  have eQ : Q' = k + 1 := by omega
  have hDn := D.nx
  have hb : bf (n + 1) (k + 1) = k := by unfold bf; rw [if_neg (by omega)]; rfl
  rw [eP, eQ, hb] at hDn
  exact hDn
section
variable {w s s' : List Int} {n k : Nat} (h : Word w n) (hk : k ≤ 2 * n) (hs : s.all (fun x => decide (x = 1) || decide (x = -1)) = true) (hl : s.length = n)
  (hs' : s'.all (fun x => decide (x = 1) || decide (x = -1)) = true) (hl' : s'.length = n + 1) (he : ∀ v, v < n → s'.getD v 0 = s.getD v 0)
include h hk hs hl hs' hl' he
/-- At the other crossings all is as before. -/
theorem kink_at {p : Nat} (hp : p < 2 * n) : psS n k (bf (n + 1) (piN k p) : Nat) = (bf n p : Nat) ∧ psS n k (nextT (kinkT w n k) s' (bf (n + 1) (piN k p) : Nat)) = nextT w s (bf n p : Nat) ∧
    psS n k (-1 - (piN k p : Nat)) = -1 - (p : Int) ∧ psS n k (nextT (kinkT w n k) s' (-1 - (piN k p : Nat))) = nextT w s (-1 - (p : Int)) := by
  have hpos := h.pos
  have hwl := h.len
  have hW := kink_word (k := k) h
  obtain ⟨x, hx, hwx⟩ : ∃ x : Nat, x < n ∧ w.getD p 0 = x := by
    have := h.rg p hp
    exact ⟨(w.getD p 0).toNat, by omega, by omega⟩
  obtain ⟨P, Q, C⟩ := cr_of h hs hl hx
  obtain ⟨P', Q', D⟩ := cr_of hW hs' hl' (x := x) (by omega)
  have hget : ∀ i, i < 2 * n → (kinkT w n k).getD (piN k i) 0 = w.getD i 0 := fun i hi => by
    rw [kink_get (by omega)]
    unfold piN
    split
    · rfl
    · rename_i h1; rw [if_neg (by omega), if_neg (by omega)]; rfl
  have hpil : ∀ i, i < 2 * n → piN k i < 2 * (n + 1) := fun i hi => by unfold piN; split <;> omega
  have hpim : ∀ i j, i < j → piN k i < piN k j := fun i j hij => by unfold piN; split <;> split <;> omega
  have hPQ := C.pq
  have hQl := C.hq
  have a1 := D.all (piN k P) (hpil P (by omega)) (by rw [hget P (by omega)]; exact C.wp)
  have a2 := D.all (piN k Q) (hpil Q hQl) (by rw [hget Q hQl]; exact C.wq)
  have a3 := hpim P Q hPQ
  have hD := D.pq
  have eP : P' = piN k P := by omega
  have eQ : Q' = piN k Q := by omega
  have hDn := D.nx
  rw [eP, eQ, he x hx] at hDn
  have hCn := C.nx
  have bP := ps_bf (k := k) hpos hk (show P < 2 * n by omega)
  have bQ := ps_bf (k := k) hpos hk hQl
  have iP := ps_pi (n := n) (k := k) (a := P)
  have iQ := ps_pi (n := n) (k := k) (a := Q)
  have g1 := psS_f (n := n) bP.2; have g2 := psS_f (n := n) bQ.2; have g3 := psS_b (n := n) bP.2; have g4 := psS_b (n := n) bQ.2
  have g5 := psS_f (n := n) iP.2.1; have g6 := psS_f (n := n) iQ.2.1; have g7 := psS_b (n := n) iP.2.1; have g8 := psS_b (n := n) iQ.2.1
  rw [bP.1] at g1 g3
  rw [bQ.1] at g2 g4
  rw [iP.1] at g5 g7
  rw [iQ.1] at g6 g8
  rcases C.all p hp hwx with rfl | rfl
  · refine ⟨g1, ?_, g7, ?_⟩
    · rcases hCn with ⟨e, c1, c2, c3, c4⟩ | ⟨e, c1, c2, c3, c4⟩
      · rcases hDn with ⟨_, d1, d2, d3, d4⟩ | ⟨e', _⟩
        · rw [c1, d1, g4]
        · rw [e] at e'; cases e'
      · rcases hDn with ⟨e', _⟩ | ⟨_, d1, d2, d3, d4⟩
        · rw [e] at e'; cases e'
        · rw [c1, d1, g6]
    · rcases hCn with ⟨e, c1, c2, c3, c4⟩ | ⟨e, c1, c2, c3, c4⟩
      · rcases hDn with ⟨_, d1, d2, d3, d4⟩ | ⟨e', _⟩
        · rw [c2, d2, g6]
        · rw [e] at e'; cases e'
      · rcases hDn with ⟨e', _⟩ | ⟨_, d1, d2, d3, d4⟩
        · rw [e] at e'; cases e'
        · rw [c2, d2, g4]
  · refine ⟨g2, ?_, g8, ?_⟩
    · rcases hCn with ⟨e, c1, c2, c3, c4⟩ | ⟨e, c1, c2, c3, c4⟩
      · rcases hDn with ⟨_, d1, d2, d3, d4⟩ | ⟨e', _⟩
        · rw [c3, d3, g5]
        · rw [e] at e'; cases e'
      · rcases hDn with ⟨e', _⟩ | ⟨_, d1, d2, d3, d4⟩
        · rw [e] at e'; cases e'
        · rw [c3, d3, g3]
    · rcases hCn with ⟨e, c1, c2, c3, c4⟩ | ⟨e, c1, c2, c3, c4⟩
      · rcases hDn with ⟨_, d1, d2, d3, d4⟩ | ⟨e', _⟩
        · rw [c4, d4, g3]
        · rw [e] at e'; cases e'
      · rcases hDn with ⟨e', _⟩ | ⟨_, d1, d2, d3, d4⟩
        · rw [e] at e'; cases e'
        · rw [c4, d4, g5]
theorem kink_over : Over (nextT w s) (nextT (kinkT w n k) s') (2 * n) (2 * (n + 1)) (phS k) (psS n k) (if s'.getD n 0 = 1 then (k : Int) else -1 - (k : Int)) := by
  have hpos := h.pos
  have hW := kink_word (k := k) h
  have hat := fun p (hp : p < 2 * n) => kink_at h hk hs hl hs' hl' he hp
  have hlp := kink_loop h hk hs' hl'
  have pn' := next_pn hW hs' hl'
  obtain ⟨nx, hnx⟩ : ∃ nx, nx = nextT (kinkT w n k) s' := ⟨_, rfl⟩
  rw [← hnx] at hat hlp pn' ⊢
  clear hnx
  obtain ⟨b1, b2, b3⟩ := pi_bf (k := k) hpos hk
  have hbl : bf n k < 2 * n := by unfold bf; split <;> omega
  have hbl' := bf_lt (n := n + 1) (a := k) (by omega)
  obtain ⟨a, ha⟩ : ∃ a, a = bf (n + 1) k := ⟨_, rfl⟩
  obtain ⟨sp, hsp⟩ : ∃ sp, sp = bf n k := ⟨_, rfl⟩
  rw [← ha] at hlp b1 b2 b3 hbl'
  rw [← hsp] at b1 b3 hbl
  have pk : psS n k (k : Int) = -1 - (sp : Int) := by unfold psS; rw [if_pos rfl, hsp]
  have pk' : psS n k (-1 - (k : Int)) = sp := by unfold psS; rw [if_neg (by omega), if_pos rfl, hsp]
  have pk1 : psS n k ((k + 1 : Nat) : Int) = sp := by rw [psS_f (by omega)]; unfold psN; rw [if_neg (by omega), if_pos (by omega), hsp]
  have pk1' : psS n k (-1 - ((k + 1 : Nat) : Int)) = -1 - (sp : Int) := by rw [psS_b (by omega)]; unfold psN; rw [if_neg (by omega), if_pos (by omega), hsp]
  have pa : psS n k (a : Int) = sp := by rw [psS_f b2, b3]
  have pa' : psS n k (-1 - (a : Int)) = -1 - (sp : Int) := by rw [psS_b b2, b3]
  have fs : phS k (sp : Int) = a := by rw [phS_f, b1]
  have fs' : phS k (-1 - (sp : Int)) = -1 - (a : Int) := by rw [phS_b, b1]
  -- a step ends at the kink, or at another position
  have cas : ∀ y, -((2 * (n + 1) : Nat) : Int) ≤ y → y < (2 * (n + 1) : Nat) → y = a ∨ y = -1 - (k : Int) ∨ y = k ∨ y = -1 - ((k + 1 : Nat) : Int) ∨ ∃ p, p < 2 * n ∧ (y = (bf (n + 1) (piN k p) : Nat) ∨ y = -1 - (piN k p : Nat)) := fun y h0 h1 => by
    obtain ⟨q0, q1⟩ := atT_lt (m := 2 * (n + 1)) (st := y) (by omega) h0 h1
    obtain ⟨q, hq⟩ : ∃ q : Nat, atT (2 * (n + 1)) y = q := ⟨(atT (2 * (n + 1)) y).toNat, by omega⟩
    have hql : q < 2 * (n + 1) := by omega
    have hc := at_cases hql h0 h1 hq
    by_cases e1 : q = k
    · subst e1; rw [← ha] at hc; rcases hc with hc | hc
      · exact .inl hc
      · exact .inr (.inl hc)
    · by_cases e2 : q = k + 1
      · subst e2
        have hb : bf (n + 1) (k + 1) = k := by unfold bf; rw [if_neg (by omega)]; rfl
        rw [hb] at hc
        rcases hc with hc | hc
        · exact .inr (.inr (.inl hc))
        · exact .inr (.inr (.inr (.inl hc)))
      · refine .inr (.inr (.inr (.inr ⟨if q < k then q else q - 2, by split <;> omega, ?_⟩)))
        have : piN k (if q < k then q else q - 2) = q := by
          unfold piN
          by_cases h3 : q < k
          · rw [if_pos h3, if_pos h3]
          · rw [if_neg h3, if_neg (by omega)]; omega
        rw [this]; exact hc
  have hpil : ∀ i, i < 2 * n → piN k i < 2 * (n + 1) := fun i hi => by unfold piN; split <;> omega
  have ψr : ∀ y, -((2 * (n + 1) : Nat) : Int) ≤ y → y < (2 * (n + 1) : Nat) → -((2 * n : Nat) : Int) ≤ psS n k y ∧ psS n k y < (2 * n : Nat) := fun y h0 h1 => by
    rcases cas y h0 h1 with e | e | e | e | ⟨p, hp, e | e⟩
    · rw [e, pa]; omega
    · rw [e, pk']; omega
    · rw [e, pk]; omega
    · rw [e, pk1']; omega
    · rw [e, (hat p hp).1]; have := bf_lt hp; omega
    · rw [e, (hat p hp).2.2.1]; omega
  have ψφ : ∀ x, -((2 * n : Nat) : Int) ≤ x → x < (2 * n : Nat) → psS n k (phS k x) = x ∧ phS k x ≠ k ∧ phS k x ≠ -1 - (k : Int) := fun x h0 h1 => by
    by_cases hx : 0 ≤ x
    · obtain ⟨b, rfl⟩ : ∃ b : Nat, x = b := ⟨x.toNat, by omega⟩
      have := ps_pi (n := n) (k := k) (a := b)
      rw [phS_f, psS_f this.2.1, this.1]
      exact ⟨rfl, by omega, by omega⟩
    · obtain ⟨b, rfl⟩ : ∃ b : Nat, x = -1 - (b : Int) := ⟨(-1 - x).toNat, by omega⟩
      have := ps_pi (n := n) (k := k) (a := b)
      rw [phS_b, psS_b this.2.1, this.1]
      exact ⟨rfl, by omega, by omega⟩
  have ra : -((2 * (n + 1) : Nat) : Int) ≤ (a : Int) ∧ (a : Int) < (2 * (n + 1) : Nat) := by omega
  have φψ' : ∀ C, Cl nx (2 * (n + 1)) C → ∀ y, -((2 * (n + 1) : Nat) : Int) ≤ y → y < (2 * (n + 1) : Nat) → y ≠ (if s'.getD n 0 = 1 then (k : Int) else -1 - (k : Int)) → C (phS k (psS n k y)) = C y := fun C hC y h0 h1 hy => by
    have c1 := hC (a : Int) ra.1 ra.2
    have c2 := hC (-1 - (k : Int)) (by omega) (by omega)
    have c3 := hC (k : Int) (by omega) (by omega)
    have c4 := hC (-1 - ((k + 1 : Nat) : Int)) (by omega) (by omega)
    by_cases e0 : y = k
    · rw [e0, pk, fs']
      rcases hlp with ⟨e, d1, d2, d3, d4⟩ | ⟨e, d1, d2, d3, d4⟩
      · rw [if_pos e] at hy; exact absurd e0 hy
      · rw [d3] at c3; exact c3.symm
    · by_cases e1 : y = -1 - (k : Int)
      · rw [e1, pk', fs]
        rcases hlp with ⟨e, d1, d2, d3, d4⟩ | ⟨e, d1, d2, d3, d4⟩
        · rw [d1] at c1; exact c1
        · rw [if_neg (by rw [e]; decide)] at hy; exact absurd e1 hy
      · by_cases e2 : y = ((k + 1 : Nat) : Int)
        · rw [e2, pk1, fs]
          rcases hlp with ⟨e, d1, d2, d3, d4⟩ | ⟨e, d1, d2, d3, d4⟩
          · rw [d1] at c1; rw [d2] at c2; rw [c1, c2]
          · rw [d1] at c1; exact c1
        · by_cases e3 : y = -1 - ((k + 1 : Nat) : Int)
          · rw [e3, pk1', fs']
            rcases hlp with ⟨e, d1, d2, d3, d4⟩ | ⟨e, d1, d2, d3, d4⟩
            · rw [d4] at c4; exact c4.symm
            · rw [d3] at c3; rw [d4] at c4; rw [c4, c3]
          · -- elsewhere one is the other's inverse
            have key : ∀ b : Nat, b ≠ k → b ≠ k + 1 → piN k (psN n k b) = b := fun b h1 h2 => by
              unfold psN
              by_cases h3 : b < k
              · rw [if_pos h3]; unfold piN; rw [if_pos h3]
              · rw [if_neg h3, if_neg (by omega)]; unfold piN; rw [if_neg (by omega)]; omega
            by_cases hx : 0 ≤ y
            · obtain ⟨b, rfl⟩ : ∃ b : Nat, y = b := ⟨y.toNat, by omega⟩
              rw [psS_f (by omega), phS_f, key b (by omega) (by omega)]
            · obtain ⟨b, rfl⟩ : ∃ b : Nat, y = -1 - (b : Int) := ⟨(-1 - y).toNat, by omega⟩
              rw [psS_b (by omega), phS_b, key b (by omega) (by omega)]
  refine ⟨next_pn h hs hl, pn', by split <;> omega, ?_, fun x h0 h1 => ?_, ψr, fun x h0 h1 => ⟨(ψφ x h0 h1).1, by split; exact (ψφ x h0 h1).2.1; exact (ψφ x h0 h1).2.2⟩, φψ', fun y h0 h1 hy => ?_, fun x h0 h1 => ?_⟩
  · rcases hlp with ⟨e, d1, d2, d3, d4⟩ | ⟨e, d1, d2, d3, d4⟩
    · rw [if_pos e]; exact d3
    · rw [if_neg (by rw [e]; decide)]; exact d2
  · by_cases hx : 0 ≤ x
    · obtain ⟨b, rfl⟩ : ∃ b : Nat, x = b := ⟨x.toNat, by omega⟩
      have := hpil b (by omega)
      rw [phS_f]; omega
    · obtain ⟨b, rfl⟩ : ∃ b : Nat, x = -1 - (b : Int) := ⟨(-1 - x).toNat, by omega⟩
      have := hpil b (by omega)
      rw [phS_b]; omega
  · rcases cas y h0 h1 with e | e | e | e | ⟨p, hp, e | e⟩
    · right
      rcases hlp with ⟨_, d1, d2, d3, d4⟩ | ⟨_, d1, d2, d3, d4⟩
      · rw [e, d1, pk', pa]
      · rw [e, d1, pk1, pa]
    · right
      rcases hlp with ⟨_, d1, d2, d3, d4⟩ | ⟨_, d1, d2, d3, d4⟩
      · rw [e, d2, pk1, pk']
      · rw [e, d2]
    · right
      rcases hlp with ⟨_, d1, d2, d3, d4⟩ | ⟨_, d1, d2, d3, d4⟩
      · rw [e, d3]
      · rw [e, d3, pa', pk]
    · right
      rcases hlp with ⟨_, d1, d2, d3, d4⟩ | ⟨_, d1, d2, d3, d4⟩
      · rw [e, d4, pa', pk1']
      · rw [e, d4, pk, pk1']
    · left; rw [e, (hat p hp).1]; exact (hat p hp).2.1
    · left; rw [e, (hat p hp).2.2.1]; exact (hat p hp).2.2.2
  · obtain ⟨q0, q1⟩ := atT_lt (m := 2 * n) (st := x) (by omega) h0 h1
    obtain ⟨p, hp⟩ : ∃ p : Nat, atT (2 * n) x = p := ⟨(atT (2 * n) x).toNat, by omega⟩
    have hpl : p < 2 * n := by omega
    have hbf := ps_bf (k := k) hpos hk hpl
    have hpi := ps_pi (n := n) (k := k) (a := p)
    have hbl2 := bf_lt (n := n + 1) (a := piN k p) (hpil p hpl)
    have hpl2 := hpil p hpl
    rcases at_cases hpl h0 h1 hp with e | e
    · refine ⟨(bf (n + 1) (piN k p) : Nat), by omega, by omega, by split <;> omega, ?_, ?_⟩
      · rw [(hat p hpl).1, e]
      · rw [(hat p hpl).2.1, e]
    · refine ⟨-1 - (piN k p : Nat), by omega, by omega, by split <;> omega, ?_, ?_⟩
      · rw [(hat p hpl).2.2.1, e]
      · rw [(hat p hpl).2.2.2, e]
/-- A kink adds one face. -/
theorem kink_faces : (facesT (nextT (kinkT w n k) s') (2 * (n + 1))).length = (facesT (nextT w s) (2 * n)).length + 1 := (kink_over h hk hs hl hs' hl' he).faces
theorem kink_genus : genusT (n + 1) (kinkT w n k) s' = genusT n w s := by
  have := kink_faces h hk hs hl hs' hl' he
  unfold genusT
  rw [this]; congr 1; omega
end
end Go.Scr
/- The least genus: it is one of the signs', and no other is less. No condition. -/
namespace Go.Scr
set_option linter.unusedVariables false
set_option linter.unusedSimpArgs false
set_option linter.unusedSectionVars false

theorem leastK_in {n : Nat} {w : List Int} (hn : 1 ≤ n) : ∀ {k : Nat}, 1 ≤ k → ∃ j, j < k ∧ leastK n w k = (genusT n w (sgT n j), sgT n j)
  | k + 1, _ => by
    by_cases h : (leastK n w k).2 = [] ∨ genusT n w (sgT n k) < (leastK n w k).1
    · exact ⟨k, Nat.lt_succ_self k, leastK_yes h⟩
    · rw [leastK_no h]
      have hk : 1 ≤ k := by
        refine Nat.pos_of_ne_zero fun e => ?_
        subst e
        exact h (.inl rfl)
      obtain ⟨j, hj, e⟩ := leastK_in hn hk
      exact ⟨j, by omega, e⟩
theorem leastK_le {n : Nat} {w : List Int} (hn : 1 ≤ n) : ∀ {k j : Nat}, j < k → (leastK n w k).1 ≤ genusT n w (sgT n j)
  | k + 1, j, hj => by
    by_cases h : (leastK n w k).2 = [] ∨ genusT n w (sgT n k) < (leastK n w k).1
    · rw [leastK_yes h]
      by_cases e : j = k
      · subst e; exact Int.le_refl _
      · have hk : 1 ≤ k := by omega
        obtain ⟨i, _, he⟩ := leastK_in (w := w) hn hk
        have h1 := leastK_le (w := w) hn (k := k) (j := j) (by omega)
        rcases h with h | h
        · rw [he] at h
          have := congrArg List.length h
          rw [sgT_len] at this; simp at this; omega
        · exact Int.le_trans (Int.le_of_lt h) h1
    · rw [leastK_no h]
      by_cases e : j = k
      · subst e
        exact Int.not_lt.1 fun hl => h (.inr hl)
      · exact leastK_le hn (by omega)
theorem leastT_in {n : Nat} {w : List Int} (hn : 1 ≤ n) : ∃ j, j < 2 ^ n ∧ leastT n w = (genusT n w (sgT n j), sgT n j) := leastK_in hn Nat.one_le_two_pow
theorem leastT_le {n : Nat} {w : List Int} (hn : 1 ≤ n) {j : Nat} (hj : j < 2 ^ n) : (leastT n w).1 ≤ genusT n w (sgT n j) := leastK_le hn hj
/-- All signs are tried. -/
theorem sgT_of {n : Nat} : ∀ {s : List Int}, s.length = n → s.all (fun x => decide (x = 1) || decide (x = -1)) = true → ∃ j, j < 2 ^ n ∧ s = sgT n j := by
  intro s hl hs
  -- the number whose bits are the signs
  have key : ∀ (m : Nat) (t : List Int), t.length = m → t.all (fun x => decide (x = 1) || decide (x = -1)) = true → ∃ j, j < 2 ^ m ∧ ∀ i, i < m → t.getD i 0 = sgAt m j i := by
    intro m
    induction m with
    | zero => intro t _ _; exact ⟨0, by simp, by omega⟩
    | succ m ih =>
      intro t ht ha
      match t, ht, ha with
      | x :: r, ht, ha =>
        simp only [List.all_cons, Bool.and_eq_true, Bool.or_eq_true, decide_eq_true_eq] at ha
        obtain ⟨j, hj, hi⟩ := ih r (by simpa using ht) ha.2
        have tail : ∀ c, ∀ i, i < m → sgAt (m + 1) (2 ^ m * c + j) (i + 1) = sgAt m j i := fun c i him => by
          unfold sgAt bitT
          rw [show m + 1 - 1 - (i + 1) = m - 1 - i by omega]
          obtain ⟨b, hb⟩ : ∃ b, m = (m - 1 - i) + (b + 1) := ⟨i, by omega⟩
          have e : 2 ^ m * c = 2 ^ (m - 1 - i) * (2 * (2 ^ b * c)) := by
            conv => lhs; rw [hb]
            rw [Nat.pow_add, Nat.pow_succ, Nat.mul_assoc, Nat.mul_comm (2 ^ b) 2, Nat.mul_assoc]
          rw [e, Nat.mul_add_div (Nat.two_pow_pos _)]
          have : ∀ a b : Nat, (2 * a + b) % 2 = b % 2 := fun a b => by omega
          rw [this]
        have head : ∀ c, c ≤ 1 → bitT (2 ^ m * c + j) m = c := fun c hc => by
          unfold bitT
          rw [Nat.mul_add_div (Nat.two_pow_pos _), Nat.div_eq_of_lt hj]; omega
        rcases ha.1 with hx | hx
        · refine ⟨2 ^ m * 0 + j, by rw [Nat.pow_succ]; omega, fun i hi' => ?_⟩
          match i with
          | 0 => 
            show x = sgAt (m + 1) _ 0
            unfold sgAt
            rw [show m + 1 - 1 - 0 = m by omega, head 0 (by omega), hx]; rfl
          | i + 1 => rw [tail 0 i (by omega)]; exact hi i (by omega)
        · refine ⟨2 ^ m * 1 + j, by rw [Nat.pow_succ]; omega, fun i hi' => ?_⟩
          match i with
          | 0 =>
            show x = sgAt (m + 1) _ 0
            unfold sgAt
            rw [show m + 1 - 1 - 0 = m by omega, head 1 (by omega), hx]; rfl
          | i + 1 => rw [tail 1 i (by omega)]; exact hi i (by omega)
  obtain ⟨j, hj, hi⟩ := key n s hl hs
  refine ⟨j, hj, ?_⟩
  refine List.ext_getElem (by rw [sgT_len]; exact hl) fun i h1 h2 => ?_
  have h3 := hi i (by omega)
  have h4 := sgT_get (n := n) (k := j) (i := i) (by omega)
  simp only [List.getD_eq_getElem?_getD, List.getElem?_eq_getElem h1, List.getElem?_eq_getElem h2, Option.getD_some] at h3 h4
  rw [h3, h4]
/-- The least genus of a word is the least over all lists of signs. -/
theorem leastT_min {n : Nat} {w s : List Int} (hn : 1 ≤ n) (hl : s.length = n) (hs : s.all (fun x => decide (x = 1) || decide (x = -1)) = true) : (leastT n w).1 ≤ genusT n w s := by
  obtain ⟨j, hj, e⟩ := sgT_of hl hs
  rw [e]; exact leastT_le hn hj
end Go.Scr
/- A kink changes neither the least genus, nor which letters are interlaced. No condition. -/
namespace Go.Scr
set_option linter.unusedVariables false
set_option linter.unusedSimpArgs false
set_option linter.unusedSectionVars false

theorem all_app {s : List Int} {e : Int} (hs : s.all (fun x => decide (x = 1) || decide (x = -1)) = true) (he : e = 1 ∨ e = -1) : (s ++ [e]).all (fun x => decide (x = 1) || decide (x = -1)) = true := by
  rw [List.all_append, hs]; rcases he with rfl | rfl <;> rfl
theorem getD_snoc {s : List Int} {e : Int} {v : Nat} (h : v < s.length) : (s ++ [e]).getD v 0 = s.getD v 0 := by rw [getD_app, if_pos h]
theorem kink_genus_app {w s : List Int} {n k : Nat} {e : Int} (h : Word w n) (hk : k ≤ 2 * n) (hs : s.all (fun x => decide (x = 1) || decide (x = -1)) = true) (hl : s.length = n) (he : e = 1 ∨ e = -1) : genusT (n + 1) (kinkT w n k) (s ++ [e]) = genusT n w s :=
  kink_genus h hk hs hl (all_app hs he) (by simp [hl]) fun v hv => getD_snoc (by omega)
theorem kink_least {w : List Int} {n k : Nat} (h : Word w n) (hk : k ≤ 2 * n) : (leastT (n + 1) (kinkT w n k)).1 = (leastT n w).1 := by
  have hpos := h.pos
  obtain ⟨j, hj, e⟩ := leastT_in (n := n) (w := w) hpos
  obtain ⟨i, hi, e'⟩ := leastT_in (n := n + 1) (w := kinkT w n k) (by omega)
  refine Int.le_antisymm ?_ ?_
  · have := leastT_min (n := n + 1) (w := kinkT w n k) (s := sgT n j ++ [1]) (by omega) (by simp [sgT_len]) (all_app sgT_all (.inl rfl))
    rw [kink_genus_app h hk sgT_all sgT_len (.inl rfl)] at this
    rw [e]; exact this
  · have ht := sgT_all (n := n + 1) (k := i)
    have htl := sgT_len (n := n + 1) (k := i)
    obtain ⟨t, et⟩ : ∃ t, t = sgT (n + 1) i := ⟨_, rfl⟩
    rw [← et] at ht htl e'
    have hsa : (t.take n).all (fun x => decide (x = 1) || decide (x = -1)) = true := by
      rw [List.all_eq_true] at ht ⊢
      exact fun x hx => ht x (List.mem_of_mem_take hx)
    have hsl : (t.take n).length = n := by rw [List.length_take]; omega
    have hg := kink_genus (k := k) h hk hsa hsl ht htl fun v hv => by
      simp only [List.getD_eq_getElem?_getD, List.getElem?_take, if_pos hv]
    have := leastT_min (n := n) (w := w) hpos hsl hsa
    rw [e']
    show (leastT n w).1 ≤ genusT (n + 1) (kinkT w n k) t
    rw [hg]; exact this
section
variable {w : List Int} {n k : Nat} (h : Word w n) (hk : k ≤ 2 * n)
include h hk
theorem kink_places {x : Nat} (hx : x < n) : ∃ p q : Nat, p < q ∧ q < 2 * n ∧ placesT w x = [(p : Int), (q : Int)] ∧ w.getD p 0 = x ∧ w.getD q 0 = x ∧ (∀ i, i < 2 * n → w.getD i 0 = x → i = p ∨ i = q) ∧
    piN k p < piN k q ∧ piN k q < 2 * (n + 1) ∧ placesT (kinkT w n k) x = [(piN k p : Int), (piN k q : Int)] ∧ (kinkT w n k).getD (piN k p) 0 = x ∧ (kinkT w n k).getD (piN k q) 0 = x ∧ (∀ i, i < 2 * (n + 1) → (kinkT w n k).getD i 0 = x → i = piN k p ∨ i = piN k q) := by
  have hwl := h.len
  obtain ⟨p, q, hpq, hq, hA, hp1, hq1, hall⟩ := h.places hx
  obtain ⟨p', q', hpq', hq', hA', hp1', hq1', hall'⟩ := (kink_word (k := k) h).places (v := x) (by omega)
  have hget : ∀ i, i < 2 * n → (kinkT w n k).getD (piN k i) 0 = w.getD i 0 := fun i hi => by
    rw [kink_get (by omega)]
    unfold piN
    split
    · rfl
    · rename_i h1; rw [if_neg (by omega), if_neg (by omega)]; rfl
  have hpil : ∀ i, i < 2 * n → piN k i < 2 * (n + 1) := fun i hi => by unfold piN; split <;> omega
  have hpim : ∀ i j, i < j → piN k i < piN k j := fun i j hij => by unfold piN; split <;> split <;> omega
  have a1 := hall' (piN k p) (hpil p (by omega)) (by rw [hget p (by omega)]; exact hp1)
  have a2 := hall' (piN k q) (hpil q hq) (by rw [hget q hq]; exact hq1)
  have a3 := hpim p q hpq
  have eP : p' = piN k p := by omega
  have eQ : q' = piN k q := by omega
  rw [eP, eQ] at hA' hall'
  rw [eP] at hp1'
  rw [eQ] at hq1'
  exact ⟨p, q, hpq, hq, hA, hp1, hq1, hall, a3, hpil q hq, hA', hp1', hq1', hall'⟩
theorem kink_inter {a b : Nat} (ha : a < n) (hb : b < n) : interT (kinkT w n k) a b = interT w a b := by
  obtain ⟨p, q, hpq, hq, hA, hp1, hq1, hallA, hpq', hq', hA', hp1', hq1', hallA'⟩ := kink_places h hk ha
  obtain ⟨r, s, hrs, hs, hB, hr1, hs1, hallB, hrs', hs', hB', hr1', hs1', hallB'⟩ := kink_places h hk hb
  rw [inter_places h ha hb hA hB hpq hq hrs hs hp1 hq1 hr1 hs1 hallB, inter_places (kink_word (k := k) h) (a := a) (b := b) (by omega) (by omega) hA' hB' hpq' hq' hrs' hs' hp1' hq1' hr1' hs1' hallB']
  have key : ∀ i j : Nat, ((piN k i : Nat) : Int) < (piN k j : Nat) ↔ (i : Int) < j := fun i j => by unfold piN; split <;> split <;> omega
  simp only [key]
theorem kink_inter_n {a : Nat} (ha : a < n) : interT (kinkT w n k) a n = false := by
  have hwl := h.len
  obtain ⟨p, q, hpq, hq, hA, hp1, hq1, hallA, hpq', hq', hA', hp1', hq1', hallA'⟩ := kink_places h hk ha
  obtain ⟨r, s, hrs, hs, hB, hr1, hs1, hallB⟩ := (kink_word (k := k) h).places (v := n) (by omega)
  have a1 := hallB k (by omega) (by rw [kink_get (by omega), if_neg (by omega), if_pos (by omega)])
  have a2 := hallB (k + 1) (by omega) (by rw [kink_get (by omega), if_neg (by omega), if_pos (by omega)])
  have er : r = k := by omega
  have es : s = k + 1 := by omega
  rw [inter_places (kink_word (k := k) h) (a := a) (b := n) (by omega) (by omega) hA' hB hpq' hq' hrs hs hp1' hq1' hr1 hs1 hallB, er, es]
  have key1 : ∀ i : Nat, decide (((piN k i : Nat) : Int) < (k : Int)) = decide (i < k) := fun i => by rw [decide_eq_decide]; unfold piN; split <;> omega
  have key2 : ∀ i : Nat, decide (((piN k i : Nat) : Int) < ((k + 1 : Nat) : Int)) = decide (i < k) := fun i => by rw [decide_eq_decide]; unfold piN; split <;> omega
  have key3 : ∀ i : Nat, decide ((k : Int) < ((piN k i : Nat) : Int)) = !decide (i < k) := fun i => by
    rw [← decide_not, decide_eq_decide]; unfold piN; split <;> omega
  have key4 : ∀ i : Nat, decide (((k + 1 : Nat) : Int) < ((piN k i : Nat) : Int)) = !decide (i < k) := fun i => by
    rw [← decide_not, decide_eq_decide]; unfold piN; split <;> omega
  rw [key1, key2, key3, key4]
  simp
theorem kink_n_inter {a : Nat} (ha : a < n) : interT (kinkT w n k) n a = false := by
  rw [inter_symm (kink_word (k := k) h) (a := n) (b := a) (by omega) (by omega)]; exact kink_inter_n h hk ha
theorem kink_both {x y : Nat} (hx : x < n) (hy : y < n) : cmnK (kinkT w n k) x y (n + 1) = cmnK w x y n := by
  rw [cmnK_no (by rw [kink_inter_n h hk hx]; rfl)]
  have : ∀ j, j ≤ n → cmnK (kinkT w n k) x y j = cmnK w x y j := by
    intro j
    induction j with
    | zero => intro _; rfl
    | succ j ih =>
      intro hj
      rw [cmnK, cmnK, ih (by omega), kink_inter h hk hx (by omega), kink_inter h hk hy (by omega)]
  exact this n (Nat.le_refl _)
theorem kink_both_n {y : Nat} : cmnK (kinkT w n k) n y (n + 1) = 0 := by
  have : ∀ j, j ≤ n + 1 → cmnK (kinkT w n k) n y j = 0 := by
    intro j
    induction j with
    | zero => intro _; rfl
    | succ j ih =>
      intro hj
      have hf : interT (kinkT w n k) n j = false := by
        by_cases e : j = n
        · subst e; exact inter_self
        · exact kink_n_inter h hk (by omega)
      rw [cmnK, ih (by omega), hf]; rfl
  exact this _ (Nat.le_refl _)
theorem kink_drawn : drawnB (kinkT w n k) (n + 1) = drawnB w n := by
  have hiff : DrawnP (kinkT w n k) (n + 1) ↔ DrawnP w n := by
    constructor
    · rintro ⟨h1, h2, d, h3⟩
      refine ⟨fun a ha => ?_, fun a b hba ha => ?_, d, fun x y hx hy hg => ?_⟩
      · have := h1 a (by omega)
        unfold C1 at this ⊢
        rw [kink_both h hk ha ha] at this; exact this
      · have := h2 a b hba (by omega)
        unfold C2 at this ⊢
        rw [kink_inter h hk ha (by omega), kink_both h hk ha (by omega)] at this; exact this
      · have := h3 x y (by omega) (by omega) (by unfold gD at hg ⊢; rw [kink_inter h hk hx hy]; exact hg)
        unfold eD at this ⊢
        rw [kink_both h hk hx hy] at this; exact this
    · rintro ⟨h1, h2, d, h3⟩
      refine ⟨fun a ha => ?_, fun a b hba ha => ?_, d, fun x y hx hy hg => ?_⟩
      · unfold C1
        by_cases e : a = n
        · subst e; rw [kink_both_n h hk]
        · rw [kink_both h hk (by omega) (by omega)]; exact h1 a (by omega)
      · unfold C2
        by_cases e : a = n
        · subst e; intro _; rw [kink_both_n h hk]
        · rw [kink_inter h hk (by omega) (by omega), kink_both h hk (by omega) (by omega)]; exact h2 a b hba (by omega)
      · unfold gD at hg
        by_cases e : x = n
        · subst e
          by_cases e2 : y = x
          · subst e2; rw [inter_self] at hg; cases hg
          · rw [kink_n_inter h hk (by omega)] at hg; cases hg
        · by_cases e2 : y = n
          · subst e2; rw [kink_inter_n h hk (by omega)] at hg; cases hg
          · rw [kink_inter h hk (by omega) (by omega)] at hg
            have := h3 x y (by omega) (by omega) hg
            unfold eD at this ⊢
            rw [kink_both h hk (by omega) (by omega)]; exact this
  by_cases hd : DrawnP w n
  · rw [drawnB_yes hd, drawnB_yes (hiff.2 hd)]
  · rw [drawnB_no hd, drawnB_no fun h => hd (hiff.1 h)]
end
end Go.Scr
/- Two strands twisted 1, 3 or 5 times, with kinks. No condition. -/
namespace Go.Scr
set_option linter.unusedVariables false
set_option linter.unusedSimpArgs false

def twT (n i : Nat) : List Int := (List.range i).map fun j => ((j % n : Nat) : Int)
theorem twT_len {n i : Nat} : (twT n i).length = i := by simp [twT]
theorem twT_succ {n i : Nat} : twT n (i + 1) = twT n i ++ [((i % n : Nat) : Int)] := by simp [twT, List.range_succ]
structure Cv (w : List Int) (n : Nat) : Prop where
  word : Word w n
  plane : (leastT n w).1 = 0
  drawn : drawnB w n = true
theorem cv_kink {w : List Int} {n k : Nat} (h : Cv w n) (hk : k ≤ 2 * n) : Cv (kinkT w n k) (n + 1) :=
  ⟨kink_word h.word, (kink_least h.word hk).trans h.plane, (kink_drawn h.word hk).trans h.drawn⟩
theorem cv1 : Cv (twT 1 2) 1 := by
  refine ⟨word_of rfl (by decide) (by decide), by decide +kernel, drawnB_yes ⟨?_, ?_, fun _ => false, ?_⟩⟩
  · have : ∀ a, a < 1 → cmnK (twT 1 2) a a 1 % 2 = 0 := by decide
    exact this
  · have : ∀ a : Nat, a < 1 → ∀ b : Nat, b < a → interT (twT 1 2) a b = false → cmnK (twT 1 2) a b 1 % 2 = 0 := by decide
    exact fun a b hb ha => this a ha b hb
  · have : ∀ a, a < 1 → ∀ b, b < 1 → gD (twT 1 2) a b = true → (false ^^ false) = eD (twT 1 2) 1 a b := by decide
    exact fun a b ha hb => this a ha b hb
theorem cv3 : Cv (twT 3 6) 3 := by
  refine ⟨word_of rfl (by decide) (by decide +kernel), by decide +kernel, drawnB_yes ⟨?_, ?_, fun _ => false, ?_⟩⟩
  · have : ∀ a, a < 3 → cmnK (twT 3 6) a a 3 % 2 = 0 := by decide +kernel
    exact this
  · have : ∀ a : Nat, a < 3 → ∀ b : Nat, b < a → interT (twT 3 6) a b = false → cmnK (twT 3 6) a b 3 % 2 = 0 := by decide +kernel
    exact fun a b hb ha => this a ha b hb
  · have : ∀ a, a < 3 → ∀ b, b < 3 → gD (twT 3 6) a b = true → (false ^^ false) = eD (twT 3 6) 3 a b := by decide +kernel
    exact fun a b ha hb => this a ha b hb
theorem cv5 : Cv (twT 5 10) 5 := by
  refine ⟨word_of rfl (by decide) (by decide +kernel), by decide +kernel, drawnB_yes ⟨?_, ?_, fun _ => false, ?_⟩⟩
  · have : ∀ a, a < 5 → cmnK (twT 5 10) a a 5 % 2 = 0 := by decide +kernel
    exact this
  · have : ∀ a : Nat, a < 5 → ∀ b : Nat, b < a → interT (twT 5 10) a b = false → cmnK (twT 5 10) a b 5 % 2 = 0 := by decide +kernel
    exact fun a b hb ha => this a ha b hb
  · have : ∀ a, a < 5 → ∀ b, b < 5 → gD (twT 5 10) a b = true → (false ^^ false) = eD (twT 5 10) 5 a b := by decide +kernel
    exact fun a b ha hb => this a ha b hb
end Go.Scr
/- ScrollCurves. No condition. -/
namespace Go.Proofs.Ytdfajcfkdfjoeab
open Go Go.Vc Go.Scr
set_option linter.unusedVariables false
set_option linter.unusedSimpArgs false

@[reducible] def U2c : Ty := .cons (.int .u8) (.cons (.int .u8) .nil)
def smallc (x : List (Int × Int × Unit)) : Prop := ∀ i : Nat, 0 ≤ (x.getD i (0, 0, ())).1 ∧ (x.getD i (0, 0, ())).1 ≤ 255
set_option maxHeartbeats 8000000 in
theorem ScrollCurves_at {x : List (Int × Int × Unit)} (hx : smallc x) {z : Int} (hz0 : 0 ≤ z) (hz1 : z ≤ 255) : FnAt Try.prog false 3 [.lit (.int .u8 z), .arr U2c x] (.lit (.bool true)) [] := by
  have hxl : ∀ i, @List.getD U2c.T x i U2c.dflt = x.getD i (0, 0, ()) := fun i => rfl
  have hll : @List.length U2c.T x = x.length := rfl
  have hik0 : InK .i64 z := by simp only [InK]; omega
  obtain ⟨n, hn, hnv, hcv⟩ : ∃ n : Nat, (n = 1 ∨ n = 3 ∨ n = 5) ∧ 2 * Int.tmod z 3 + 1 = (n : Int) ∧ Cv (twT n (2 * n)) n := by
    have hm : Int.tmod z 3 = 0 ∨ Int.tmod z 3 = 1 ∨ Int.tmod z 3 = 2 := by rw [Int.tmod_eq_emod_of_nonneg hz0]; omega
    rcases hm with h | h | h
    · exact ⟨1, .inl rfl, by rw [h]; rfl, cv1⟩
    · exact ⟨3, .inr (.inl rfl), by rw [h]; rfl, cv3⟩
    · exact ⟨5, .inr (.inr rfl), by rw [h]; rfl, cv5⟩
  have htl : ∀ i, @List.length (Ty.int .i64).T (twT n i) = i := fun i => twT_len
  refine FnAt.of_body tys_ok Try.func3 (by rfl) rfl Try.ntmps3 (by rw [Try.results3]) (by simp) ?_
  
  repeat' (first
 | refine W.seq ?_
 | refine W.block ?_
 | (refine W.region tys_ok [] ?_; conv => whnf)
 | (refine W.drawAll tys_ok [] mixed rfl ?_; conv => whnf)
 | (refine W.ret ?_; conv => whnf)
 | (refine W.skip ?_; conv => whnf)
 | (refine W.exit ?_; conv => whnf)

    | (refine W.cond rfl (fun hb => ?_) (fun hb => ?_) <;> (try simp only [Int.reduceToNat, Int.reduceTDiv, Int.reduceTMod, minL, maxL, pickB, zHB] at hb) <;> (try (first | (cases hb; done) | exact absurd hb (by decide) | (exfalso; omega))))
    | ((with_reducible refine And.intro ?_ ?_); (focus ((repeat' (first | (with_reducible rfl) | (with_reducible refine And.intro ?_ ?_) | omega | rfl | exact Or.inl rfl | exact Or.inr rfl | exact of_decide_eq_true rfl | exact Path.imp_of (of_decide_eq_true rfl) | (focus ((try simp only [Int.reduceToNat, Int.reduceTDiv, Int.reduceTMod, minL, maxL, pickB, zHB, InK, Path.imp, List.length_replicate, List.length_set, List.length_append, List.length_cons, List.length_nil] at *); omega)) | (refine app_le rfl ?_; omega))); done)); (conv => whnf))
    | ((with_reducible refine And.intro (Side.out ?_) ?_); rotate_left; (conv => whnf))
    | (refine retF1 ?_ <;> (conv => whnf) <;> repeat' (first
 | exact trivial
 | (with_reducible rfl)
 | ((with_reducible refine And.intro ?_ ?_) <;> conv => whnf)
 | omega
 | rfl
 | (refine congrArg (SV.arr _) ?_)
 | (refine congrArg (Value.int _) ?_)
 | (refine congrArg Value.bool ?_)))
 | (refine retF2 ?_ <;> (conv => whnf) <;> repeat' (first
 | exact trivial
 | (with_reducible rfl)
 | ((with_reducible refine And.intro ?_ ?_) <;> conv => whnf)
 | omega
 | rfl
 | (refine congrArg (SV.arr _) ?_)
 | (refine congrArg (Value.int _) ?_)
 | (refine congrArg Value.bool ?_)))); all_goals (try unfold Side)
  all_goals try exact Path.imp_of hik0
  all_goals try (repeat' (first | (with_reducible rfl) | (with_reducible refine And.intro ?_ ?_) | omega | rfl | exact Or.inl rfl | exact Or.inr rfl | exact of_decide_eq_true rfl | exact Path.imp_of (of_decide_eq_true rfl) | (focus ((try simp only [Int.reduceToNat, Int.reduceTDiv, Int.reduceTMod, minL, maxL, pickB, zHB, InK, Path.imp, List.length_replicate, List.length_set, List.length_append, List.length_cons, List.length_nil] at *); omega)) | (refine app_le rfl ?_; omega)))
  refine W.loop (fun i : Nat => ⟨[(1, .st false (.arr U2c x)), (5, .lit (.int .i64 (n))), (6, .own 900006), (7, .lit (.int .i64 (i)))], [(900006, .row 3 (.int .i64) true ((twT n i) : List Int))]⟩) (fun i => i ≤ 2 * n) (fun i => 2 * n - i) (0) ?_ ?_
  · refine ⟨Nat.zero_le _, ?_⟩
    refine subF.ok ?_ <;> (conv => whnf) <;> repeat' (first
 | exact trivial
 | (with_reducible rfl)
 | ((with_reducible refine And.intro ?_ ?_) <;> conv => whnf)
 | omega
 | rfl
 | (refine congrArg (SV.arr _) ?_)
 | (refine congrArg (Value.int _) ?_)
 | (refine congrArg Value.bool ?_))
    all_goals exact hnv
  · intro i hi
    have hl := htl i
    by_cases hil : i < 2 * n
    · have hs : twT n i ++ [Int.tmod (i : Int) (n : Int)] = twT n (i + 1) := by rw [twT_succ, Int.tmod_eq_emod_of_nonneg (by omega)]; norm_cast
      repeat' (first
 | refine W.seq ?_
 | refine W.block ?_
 | (refine W.region tys_ok [] ?_; conv => whnf)
 | (refine W.drawAll tys_ok [] mixed rfl ?_; conv => whnf)
 | (refine W.ret ?_; conv => whnf)
 | (refine W.skip ?_; conv => whnf)
 | (refine W.exit ?_; conv => whnf)

    | (refine W.cond rfl (fun hb => ?_) (fun hb => ?_) <;> (try simp only [Int.reduceToNat, Int.reduceTDiv, Int.reduceTMod, minL, maxL, pickB, zHB] at hb) <;> (try (first | (cases hb; done) | exact absurd hb (by decide) | (exfalso; omega))))
    | ((with_reducible refine And.intro ?_ ?_); (focus ((repeat' (first | (with_reducible rfl) | (with_reducible refine And.intro ?_ ?_) | omega | rfl | exact Or.inl rfl | exact Or.inr rfl | exact of_decide_eq_true rfl | exact Path.imp_of (of_decide_eq_true rfl) | (focus ((try simp only [Int.reduceToNat, Int.reduceTDiv, Int.reduceTMod, minL, maxL, pickB, zHB, InK, Path.imp, List.length_replicate, List.length_set, List.length_append, List.length_cons, List.length_nil] at *); omega)) | (refine app_le rfl ?_; omega))); done)); (conv => whnf))
    | ((with_reducible refine And.intro (Side.out ?_) ?_); rotate_left; (conv => whnf))
    | (refine retF1 ?_ <;> (conv => whnf) <;> repeat' (first
 | exact trivial
 | (with_reducible rfl)
 | ((with_reducible refine And.intro ?_ ?_) <;> conv => whnf)
 | omega
 | rfl
 | (refine congrArg (SV.arr _) ?_)
 | (refine congrArg (Value.int _) ?_)
 | (refine congrArg Value.bool ?_)))
 | (refine retF2 ?_ <;> (conv => whnf) <;> repeat' (first
 | exact trivial
 | (with_reducible rfl)
 | ((with_reducible refine And.intro ?_ ?_) <;> conv => whnf)
 | omega
 | rfl
 | (refine congrArg (SV.arr _) ?_)
 | (refine congrArg (Value.int _) ?_)
 | (refine congrArg Value.bool ?_)))); all_goals (try unfold Side)
      all_goals try (repeat' (first | (with_reducible rfl) | (with_reducible refine And.intro ?_ ?_) | omega | rfl | exact Or.inl rfl | exact Or.inr rfl | exact of_decide_eq_true rfl | exact Path.imp_of (of_decide_eq_true rfl) | (focus ((try simp only [Int.reduceToNat, Int.reduceTDiv, Int.reduceTMod, minL, maxL, pickB, zHB, InK, Path.imp, List.length_replicate, List.length_set, List.length_append, List.length_cons, List.length_nil] at *); omega)) | (refine app_le rfl ?_; omega)))
      refine ⟨i + 1, ⟨by omega, by omega⟩, ?_⟩
      refine subF.ok ?_ <;> (conv => whnf) <;> repeat' (first
 | exact trivial
 | (with_reducible rfl)
 | ((with_reducible refine And.intro ?_ ?_) <;> conv => whnf)
 | omega
 | rfl
 | (refine congrArg (SV.arr _) ?_)
 | (refine congrArg (Value.int _) ?_)
 | (refine congrArg Value.bool ?_))
      all_goals exact hs
    · have hie : 2 * n = i := by omega
      subst hie
      repeat' (first
 | refine W.seq ?_
 | refine W.block ?_
 | (refine W.region tys_ok [] ?_; conv => whnf)
 | (refine W.drawAll tys_ok [] mixed rfl ?_; conv => whnf)
 | (refine W.ret ?_; conv => whnf)
 | (refine W.skip ?_; conv => whnf)
 | (refine W.exit ?_; conv => whnf)

    | (refine W.cond rfl (fun hb => ?_) (fun hb => ?_) <;> (try simp only [Int.reduceToNat, Int.reduceTDiv, Int.reduceTMod, minL, maxL, pickB, zHB] at hb) <;> (try (first | (cases hb; done) | exact absurd hb (by decide) | (exfalso; omega))))
    | ((with_reducible refine And.intro ?_ ?_); (focus ((repeat' (first | (with_reducible rfl) | (with_reducible refine And.intro ?_ ?_) | omega | rfl | exact Or.inl rfl | exact Or.inr rfl | exact of_decide_eq_true rfl | exact Path.imp_of (of_decide_eq_true rfl) | (focus ((try simp only [Int.reduceToNat, Int.reduceTDiv, Int.reduceTMod, minL, maxL, pickB, zHB, InK, Path.imp, List.length_replicate, List.length_set, List.length_append, List.length_cons, List.length_nil] at *); omega)) | (refine app_le rfl ?_; omega))); done)); (conv => whnf))
    | ((with_reducible refine And.intro (Side.out ?_) ?_); rotate_left; (conv => whnf))
    | (refine retF1 ?_ <;> (conv => whnf) <;> repeat' (first
 | exact trivial
 | (with_reducible rfl)
 | ((with_reducible refine And.intro ?_ ?_) <;> conv => whnf)
 | omega
 | rfl
 | (refine congrArg (SV.arr _) ?_)
 | (refine congrArg (Value.int _) ?_)
 | (refine congrArg Value.bool ?_)))
 | (refine retF2 ?_ <;> (conv => whnf) <;> repeat' (first
 | exact trivial
 | (with_reducible rfl)
 | ((with_reducible refine And.intro ?_ ?_) <;> conv => whnf)
 | omega
 | rfl
 | (refine congrArg (SV.arr _) ?_)
 | (refine congrArg (Value.int _) ?_)
 | (refine congrArg Value.bool ?_)))); all_goals (try unfold Side)
      all_goals try (repeat' (first | (with_reducible rfl) | (with_reducible refine And.intro ?_ ?_) | omega | rfl | exact Or.inl rfl | exact Or.inr rfl | exact of_decide_eq_true rfl | exact Path.imp_of (of_decide_eq_true rfl) | (focus ((try simp only [Int.reduceToNat, Int.reduceTDiv, Int.reduceTMod, minL, maxL, pickB, zHB, InK, Path.imp, List.length_replicate, List.length_set, List.length_append, List.length_cons, List.length_nil] at *); omega)) | (refine app_le rfl ?_; omega)))
      refine W.loop (fun v : List Int × Nat × Nat => ⟨[(1, .st false (.arr U2c x)), (6, .own 900006), (8, .lit (.int .i64 (v.2.2)))], [(900006, .row 3 (.int .i64) true (v.1 : List Int))]⟩) (fun v => Cv v.1 v.2.1 ∧ v.2.1 ≤ 9 ∧ v.2.2 ≤ v.2.1) (fun v => x.length - v.2.2) ((twT n (2 * n), n, 0)) ?_ ?_
      · refine ⟨⟨hcv, by dsimp only; omega, Nat.zero_le _⟩, ?_⟩
        refine subF.ok ?_ <;> (conv => whnf) <;> repeat' (first
 | exact trivial
 | (with_reducible rfl)
 | ((with_reducible refine And.intro ?_ ?_) <;> conv => whnf)
 | omega
 | rfl
 | (refine congrArg (SV.arr _) ?_)
 | (refine congrArg (Value.int _) ?_)
 | (refine congrArg Value.bool ?_))
      · rintro ⟨w, m, i⟩ ⟨hw, hm, him⟩
        dsimp only at hw hm him ⊢
        have hwl := hw.word.len
        have hl : @List.length (Ty.int .i64).T w = 2 * m := hwl
        have hdv : Int.tdiv (@List.length (Ty.int .i64).T w) 2 = m := by rw [hl, Int.tdiv_eq_ediv_of_nonneg (by omega)]; omega
        by_cases hc : i < x.length ∧ m < 9
        · obtain ⟨hil, hm9⟩ := hc
          obtain ⟨x0, x1⟩ := hx i
          obtain ⟨p, hp⟩ : ∃ p : Nat, (x.getD i (0, 0, ())).1 = p := ⟨(x.getD i (0, 0, ())).1.toNat, by omega⟩
          obtain ⟨k, hk⟩ : ∃ k, k = p % (2 * m + 1) := ⟨_, rfl⟩
          have hkl : k ≤ 2 * m := by have := Nat.mod_lt p (y := 2 * m + 1) (by omega); omega
          have htm : Int.tmod (x.getD i (0, 0, ())).1 ((@List.length (Ty.int .i64).T w : Int) + 1) = (k : Int) := by
            rw [hl, hp, Int.tmod_eq_emod_of_nonneg (by omega), hk]; norm_cast
          have p1 := put_at (w := w) (a := k) (v := (m : Int)) (by omega) (by omega)
          have p2 := put_at (w := putT w k m) (a := k) (v := (m : Int)) (by rw [putT_len]; omega) (by rw [putT_len]; omega)
          have ek : putT (putT w k m) k m = kinkT w m k := rfl
          rw [ek] at p2
          have hcv2 := cv_kink hw hkl
          obtain ⟨V, hV⟩ : ∃ V, V = kinkT w m k := ⟨_, rfl⟩
          have hik : InK .i64 (x.getD i (0, 0, ())).1 := by simp only [InK]; omega
          rw [← hV] at hcv2 p2
          rw [← htm, ← hdv] at p1 p2
          repeat' (first
 | refine W.seq ?_
 | refine W.block ?_
 | (refine W.region tys_ok [] ?_; conv => whnf)
 | (refine W.drawAll tys_ok [] mixed rfl ?_; conv => whnf)
 | (refine W.ret ?_; conv => whnf)
 | (refine W.skip ?_; conv => whnf)
 | (refine W.exit ?_; conv => whnf)
 | (refine call_at (al := false) (p1) rfl rfl rfl rfl ?_; conv => whnf)
 | (refine call_at (al := false) (p2) rfl rfl rfl rfl ?_; conv => whnf)

    | (refine W.cond rfl (fun hb => ?_) (fun hb => ?_) <;> (try simp only [Int.reduceToNat, Int.reduceTDiv, Int.reduceTMod, minL, maxL, pickB, zHB] at hb) <;> (try (first | (cases hb; done) | exact absurd hb (by decide) | (exfalso; omega))))
    | ((with_reducible refine And.intro ?_ ?_); (focus ((repeat' (first | (with_reducible rfl) | (with_reducible refine And.intro ?_ ?_) | omega | rfl | exact Or.inl rfl | exact Or.inr rfl | exact of_decide_eq_true rfl | exact Path.imp_of (of_decide_eq_true rfl) | (focus ((try simp only [Int.reduceToNat, Int.reduceTDiv, Int.reduceTMod, minL, maxL, pickB, zHB, InK, Path.imp, List.length_replicate, List.length_set, List.length_append, List.length_cons, List.length_nil] at *); omega)) | (refine app_le rfl ?_; omega))); done)); (conv => whnf))
    | ((with_reducible refine And.intro (Side.out ?_) ?_); rotate_left; (conv => whnf))
    | (refine retF1 ?_ <;> (conv => whnf) <;> repeat' (first
 | exact trivial
 | (with_reducible rfl)
 | ((with_reducible refine And.intro ?_ ?_) <;> conv => whnf)
 | omega
 | rfl
 | (refine congrArg (SV.arr _) ?_)
 | (refine congrArg (Value.int _) ?_)
 | (refine congrArg Value.bool ?_)))
 | (refine retF2 ?_ <;> (conv => whnf) <;> repeat' (first
 | exact trivial
 | (with_reducible rfl)
 | ((with_reducible refine And.intro ?_ ?_) <;> conv => whnf)
 | omega
 | rfl
 | (refine congrArg (SV.arr _) ?_)
 | (refine congrArg (Value.int _) ?_)
 | (refine congrArg Value.bool ?_)))); all_goals (try unfold Side)
          all_goals try exact Path.imp_of hik
          all_goals try (repeat' (first | (with_reducible rfl) | (with_reducible refine And.intro ?_ ?_) | omega | rfl | exact Or.inl rfl | exact Or.inr rfl | exact of_decide_eq_true rfl | exact Path.imp_of (of_decide_eq_true rfl) | (focus ((try simp only [Int.reduceToNat, Int.reduceTDiv, Int.reduceTMod, minL, maxL, pickB, zHB, InK, Path.imp, List.length_replicate, List.length_set, List.length_append, List.length_cons, List.length_nil] at *); omega)) | (refine app_le rfl ?_; omega)))
          all_goals (refine ⟨(V, m + 1, i + 1), ⟨⟨hcv2, by dsimp only; omega, by dsimp only; omega⟩, by dsimp only; omega⟩, ?_⟩)
          all_goals refine subF.ok ?_ <;> (conv => whnf) <;> repeat' (first
 | exact trivial
 | (with_reducible rfl)
 | ((with_reducible refine And.intro ?_ ?_) <;> conv => whnf)
 | omega
 | rfl
 | (refine congrArg (SV.arr _) ?_)
 | (refine congrArg (Value.int _) ?_)
 | (refine congrArg Value.bool ?_))
        · have hp := hw.word.pos
          have c2 := Plane_ok hw.word (by omega) hw.plane
          have c5 := Drawn_ok hw.word (by omega)
          rw [hw.drawn] at c5
          have hg0 := hw.plane
          obtain ⟨j0, _, hls⟩ := leastT_in (n := m) (w := w) hp
          rw [hls] at hg0 c2
          dsimp only at hg0 c2
          have hsg := sgT_signs (n := m) (k := j0)
          have hs1 := sgT_all (n := m) (k := j0)
          have hs2 := sgT_len (n := m) (k := j0)
          obtain ⟨s, hs⟩ : ∃ s, s = sgT m j0 := ⟨_, rfl⟩
          rw [← hs] at hg0 c2 hsg hs1 hs2
          have hgk := (genus_ok hw.word hs1 hs2).2
          rw [hg0] at hgk
          obtain ⟨d, hd⟩ := col_of hw.word hs1 hs2 (by omega)
          have c3 := Colors_ok hw.word (by omega) hsg hg0 hd
          have a0 := hd.at (x := 0) (by omega) (by omega)
          have a1 := hd.at (x := -1 - 0) (by omega) (by omega)
          have a2 := hd.op 0 (by omega) (by omega)
          rw [hd.z] at a2
          have w1 := whK_lt a0.1 hd.z
          have w2 := whK_pos a1.1 a2
          have hFl : (facesT (nextT w s) (2 * m)).length = m + 2 := by omega
          rw [hFl] at w1 w2
          obtain ⟨b, hb⟩ : ∃ b, b = whK d (m + 2) := ⟨_, rfl⟩
          obtain ⟨a, ha⟩ : ∃ a : Int, a = ((m + 2 : Nat) : Int) - (b : Int) := ⟨_, rfl⟩
          rw [← hb] at w1 w2 c3
          rw [← ha] at c3
          clear hs hls
          have hc' : ¬ (i < x.length ∧ (@List.length (Ty.int .i64).T w : Int) < 18) := fun h => hc ⟨h.1, by omega⟩
          repeat' (first
 | refine W.seq ?_
 | refine W.block ?_
 | (refine W.resub (x := Code.region 13 _ _) (Γ' := ⟨[(6, .st true (.arr (.int .i64) (w : List Int)))], []⟩) ?_ (W.region tys_ok [] ?_); rotate_left; (conv => whnf))
 | (refine W.region tys_ok [] ?_; conv => whnf)
 | (refine W.drawAll tys_ok [] mixed rfl ?_; conv => whnf)
 | (refine W.ret ?_; conv => whnf)
 | (refine W.skip ?_; conv => whnf)
 | (refine W.exit ?_; conv => whnf)
 | (refine call_at (al := false) (c2) rfl rfl rfl rfl ?_; conv => whnf)
 | (refine call_at (al := false) (c5) rfl rfl rfl rfl ?_; conv => whnf)
 | (refine call_at (al := false) (c3) rfl rfl rfl rfl ?_; conv => whnf)
 | (refine call_at (al := false) (lives_at) rfl rfl rfl rfl ?_; conv => whnf)

    | (refine W.cond rfl (fun hb => ?_) (fun hb => ?_) <;> (try simp only [Int.reduceToNat, Int.reduceTDiv, Int.reduceTMod, minL, maxL, pickB, zHB] at hb) <;> (try (first | (cases hb; done) | exact absurd hb (by decide) | (exfalso; omega))))
    | ((with_reducible refine And.intro ?_ ?_); (focus ((repeat' (first | (with_reducible rfl) | (with_reducible refine And.intro ?_ ?_) | omega | rfl | exact Or.inl rfl | exact Or.inr rfl | exact of_decide_eq_true rfl | exact Path.imp_of (of_decide_eq_true rfl) | (focus ((try simp only [Int.reduceToNat, Int.reduceTDiv, Int.reduceTMod, minL, maxL, pickB, zHB, InK, Path.imp, List.length_replicate, List.length_set, List.length_append, List.length_cons, List.length_nil] at *); omega)) | (refine app_le rfl ?_; omega))); done)); (conv => whnf))
    | ((with_reducible refine And.intro (Side.out ?_) ?_); rotate_left; (conv => whnf))
    | (refine retF1 ?_ <;> (conv => whnf) <;> repeat' (first
 | exact trivial
 | (with_reducible rfl)
 | ((with_reducible refine And.intro ?_ ?_) <;> conv => whnf)
 | omega
 | rfl
 | (refine congrArg (SV.arr _) ?_)
 | (refine congrArg (Value.int _) ?_)
 | (refine congrArg Value.bool ?_)))
 | (refine retF2 ?_ <;> (conv => whnf) <;> repeat' (first
 | exact trivial
 | (with_reducible rfl)
 | ((with_reducible refine And.intro ?_ ?_) <;> conv => whnf)
 | omega
 | rfl
 | (refine congrArg (SV.arr _) ?_)
 | (refine congrArg (Value.int _) ?_)
 | (refine congrArg Value.bool ?_)))); all_goals (try unfold Side)
          all_goals try (repeat' (first | (with_reducible rfl) | (with_reducible refine And.intro ?_ ?_) | omega | rfl | exact Or.inl rfl | exact Or.inr rfl | exact of_decide_eq_true rfl | exact Path.imp_of (of_decide_eq_true rfl) | (focus ((try simp only [Int.reduceToNat, Int.reduceTDiv, Int.reduceTMod, minL, maxL, pickB, zHB, InK, Path.imp, List.length_replicate, List.length_set, List.length_append, List.length_cons, List.length_nil] at *); omega)) | (refine app_le rfl ?_; omega)))
          all_goals try refine subF.ok ?_ <;> (conv => whnf) <;> repeat' (first
 | exact trivial
 | (with_reducible rfl)
 | ((with_reducible refine And.intro ?_ ?_) <;> conv => whnf)
 | omega
 | rfl
 | (refine congrArg (SV.arr _) ?_)
 | (refine congrArg (Value.int _) ?_)
 | (refine congrArg Value.bool ?_))
theorem smallc_wf {x : List (Int × Int × Unit)} (h : (Ty.sl U2c).wf x) : smallc x := fun i => by
  have h2 : ∀ y ∈ x, U2c.wf y := h.2
  by_cases hi : i < x.length
  · have hm : x.getD i (0, 0, ()) ∈ x := by
      have : x.getD i (0, 0, ()) = x[i] := by simp [List.getD, hi]
      rw [this]; exact List.getElem_mem hi
    have h3 := h2 _ hm
    have a := wf_u8 h3.1
    exact ⟨a.1, a.2⟩
  · have : x.getD i (0, 0, ()) = (0, 0, ()) := by simp [List.getD, List.getElem?_eq_none (Nat.le_of_not_lt hi)]
    rw [this]; simp
end Go.Proofs.Ytdfajcfkdfjoeab
