/- Joined of: H34. No condition. -/
import Derived.Test.YtmfholchenihaaaJ12
import Derived.Test.YtmfholchenihaaaJ13

namespace Go.Proofs.Ytmfholchenihaaa
open Go Go.Vc Go.Sh
set_option linter.unusedVariables false
set_option linter.unusedSimpArgs false
set_option maxHeartbeats 16000000 in
theorem mir3_at {P : Int} {l : List Jb} {os : List Od} (h : VS P l os) {r z : List Int} {e : Int} (he : e = if r = [] then 5 else 0) (hr : r ≠ [] → Fit P (mirJ l) (mirO os) r) (hz : sm1 z) :
    W Try.prog 267 (sfx 14 (bodyOf Try.f14)) ⟨[(1, .st false (.arr (.int .u8) z)), (7, .st true (.sadr (.agg [I64 P, .arr JT l, .arr OT os]))), (10, .st true (.sadr (.agg [I64 P, .arr JT (mirJ l), .arr OT (mirO os)]))), (16, .st true (.narr (.int .i64) (r : List Int))), (17, .lit (.int .i64 e))], []⟩ (bodyQ tys [.tmp 6] (.lit (.bool true)) []) := by
  -- func14 (by rfl)
  have hlj : @List.length JT.T l = l.length := rfl
  have hlz : @List.length (Ty.int .u8).T z = z.length := rfl
  have hzd : ∀ i, @List.getD (Ty.int .u8).T z i (Ty.int .u8).dflt = z.getD i 0 := fun i => rfl
  have hlr : @List.length (Ty.int .i64).T r = r.length := rfl
  have hl6 := h.ln
  have hbd := bd_of h
  have h' := mir_vs h
  have hu : ∀ i, upL (miV l r z) i ++ [miV l r z i] = upL (miV l r z) (i + 1) := fun i => upL_step
  have hw : ∀ i, upL (fun i => 24 - miV l r z i - jl l i) i ++ [24 - miV l r z i - jl l i] = upL (fun i => 24 - miV l r z i - jl l i) (i + 1) := fun i => upL_step (V := fun i => 24 - miV l r z i - jl l i)
  have f1 := Fits_ok h (s := upL (miV l r z) l.length) Sh.upL_len
  have f2 := Fits_ok h' (s := upL (fun i => 24 - miV l r z i - jl l i) l.length) (by rw [Sh.upL_len, mir_len])
  rw [← mirS_up, fitB_mir h Sh.upL_len, mirS_up] at f2
  have v1 : ∀ i, i < z.length → z.getD i 0 % 4 = 0 → z.getD i 0 / 4 % 24 = miV l r z i := fun i a b => by unfold miV; rw [if_pos ⟨a, b⟩]
  have v2 : ∀ i, ¬ (i < z.length ∧ z.getD i 0 % 4 = 0) → r = [] → jf l i = miV l r z i := fun i a b => by unfold miV; rw [if_neg a, if_pos b]
  have v3 : ∀ i, ¬ (i < z.length ∧ z.getD i 0 % 4 = 0) → r ≠ [] → 24 - r.getD i 0 - jl l i = miV l r z i := fun i a b => by unfold miV; rw [if_neg a, if_neg b]
  obtain ⟨B, hB⟩ : ∃ B, B = fitB P l os (upL (miV l r z) l.length) := ⟨_, rfl⟩
  rw [← hB] at f1 f2
  clear hB
  obtain ⟨V, hV⟩ : ∃ V, V = miV l r z := ⟨_, rfl⟩
  rw [← hV] at hu hw f1 f2 v1 v2 v3
  clear hV
  obtain ⟨U, hU⟩ : ∃ U, U = fun i => 24 - V i - jl l i := ⟨_, rfl⟩
  have hUv : ∀ i, 24 - V i - jl l i = U i := fun i => by rw [hU]
  rw [← hU] at hw f2
  simp only [hUv] at hw
  clear hU
  have hml : ∀ i, @List.length (Ty.int .i64).T (upL V i) = i := fun i => Sh.upL_len
  have hmu : ∀ i, @List.length (Ty.int .i64).T (upL U i) = i := fun i => Sh.upL_len
  unfold bodyOf Try.f14
  dsimp only [sfx]
  repeat' (first
 | refine W.seq ?_
 | refine W.block ?_
 | (refine W.region tys_ok [] ?_; conv => whnf)
 | (refine W.drawAll tys_ok [] mixed rfl ?_; conv => whnf)
 | (refine W.ret ?_; conv => whnf)
 | (refine W.skip ?_; conv => whnf)
 | (refine W.exit ?_; conv => whnf)
 | (refine W.cond rfl (fun hb => ?_) (fun hb => ?_) <;> (try simp only [Int.reduceToNat, Int.reduceTDiv, Int.reduceTMod, minL, maxL, pickB, zHB, zSH] at hb) <;> (try (first | (cases hb; done) | exact absurd hb (by decide) | (exfalso; omega))))
 | ((with_reducible refine And.intro ?_ ?_); (focus (first | (with_reducible rfl) | omega | rfl | ((try simp only [Int.reduceToNat, Int.reduceTDiv, Int.reduceTMod, minL, maxL, pickB, zHB, zSH, InK, Path.imp, zL] at *); omega))); (conv => whnf))
 | ((with_reducible refine And.intro (Side.out ?_) ?_); rotate_left; (conv => whnf))
 | ((first | refine retF1 ?_ | refine retF2 ?_) <;> (conv => whnf) <;> repeat' (first
 | exact trivial
 | (with_reducible rfl)
 | ((with_reducible refine And.intro ?_ ?_) <;> conv => whnf)
 | omega
 | rfl
 | (refine congrArg (SV.arr _) ?_)
 | (refine congrArg (Value.int _) ?_)
 | (refine congrArg Value.bool ?_)))); all_goals (try unfold Side)
  all_goals try (repeat' (first | (with_reducible rfl) | (with_reducible refine And.intro ?_ ?_) | omega | rfl | exact Or.inl rfl | exact Or.inr rfl | exact of_decide_eq_true rfl | exact Path.imp_of (of_decide_eq_true rfl) | (focus ((try simp only [Int.reduceToNat, Int.reduceTDiv, Int.reduceTMod, minL, maxL, pickB, zHB, zSH, InK, Path.imp, zL] at *); omega)) | (refine app_le rfl ?_; omega)))
  refine W.loop (fun i : Nat => ⟨[(1, .st false (.arr (.int .u8) z)), (7, .st true (.sadr (.agg [I64 P, .arr JT l, .arr OT os]))), (10, .st true (.sadr (.agg [I64 P, .arr JT (mirJ l), .arr OT (mirO os)]))), (16, .st true (.narr (.int .i64) (r : List Int))), (17, .lit (.int .i64 (e))), (30, .own 5000), (31, .own 6000), (32, .lit (.int .i64 (i)))], [(5000, .row 3 (.int .i64) true ((upL V i) : List Int)), (6000, .row 3 (.int .i64) true ((upL U i) : List Int))]⟩) (fun i => i ≤ l.length) (fun i => l.length - i) (0) ?_ ?_
  · refine ⟨Nat.zero_le _, ?_⟩
    refine subF.ok ?_ <;> (conv => whnf) <;> repeat' (first
 | exact trivial
 | (with_reducible rfl)
 | ((with_reducible refine And.intro ?_ ?_) <;> conv => whnf)
 | omega
 | rfl
 | (refine congrArg (SV.arr _) ?_)
 | (refine congrArg (Value.int _) ?_)
 | (refine congrArg Value.bool ?_))
    all_goals rfl
  · intro i hi
    have hl5 := hml i
    have hl6 := hmu i
    by_cases hil : i < l.length
    · have q1 := hbd.rg i hil
      have q2 := h.pre.rg i hil
      have q3 := hz i
      have ik : InK .i64 (z.getD i 0) := by simp only [InK]; omega
      have t1 : Int.tmod (z.getD i 0) 4 = z.getD i 0 % 4 := tm q3.1 _
      have t2 : Int.tdiv (z.getD i 0) 4 = z.getD i 0 / 4 := Int.tdiv_eq_ediv_of_nonneg q3.1
      have t3 : Int.tmod (Int.tdiv (z.getD i 0) 4) 24 = z.getD i 0 / 4 % 24 := by rw [t2]; exact tm (by omega) _
      have hu := hu i
      have hw := hw i
      have hUv := hUv i
      have v1 := v1 i
      have v2 := v2 i
      have v3 := v3 i
      rw [← t3] at v1
      rw [← t1] at v1 v2 v3
      have t0 : 0 ≤ Int.tmod (z.getD i 0) 4 ∧ Int.tmod (z.getD i 0) 4 ≤ 3 := by rw [t1]; omega
      have t30 : 0 ≤ Int.tmod (Int.tdiv (z.getD i 0) 4) 24 ∧ Int.tmod (Int.tdiv (z.getD i 0) 4) 24 ≤ 23 := by rw [t3]; omega
      have t20 : 0 ≤ Int.tdiv (z.getD i 0) 4 ∧ Int.tdiv (z.getD i 0) 4 ≤ 63 := by rw [t2]; omega
      clear t1 t2 t3
      by_cases hc : i < z.length ∧ Int.tmod (z.getD i 0) 4 = 0
      · have v1 := v1 hc.1 hc.2
        by_cases hr0 : r = []
        · rw [if_pos hr0] at he
          have hr1 : r.length = 0 := by rw [hr0]; rfl
          have ux : 24 - V i - (l.getD i J0).2.2.1 = U i := hUv
          unfold jf jt jl jp at q1
          unfold jf jt jl at q2
          repeat' (first
 | refine W.seq ?_
 | refine W.block ?_
 | (refine W.resub (x := Code.region 31 _ _) (Γ' := ⟨[(1, .st false (.arr (.int .u8) z)), (7, .st true (.sadr (.agg [I64 P, .arr JT l, .arr OT os]))), (10, .st true (.sadr (.agg [I64 P, .arr JT (mirJ l), .arr OT (mirO os)]))), (16, .st true (.narr (.int .i64) (r : List Int))), (17, .lit (.int .i64 (e))), (30, .own 5000), (31, .own 6000), (32, .lit (.int .i64 (i))), (33, .lit (.int .i64 ((V i))))], [(5000, .row 3 (.int .i64) true ((upL V i) : List Int)), (6000, .row 3 (.int .i64) true ((upL U i) : List Int))]⟩) ?_ (W.drawPh (id := 31) tys_ok [] mixed [0, 0, 2, 5, 0, 0, 32, 0, 128, 0, 768, 1024, 2048, 4160, 8192, 16408, 32783, 131071] [([0, 1, 4, 5, 6, 7, 8, 9, 10, 11, 12, 13], 3, 32767), ([], 1, 65535), ([16, 17], 0, 262143)] (by decide +kernel) ?_); rotate_left; (conv => whnf))
 | (refine W.region tys_ok [] ?_; conv => whnf)
 | (refine W.drawAll tys_ok [] mixed rfl ?_; conv => whnf)
 | (refine W.ret ?_; conv => whnf)
 | (refine W.skip ?_; conv => whnf)
 | (refine W.exit ?_; conv => whnf)
 | (refine Both.mk ?_ ?_ <;> (conv => whnf))
 | (refine W.cond rfl (fun hb => ?_) (fun hb => ?_) <;> (try simp only [Int.reduceToNat, Int.reduceTDiv, Int.reduceTMod, minL, maxL, pickB, zHB, zSH] at hb) <;> (try (first | (cases hb; done) | exact absurd hb (by decide) | (exfalso; omega) | (omega))))
 | ((with_reducible refine And.intro ?_ ?_); (focus (first | (with_reducible rfl) | omega | rfl | ((try simp only [Int.reduceToNat, Int.reduceTDiv, Int.reduceTMod, minL, maxL, pickB, zHB, zSH, InK, Path.imp, zL] at *); omega))); (conv => whnf))
 | ((with_reducible refine And.intro (Side.out ?_) ?_); rotate_left; (conv => whnf))
 | ((first | refine retF1 ?_ | refine retF2 ?_ | refine subF.leaf ?_ | refine subF.side ?_) <;> (conv => whnf) <;> repeat' (first
 | exact trivial
 | (with_reducible rfl)
 | ((with_reducible refine And.intro ?_ ?_) <;> conv => whnf)
 | omega
 | rfl
 | (refine congrArg (SV.arr _) ?_)
 | (refine congrArg (Value.int _) ?_)
 | (refine congrArg Value.bool ?_)))); all_goals (try unfold Side)
          all_goals try (repeat' (first | (with_reducible rfl) | (with_reducible refine And.intro ?_ ?_) | omega | rfl | exact Or.inl rfl | exact Or.inr rfl | exact of_decide_eq_true rfl | exact Path.imp_of (of_decide_eq_true rfl) | (focus ((try simp only [Int.reduceToNat, Int.reduceTDiv, Int.reduceTMod, minL, maxL, pickB, zHB, zSH, InK, Path.imp, zL] at *); omega)) | (refine app_le rfl ?_; omega)))
          all_goals try exact Path.imp_of ik
          all_goals try refine subF.ok ?_ <;> (conv => whnf) <;> repeat' (first
 | exact trivial
 | (with_reducible rfl)
 | ((with_reducible refine And.intro ?_ ?_) <;> conv => whnf)
 | omega
 | rfl
 | (refine congrArg (SV.arr _) ?_)
 | (refine congrArg (Value.int _) ?_)
 | (refine congrArg Value.bool ?_))
          all_goals try exact v1
          all_goals (refine ⟨i + 1, ⟨by omega, by omega⟩, ?_⟩)
          all_goals refine subF.ok ?_ <;> (conv => whnf) <;> repeat' (first
 | exact trivial
 | (with_reducible rfl)
 | ((with_reducible refine And.intro ?_ ?_) <;> conv => whnf)
 | omega
 | rfl
 | (refine congrArg (SV.arr _) ?_)
 | (refine congrArg (Value.int _) ?_)
 | (refine congrArg Value.bool ?_))
          all_goals first | exact hu | exact hw | (rw [ux]; exact hw) | exact (ux ▸ hw)
        · rw [if_neg hr0] at he
          have hr1 := (hr hr0).len
          rw [mir_len] at hr1
          have hr2 := (hr hr0).rg i (by rw [mir_len]; exact hil)
          rw [mir_f hil, mir_t hil, mir_l hil] at hr2
          unfold jf jt jl at hr2
          have ux : 24 - V i - (l.getD i J0).2.2.1 = U i := hUv
          unfold jf jt jl jp at q1
          unfold jf jt jl at q2
          repeat' (first
 | refine W.seq ?_
 | refine W.block ?_
 | (refine W.resub (x := Code.region 31 _ _) (Γ' := ⟨[(1, .st false (.arr (.int .u8) z)), (7, .st true (.sadr (.agg [I64 P, .arr JT l, .arr OT os]))), (10, .st true (.sadr (.agg [I64 P, .arr JT (mirJ l), .arr OT (mirO os)]))), (16, .st true (.narr (.int .i64) (r : List Int))), (17, .lit (.int .i64 (e))), (30, .own 5000), (31, .own 6000), (32, .lit (.int .i64 (i))), (33, .lit (.int .i64 ((V i))))], [(5000, .row 3 (.int .i64) true ((upL V i) : List Int)), (6000, .row 3 (.int .i64) true ((upL U i) : List Int))]⟩) ?_ (W.drawPh (id := 31) tys_ok [] mixed [0, 0, 2, 5, 0, 0, 32, 0, 128, 0, 768, 1024, 2048, 4160, 8192, 16408, 32783, 131071] [([0, 1, 4, 5, 6, 7, 8, 9, 10, 11, 12, 13], 3, 32767), ([], 1, 65535), ([16, 17], 0, 262143)] (by decide +kernel) ?_); rotate_left; (conv => whnf))
 | (refine W.region tys_ok [] ?_; conv => whnf)
 | (refine W.drawAll tys_ok [] mixed rfl ?_; conv => whnf)
 | (refine W.ret ?_; conv => whnf)
 | (refine W.skip ?_; conv => whnf)
 | (refine W.exit ?_; conv => whnf)
 | (refine Both.mk ?_ ?_ <;> (conv => whnf))
 | (refine W.cond rfl (fun hb => ?_) (fun hb => ?_) <;> (try simp only [Int.reduceToNat, Int.reduceTDiv, Int.reduceTMod, minL, maxL, pickB, zHB, zSH] at hb) <;> (try (first | (cases hb; done) | exact absurd hb (by decide) | (exfalso; omega) | (omega))))
 | ((with_reducible refine And.intro ?_ ?_); (focus (first | (with_reducible rfl) | omega | rfl | ((try simp only [Int.reduceToNat, Int.reduceTDiv, Int.reduceTMod, minL, maxL, pickB, zHB, zSH, InK, Path.imp, zL] at *); omega))); (conv => whnf))
 | ((with_reducible refine And.intro (Side.out ?_) ?_); rotate_left; (conv => whnf))
 | ((first | refine retF1 ?_ | refine retF2 ?_ | refine subF.leaf ?_ | refine subF.side ?_) <;> (conv => whnf) <;> repeat' (first
 | exact trivial
 | (with_reducible rfl)
 | ((with_reducible refine And.intro ?_ ?_) <;> conv => whnf)
 | omega
 | rfl
 | (refine congrArg (SV.arr _) ?_)
 | (refine congrArg (Value.int _) ?_)
 | (refine congrArg Value.bool ?_)))); all_goals (try unfold Side)
          all_goals try (repeat' (first | (with_reducible rfl) | (with_reducible refine And.intro ?_ ?_) | omega | rfl | exact Or.inl rfl | exact Or.inr rfl | exact of_decide_eq_true rfl | exact Path.imp_of (of_decide_eq_true rfl) | (focus ((try simp only [Int.reduceToNat, Int.reduceTDiv, Int.reduceTMod, minL, maxL, pickB, zHB, zSH, InK, Path.imp, zL] at *); omega)) | (refine app_le rfl ?_; omega)))
          all_goals try exact Path.imp_of ik
          all_goals try refine subF.ok ?_ <;> (conv => whnf) <;> repeat' (first
 | exact trivial
 | (with_reducible rfl)
 | ((with_reducible refine And.intro ?_ ?_) <;> conv => whnf)
 | omega
 | rfl
 | (refine congrArg (SV.arr _) ?_)
 | (refine congrArg (Value.int _) ?_)
 | (refine congrArg Value.bool ?_))
          all_goals try exact v1
          all_goals (refine ⟨i + 1, ⟨by omega, by omega⟩, ?_⟩)
          all_goals refine subF.ok ?_ <;> (conv => whnf) <;> repeat' (first
 | exact trivial
 | (with_reducible rfl)
 | ((with_reducible refine And.intro ?_ ?_) <;> conv => whnf)
 | omega
 | rfl
 | (refine congrArg (SV.arr _) ?_)
 | (refine congrArg (Value.int _) ?_)
 | (refine congrArg Value.bool ?_))
          all_goals first | exact hu | exact hw | (rw [ux]; exact hw) | exact (ux ▸ hw)
      · by_cases hr0 : r = []
        · rw [if_pos hr0] at he
          have hr1 : r.length = 0 := by rw [hr0]; rfl
          have v2 := v2 hc hr0
          have ux : 24 - V i - (l.getD i J0).2.2.1 = U i := hUv
          unfold jf jt jl jp at q1
          unfold jf jt jl at q2
          unfold jf at v2
          repeat' (first
 | refine W.seq ?_
 | refine W.block ?_
 | (refine W.resub (x := Code.region 31 _ _) (Γ' := ⟨[(1, .st false (.arr (.int .u8) z)), (7, .st true (.sadr (.agg [I64 P, .arr JT l, .arr OT os]))), (10, .st true (.sadr (.agg [I64 P, .arr JT (mirJ l), .arr OT (mirO os)]))), (16, .st true (.narr (.int .i64) (r : List Int))), (17, .lit (.int .i64 (e))), (30, .own 5000), (31, .own 6000), (32, .lit (.int .i64 (i))), (33, .lit (.int .i64 ((V i))))], [(5000, .row 3 (.int .i64) true ((upL V i) : List Int)), (6000, .row 3 (.int .i64) true ((upL U i) : List Int))]⟩) ?_ (W.drawPh (id := 31) tys_ok [] mixed [0, 0, 2, 5, 0, 0, 32, 0, 128, 0, 768, 1024, 2048, 4160, 8192, 16408, 32783, 131071] [([0, 1, 4, 5, 6, 7, 8, 9, 10, 11, 12, 13], 3, 32767), ([], 1, 65535), ([16, 17], 0, 262143)] (by decide +kernel) ?_); rotate_left; (conv => whnf))
 | (refine W.region tys_ok [] ?_; conv => whnf)
 | (refine W.drawAll tys_ok [] mixed rfl ?_; conv => whnf)
 | (refine W.ret ?_; conv => whnf)
 | (refine W.skip ?_; conv => whnf)
 | (refine W.exit ?_; conv => whnf)
 | (refine Both.mk ?_ ?_ <;> (conv => whnf))
 | (refine W.cond rfl (fun hb => ?_) (fun hb => ?_) <;> (try simp only [Int.reduceToNat, Int.reduceTDiv, Int.reduceTMod, minL, maxL, pickB, zHB, zSH] at hb) <;> (try (first | (cases hb; done) | exact absurd hb (by decide) | (exfalso; omega) | (omega))))
 | ((with_reducible refine And.intro ?_ ?_); (focus (first | (with_reducible rfl) | omega | rfl | ((try simp only [Int.reduceToNat, Int.reduceTDiv, Int.reduceTMod, minL, maxL, pickB, zHB, zSH, InK, Path.imp, zL] at *); omega))); (conv => whnf))
 | ((with_reducible refine And.intro (Side.out ?_) ?_); rotate_left; (conv => whnf))
 | ((first | refine retF1 ?_ | refine retF2 ?_ | refine subF.leaf ?_ | refine subF.side ?_) <;> (conv => whnf) <;> repeat' (first
 | exact trivial
 | (with_reducible rfl)
 | ((with_reducible refine And.intro ?_ ?_) <;> conv => whnf)
 | omega
 | rfl
 | (refine congrArg (SV.arr _) ?_)
 | (refine congrArg (Value.int _) ?_)
 | (refine congrArg Value.bool ?_)))); all_goals (try unfold Side)
          all_goals try (repeat' (first | (with_reducible rfl) | (with_reducible refine And.intro ?_ ?_) | omega | rfl | exact Or.inl rfl | exact Or.inr rfl | exact of_decide_eq_true rfl | exact Path.imp_of (of_decide_eq_true rfl) | (focus ((try simp only [Int.reduceToNat, Int.reduceTDiv, Int.reduceTMod, minL, maxL, pickB, zHB, zSH, InK, Path.imp, zL] at *); omega)) | (refine app_le rfl ?_; omega)))
          all_goals try exact Path.imp_of ik
          all_goals try refine subF.ok ?_ <;> (conv => whnf) <;> repeat' (first
 | exact trivial
 | (with_reducible rfl)
 | ((with_reducible refine And.intro ?_ ?_) <;> conv => whnf)
 | omega
 | rfl
 | (refine congrArg (SV.arr _) ?_)
 | (refine congrArg (Value.int _) ?_)
 | (refine congrArg Value.bool ?_))
          all_goals try exact v2
          all_goals (refine ⟨i + 1, ⟨by omega, by omega⟩, ?_⟩)
          all_goals refine subF.ok ?_ <;> (conv => whnf) <;> repeat' (first
 | exact trivial
 | (with_reducible rfl)
 | ((with_reducible refine And.intro ?_ ?_) <;> conv => whnf)
 | omega
 | rfl
 | (refine congrArg (SV.arr _) ?_)
 | (refine congrArg (Value.int _) ?_)
 | (refine congrArg Value.bool ?_))
          all_goals first | exact hu | exact hw | (rw [ux]; exact hw) | exact (ux ▸ hw)
        · rw [if_neg hr0] at he
          have hr1 := (hr hr0).len
          rw [mir_len] at hr1
          have hr2 := (hr hr0).rg i (by rw [mir_len]; exact hil)
          rw [mir_f hil, mir_t hil, mir_l hil] at hr2
          unfold jf jt jl at hr2
          have v3 := v3 hc hr0
          have ux : 24 - V i - (l.getD i J0).2.2.1 = U i := hUv
          unfold jf jt jl jp at q1
          unfold jf jt jl at q2
          unfold jl at v3
          repeat' (first
 | refine W.seq ?_
 | refine W.block ?_
 | (refine W.resub (x := Code.region 31 _ _) (Γ' := ⟨[(1, .st false (.arr (.int .u8) z)), (7, .st true (.sadr (.agg [I64 P, .arr JT l, .arr OT os]))), (10, .st true (.sadr (.agg [I64 P, .arr JT (mirJ l), .arr OT (mirO os)]))), (16, .st true (.narr (.int .i64) (r : List Int))), (17, .lit (.int .i64 (e))), (30, .own 5000), (31, .own 6000), (32, .lit (.int .i64 (i))), (33, .lit (.int .i64 ((V i))))], [(5000, .row 3 (.int .i64) true ((upL V i) : List Int)), (6000, .row 3 (.int .i64) true ((upL U i) : List Int))]⟩) ?_ (W.drawPh (id := 31) tys_ok [] mixed [0, 0, 2, 5, 0, 0, 32, 0, 128, 0, 768, 1024, 2048, 4160, 8192, 16408, 32783, 131071] [([0, 1, 4, 5, 6, 7, 8, 9, 10, 11, 12, 13], 3, 32767), ([], 1, 65535), ([16, 17], 0, 262143)] (by decide +kernel) ?_); rotate_left; (conv => whnf))
 | (refine W.region tys_ok [] ?_; conv => whnf)
 | (refine W.drawAll tys_ok [] mixed rfl ?_; conv => whnf)
 | (refine W.ret ?_; conv => whnf)
 | (refine W.skip ?_; conv => whnf)
 | (refine W.exit ?_; conv => whnf)
 | (refine Both.mk ?_ ?_ <;> (conv => whnf))
 | (refine W.cond rfl (fun hb => ?_) (fun hb => ?_) <;> (try simp only [Int.reduceToNat, Int.reduceTDiv, Int.reduceTMod, minL, maxL, pickB, zHB, zSH] at hb) <;> (try (first | (cases hb; done) | exact absurd hb (by decide) | (exfalso; omega) | (omega))))
 | ((with_reducible refine And.intro ?_ ?_); (focus (first | (with_reducible rfl) | omega | rfl | ((try simp only [Int.reduceToNat, Int.reduceTDiv, Int.reduceTMod, minL, maxL, pickB, zHB, zSH, InK, Path.imp, zL] at *); omega))); (conv => whnf))
 | ((with_reducible refine And.intro (Side.out ?_) ?_); rotate_left; (conv => whnf))
 | ((first | refine retF1 ?_ | refine retF2 ?_ | refine subF.leaf ?_ | refine subF.side ?_) <;> (conv => whnf) <;> repeat' (first
 | exact trivial
 | (with_reducible rfl)
 | ((with_reducible refine And.intro ?_ ?_) <;> conv => whnf)
 | omega
 | rfl
 | (refine congrArg (SV.arr _) ?_)
 | (refine congrArg (Value.int _) ?_)
 | (refine congrArg Value.bool ?_)))); all_goals (try unfold Side)
          all_goals try (repeat' (first | (with_reducible rfl) | (with_reducible refine And.intro ?_ ?_) | omega | rfl | exact Or.inl rfl | exact Or.inr rfl | exact of_decide_eq_true rfl | exact Path.imp_of (of_decide_eq_true rfl) | (focus ((try simp only [Int.reduceToNat, Int.reduceTDiv, Int.reduceTMod, minL, maxL, pickB, zHB, zSH, InK, Path.imp, zL] at *); omega)) | (refine app_le rfl ?_; omega)))
          all_goals try exact Path.imp_of ik
          all_goals try refine subF.ok ?_ <;> (conv => whnf) <;> repeat' (first
 | exact trivial
 | (with_reducible rfl)
 | ((with_reducible refine And.intro ?_ ?_) <;> conv => whnf)
 | omega
 | rfl
 | (refine congrArg (SV.arr _) ?_)
 | (refine congrArg (Value.int _) ?_)
 | (refine congrArg Value.bool ?_))
          all_goals try exact v3
          all_goals (refine ⟨i + 1, ⟨by omega, by omega⟩, ?_⟩)
          all_goals refine subF.ok ?_ <;> (conv => whnf) <;> repeat' (first
 | exact trivial
 | (with_reducible rfl)
 | ((with_reducible refine And.intro ?_ ?_) <;> conv => whnf)
 | omega
 | rfl
 | (refine congrArg (SV.arr _) ?_)
 | (refine congrArg (Value.int _) ?_)
 | (refine congrArg Value.bool ?_))
          all_goals first | exact hu | exact hw | (rw [ux]; exact hw) | exact (ux ▸ hw)
    · have hie : l.length = i := by omega
      subst hie
      repeat' (first
 | refine W.seq ?_
 | refine W.block ?_
 | (refine W.resub (x := Code.region 32 _ _) (Γ' := ⟨[(1, .st false (.arr (.int .u8) z)), (7, .st true (.sadr (.agg [I64 P, .arr JT l, .arr OT os]))), (10, .st true (.sadr (.agg [I64 P, .arr JT (mirJ l), .arr OT (mirO os)]))), (16, .st true (.narr (.int .i64) (r : List Int))), (17, .lit (.int .i64 (e))), (30, .st true (.arr (.int .i64) (upL V l.length : List Int))), (31, .st true (.arr (.int .i64) (upL U l.length : List Int)))], []⟩) ?_ (W.region tys_ok [] ?_); rotate_left; (conv => whnf))
 | (refine W.region tys_ok [] ?_; conv => whnf)
 | (refine W.drawAll tys_ok [] mixed rfl ?_; conv => whnf)
 | (refine W.ret ?_; conv => whnf)
 | (refine W.skip ?_; conv => whnf)
 | (refine W.exit ?_; conv => whnf)
 | (refine call_at (al := false) (f1) rfl rfl rfl rfl ?_; conv => whnf)
 | (refine call_at (al := false) (f2) rfl rfl rfl rfl ?_; conv => whnf)
 | (refine W.cond rfl (fun hb => ?_) (fun hb => ?_) <;> (try simp only [Int.reduceToNat, Int.reduceTDiv, Int.reduceTMod, minL, maxL, pickB, zHB, zSH] at hb) <;> (try (first | (cases hb; done) | exact absurd hb (by decide) | (exfalso; omega) | (omega))))
 | ((with_reducible refine And.intro ?_ ?_); (focus (first | (with_reducible rfl) | omega | rfl | ((try simp only [Int.reduceToNat, Int.reduceTDiv, Int.reduceTMod, minL, maxL, pickB, zHB, zSH, InK, Path.imp, zL] at *); omega))); (conv => whnf))
 | ((with_reducible refine And.intro (Side.out ?_) ?_); rotate_left; (conv => whnf))
 | ((first | refine retF1 ?_ | refine retF2 ?_) <;> (conv => whnf) <;> repeat' (first
 | exact trivial
 | (with_reducible rfl)
 | ((with_reducible refine And.intro ?_ ?_) <;> conv => whnf)
 | omega
 | rfl
 | (refine congrArg (SV.arr _) ?_)
 | (refine congrArg (Value.int _) ?_)
 | (refine congrArg Value.bool ?_)))); all_goals (try unfold Side)
      all_goals try (repeat' (first | (with_reducible rfl) | (with_reducible refine And.intro ?_ ?_) | omega | rfl | exact Or.inl rfl | exact Or.inr rfl | exact of_decide_eq_true rfl | exact Path.imp_of (of_decide_eq_true rfl) | (focus ((try simp only [Int.reduceToNat, Int.reduceTDiv, Int.reduceTMod, minL, maxL, pickB, zHB, zSH, InK, Path.imp, zL] at *); omega)) | (refine app_le rfl ?_; omega)))
      all_goals try refine subF.ok ?_ <;> (conv => whnf) <;> repeat' (first
 | exact trivial
 | (with_reducible rfl)
 | ((with_reducible refine And.intro ?_ ?_) <;> conv => whnf)
 | omega
 | rfl
 | (refine congrArg (SV.arr _) ?_)
 | (refine congrArg (Value.int _) ?_)
 | (refine congrArg Value.bool ?_))
      all_goals simp [pickB]
theorem first_mir {P : Int} {l : List Jb} {os : List Od} (h : VS P l os) : (if firstT P l os = [] then (5 : Int) else 0) = if firstT P (mirJ l) (mirO os) = [] then 5 else 0 := by
  have hm := mir_no (P := P) h
  rcases first_spec h with ⟨a1, a2⟩ | ⟨a1, a2, _⟩ <;> rcases first_spec (mir_vs h) with ⟨b1, b2⟩ | ⟨b1, b2, _⟩
  · rw [if_pos a1, if_pos b1]
  · exact absurd b2 (hm.1 a2 _)
  · exact absurd a2 (hm.2 b2 _)
  · rw [if_neg a1, if_neg b1]
set_option maxHeartbeats 16000000 in
theorem mir2_at {P : Int} {l : List Jb} {os : List Od} (h : VS P l os) {z : List Int} (hz : sm1 z) {a b : Int} (ha : 0 ≤ a ∧ a ≤ 255) (hb : 0 ≤ b ∧ b ≤ 255) :
    W Try.prog 267 (sfx 5 (bodyOf Try.f14)) ⟨[(1, .st false (.arr (.int .u8) z)), (7, .st true (.sadr (.agg [I64 P, .arr JT l, .arr OT os]))), (8, .lit (.int .u8 a)), (9, .lit (.int .u8 b)), (10, .st true (.sadr (.agg [I64 P, .arr JT (mirJ l), .arr OT (mirO os)])))], []⟩ (bodyQ tys [.tmp 6] (.lit (.bool true)) []) := by
  -- func14 (by rfl)
  have h' := mir_vs h
  have c1 := First_at h
  have c2 := First_at h'
  rw [first_mir h] at c1
  obtain ⟨r0, hr0⟩ : ∃ r0, r0 = firstT P l os := ⟨_, rfl⟩
  rw [← hr0] at c1
  have hsp := first_spec h'
  obtain ⟨r, hr⟩ : ∃ r, r = firstT P (mirJ l) (mirO os) := ⟨_, rfl⟩
  rw [← hr] at c1 c2 hsp
  obtain ⟨e, he⟩ : ∃ e : Int, e = if r = [] then 5 else 0 := ⟨_, rfl⟩
  rw [← he] at c1 c2
  have m3 := mir3_at h he (fun hn => by rcases hsp with ⟨q1, _⟩ | ⟨_, q2, _⟩; exact absurd q1 hn; exact q2) hz
  clear hr0 hr hsp
  obtain ⟨f, hf⟩ : ∃ f : Nat, (f : Int) = a % 24 := ⟨(a % 24).toNat, by omega⟩
  obtain ⟨d, hd⟩ : ∃ d : Nat, (d : Int) = b % (24 - (f : Int)) := ⟨(b % (24 - (f : Int))).toNat, by have := Int.emod_nonneg b (b := 24 - (f : Int)) (by omega); omega⟩
  have hfl : f < 24 := by omega
  have hdl : f + d < 24 := by have := Int.emod_lt_of_pos b (b := 24 - (f : Int)) (by omega); omega
  have ea : Int.tmod a 24 = f := by rw [tm ha.1, hf]
  have eb : Int.tmod b (24 - (f : Int)) = d := by rw [tm hb.1, hd]
  have eab : Int.tmod b (24 - Int.tmod a 24) = d := by rw [ea, eb]
  have hn := Needs_ok (P := P) (l := l) (os := os) (a := f) (b := (f : Int) + 1 + d) h (by omega)
  have hn' := Needs_ok (P := P) (l := mirJ l) (os := mirO os) (a := 24 - ((f : Int) + 1 + d)) (b := 24 - (f : Int)) h' (by omega)
  rw [mir_needs] at hn'
  obtain ⟨N, hN⟩ : ∃ N, N = needsT l f ((f : Int) + 1 + d) := ⟨_, rfl⟩
  rw [← hN] at hn hn'
  have ik1 : InK .i64 a := by simp only [InK]; omega
  have ik2 : InK .i64 b := by simp only [InK]; omega
  have hov := ovB_mir (P := P) (l := l)
  unfold bodyOf Try.f14
  dsimp only [sfx]
  cases eo : ovB P l with
  | true =>
    rw [eo] at hov
    have o1 := Overfull_yes h eo
    have o2 := Overfull_yes h' hov
    repeat' (first
 | refine W.resub (x := Code.seq (Code.region 22 _ _) _) ?_ (m3)
 | refine W.seq ?_
 | refine W.block ?_
 | (refine W.resub (x := Code.region 18 _ _) (Γ' := ⟨[(1, .st false (.arr (.int .u8) z)), (7, .st true (.sadr (.agg [I64 P, .arr JT l, .arr OT os]))), (10, .st true (.sadr (.agg [I64 P, .arr JT (mirJ l), .arr OT (mirO os)]))), (15, .lit (.int .i64 (e))), (16, .st true (.narr (.int .i64) (r : List Int))), (17, .lit (.int .i64 (e))), (20, .lit (.int .i64 (0))), (23, .lit (.int .i64 (0))), (24, .lit (.int .i64 (f))), (25, .lit (.int .i64 (((f : Int) + 1 + d))))], []⟩) ?_ (W.region tys_ok [] ?_); rotate_left; (conv => whnf))
 | (refine W.resub (x := Code.region 20 _ _) (Γ' := ⟨[(1, .st false (.arr (.int .u8) z)), (7, .st true (.sadr (.agg [I64 P, .arr JT l, .arr OT os]))), (10, .st true (.sadr (.agg [I64 P, .arr JT (mirJ l), .arr OT (mirO os)]))), (15, .lit (.int .i64 (e))), (16, .st true (.narr (.int .i64) (r : List Int))), (17, .lit (.int .i64 (e))), (20, .lit (.int .i64 (0))), (23, .lit (.int .i64 (0))), (26, .lit (.int .i64 (N))), (27, .lit (.int .i64 (0))), (28, .lit (.int .i64 (N))), (29, .lit (.int .i64 (0)))], []⟩) ?_ (W.drawPh (id := 20) tys_ok [] mixed [0, 0, 3, 4, 8, 8, 56, 72, 136, 256, 768, 1280, 2304, 4096, 12288, 20480, 36864, 65536, 65536, 458752, 589824, 1114112, 2097152, 6291456, 10485760] [([0, 1, 2, 3, 4, 5, 6, 7, 8, 9, 10, 11, 12, 13, 14, 15, 16, 17, 18, 19, 20, 21], 1, 8388607), ([23, 24], 0, 33554431)] (by decide +kernel) ?_); rotate_left; (conv => whnf))
 | (refine W.region tys_ok [] ?_; conv => whnf)
 | (refine W.drawAll tys_ok [] mixed rfl ?_; conv => whnf)
 | (refine W.ret ?_; conv => whnf)
 | (refine W.skip ?_; conv => whnf)
 | (refine W.exit ?_; conv => whnf)
 | (refine call_at (al := true) (c1) rfl rfl rfl rfl ?_; conv => whnf)
 | (refine call_at (al := true) (c2) rfl rfl rfl rfl ?_; conv => whnf)
 | (refine call_at (al := false) (o1) rfl rfl rfl rfl ?_; conv => whnf)
 | (refine call_at (al := false) (o2) rfl rfl rfl rfl ?_; conv => whnf)
 | (refine call_at (al := false) (hn) rfl rfl rfl rfl ?_; conv => whnf)
 | (refine call_at (al := false) (hn') rfl rfl rfl rfl ?_; conv => whnf)
 | (refine call_at (al := false) (lives_at) rfl rfl rfl rfl ?_; conv => whnf)
 | (refine Both.mk ?_ ?_ <;> (conv => whnf))
 | (refine W.cond rfl (fun hb => ?_) (fun hb => ?_) <;> (try simp only [Int.reduceToNat, Int.reduceTDiv, Int.reduceTMod, minL, maxL, pickB, zHB, zSH] at hb) <;> (try (first | (cases hb; done) | exact absurd hb (by decide) | (exfalso; omega) | (omega))))
 | ((with_reducible refine And.intro ?_ ?_); (focus (first | (with_reducible rfl) | omega | rfl | ((try simp only [Int.reduceToNat, Int.reduceTDiv, Int.reduceTMod, minL, maxL, pickB, zHB, zSH, InK, Path.imp, zL] at *); omega))); (conv => whnf))
 | ((with_reducible refine And.intro (Side.out ?_) ?_); rotate_left; (conv => whnf))
 | ((first | refine retF1 ?_ | refine retF2 ?_ | refine subF.leaf ?_ | refine subF.side ?_) <;> (conv => whnf) <;> repeat' (first
 | exact trivial
 | (with_reducible rfl)
 | ((with_reducible refine And.intro ?_ ?_) <;> conv => whnf)
 | omega
 | rfl
 | (refine congrArg (SV.arr _) ?_)
 | (refine congrArg (Value.int _) ?_)
 | (refine congrArg Value.bool ?_)))); all_goals (try unfold Side)
    all_goals try (repeat' (first | (with_reducible rfl) | (with_reducible refine And.intro ?_ ?_) | omega | rfl | exact Or.inl rfl | exact Or.inr rfl | exact of_decide_eq_true rfl | exact Path.imp_of (of_decide_eq_true rfl) | (focus ((try simp only [Int.reduceToNat, Int.reduceTDiv, Int.reduceTMod, minL, maxL, pickB, zHB, zSH, InK, Path.imp, zL] at *); omega)) | (refine app_le rfl ?_; omega)))
    all_goals try (first | exact Path.imp_of ik1 | exact Path.imp_of ik2)
    all_goals try refine subF.ok ?_ <;> (conv => whnf) <;> repeat' (first
 | exact trivial
 | (with_reducible rfl)
 | ((with_reducible refine And.intro ?_ ?_) <;> conv => whnf)
 | omega
 | rfl
 | (refine congrArg (SV.arr _) ?_)
 | (refine congrArg (Value.int _) ?_)
 | (refine congrArg Value.bool ?_))
  | false =>
    rw [eo] at hov
    have o1 := Overfull_none h eo
    have o2 := Overfull_none h' hov
    repeat' (first
 | refine W.resub (x := Code.seq (Code.region 22 _ _) _) ?_ (m3)
 | refine W.seq ?_
 | refine W.block ?_
 | (refine W.resub (x := Code.region 18 _ _) (Γ' := ⟨[(1, .st false (.arr (.int .u8) z)), (7, .st true (.sadr (.agg [I64 P, .arr JT l, .arr OT os]))), (10, .st true (.sadr (.agg [I64 P, .arr JT (mirJ l), .arr OT (mirO os)]))), (15, .lit (.int .i64 (e))), (16, .st true (.narr (.int .i64) (r : List Int))), (17, .lit (.int .i64 (e))), (20, .lit (.int .i64 (5))), (23, .lit (.int .i64 (5))), (24, .lit (.int .i64 (f))), (25, .lit (.int .i64 (((f : Int) + 1 + d))))], []⟩) ?_ (W.region tys_ok [] ?_); rotate_left; (conv => whnf))
 | (refine W.resub (x := Code.region 20 _ _) (Γ' := ⟨[(1, .st false (.arr (.int .u8) z)), (7, .st true (.sadr (.agg [I64 P, .arr JT l, .arr OT os]))), (10, .st true (.sadr (.agg [I64 P, .arr JT (mirJ l), .arr OT (mirO os)]))), (15, .lit (.int .i64 (e))), (16, .st true (.narr (.int .i64) (r : List Int))), (17, .lit (.int .i64 (e))), (20, .lit (.int .i64 (5))), (23, .lit (.int .i64 (5))), (26, .lit (.int .i64 (N))), (27, .lit (.int .i64 (0))), (28, .lit (.int .i64 (N))), (29, .lit (.int .i64 (0)))], []⟩) ?_ (W.drawPh (id := 20) tys_ok [] mixed [0, 0, 3, 4, 8, 8, 56, 72, 136, 256, 768, 1280, 2304, 4096, 12288, 20480, 36864, 65536, 65536, 458752, 589824, 1114112, 2097152, 6291456, 10485760] [([0, 1, 2, 3, 4, 5, 6, 7, 8, 9, 10, 11, 12, 13, 14, 15, 16, 17, 18, 19, 20, 21], 1, 8388607), ([23, 24], 0, 33554431)] (by decide +kernel) ?_); rotate_left; (conv => whnf))
 | (refine W.region tys_ok [] ?_; conv => whnf)
 | (refine W.drawAll tys_ok [] mixed rfl ?_; conv => whnf)
 | (refine W.ret ?_; conv => whnf)
 | (refine W.skip ?_; conv => whnf)
 | (refine W.exit ?_; conv => whnf)
 | (refine call_at (al := true) (c1) rfl rfl rfl rfl ?_; conv => whnf)
 | (refine call_at (al := true) (c2) rfl rfl rfl rfl ?_; conv => whnf)
 | (refine call_at (al := false) (o1) rfl rfl rfl rfl ?_; conv => whnf)
 | (refine call_at (al := false) (o2) rfl rfl rfl rfl ?_; conv => whnf)
 | (refine call_at (al := false) (hn) rfl rfl rfl rfl ?_; conv => whnf)
 | (refine call_at (al := false) (hn') rfl rfl rfl rfl ?_; conv => whnf)
 | (refine call_at (al := false) (lives_at) rfl rfl rfl rfl ?_; conv => whnf)
 | (refine Both.mk ?_ ?_ <;> (conv => whnf))
 | (refine W.cond rfl (fun hb => ?_) (fun hb => ?_) <;> (try simp only [Int.reduceToNat, Int.reduceTDiv, Int.reduceTMod, minL, maxL, pickB, zHB, zSH] at hb) <;> (try (first | (cases hb; done) | exact absurd hb (by decide) | (exfalso; omega) | (omega))))
 | ((with_reducible refine And.intro ?_ ?_); (focus (first | (with_reducible rfl) | omega | rfl | ((try simp only [Int.reduceToNat, Int.reduceTDiv, Int.reduceTMod, minL, maxL, pickB, zHB, zSH, InK, Path.imp, zL] at *); omega))); (conv => whnf))
 | ((with_reducible refine And.intro (Side.out ?_) ?_); rotate_left; (conv => whnf))
 | ((first | refine retF1 ?_ | refine retF2 ?_ | refine subF.leaf ?_ | refine subF.side ?_) <;> (conv => whnf) <;> repeat' (first
 | exact trivial
 | (with_reducible rfl)
 | ((with_reducible refine And.intro ?_ ?_) <;> conv => whnf)
 | omega
 | rfl
 | (refine congrArg (SV.arr _) ?_)
 | (refine congrArg (Value.int _) ?_)
 | (refine congrArg Value.bool ?_)))); all_goals (try unfold Side)
    all_goals try (repeat' (first | (with_reducible rfl) | (with_reducible refine And.intro ?_ ?_) | omega | rfl | exact Or.inl rfl | exact Or.inr rfl | exact of_decide_eq_true rfl | exact Path.imp_of (of_decide_eq_true rfl) | (focus ((try simp only [Int.reduceToNat, Int.reduceTDiv, Int.reduceTMod, minL, maxL, pickB, zHB, zSH, InK, Path.imp, zL] at *); omega)) | (refine app_le rfl ?_; omega)))
    all_goals try (first | exact Path.imp_of ik1 | exact Path.imp_of ik2)
    all_goals try refine subF.ok ?_ <;> (conv => whnf) <;> repeat' (first
 | exact trivial
 | (with_reducible rfl)
 | ((with_reducible refine And.intro ?_ ?_) <;> conv => whnf)
 | omega
 | rfl
 | (refine congrArg (SV.arr _) ?_)
 | (refine congrArg (Value.int _) ?_)
 | (refine congrArg Value.bool ?_))
set_option maxHeartbeats 16000000 in
theorem ShaftMirror_at {p a b : Int} {x : List Jb} {y : List Od} {z : List Int} (hp : 0 ≤ p ∧ p ≤ 255) (hx : sm4 x) (hy : sm2 y) (hz : sm1 z) (ha : 0 ≤ a ∧ a ≤ 255) (hb : 0 ≤ b ∧ b ≤ 255) : FnAt Try.prog false 14 [.agg [.lit (.int .u8 p), .arr U4 x, .arr U2 y], .arr (.int .u8) z, .agg [.lit (.int .u8 a), .lit (.int .u8 b)]] (.lit (.bool true)) [] := by
  obtain ⟨P, hP⟩ : ∃ P, P = p % 6 + 1 := ⟨_, rfl⟩
  obtain ⟨l, hl⟩ : ∃ l, l = mkJs x := ⟨_, rfl⟩
  obtain ⟨os, hos⟩ : ∃ os, os = mkOs l.length y := ⟨_, rfl⟩
  obtain ⟨h, hP6, hmk⟩ := made_eq hp hx hy hP hl hos
  clear hP hl hos
  have m2 := mir2_at h hz ha hb
  have hlj : @List.length JT.T l = l.length := rfl
  have hlo : @List.length OT.T os = os.length := rfl
  have hl6 := h.ln
  have ho6 := h.lo
  have hbd := bd_of h
  refine FnAt.of_body tys_ok Try.func14 (by rfl) rfl Try.ntmps14 (by rw [Try.results14]) (by simp) ?_
  
  repeat' (first
 | refine W.seq ?_
 | refine W.block ?_
 | (refine W.resub (x := Code.region 1 _ _) (Γ' := ⟨[(1, .st false (.arr (.int .u8) z)), (3, .st false (.sadr (.agg [.lit (.int .u8 p), .arr U4 x, .arr U2 y]))), (5, .st false (.sadr (.agg [.lit (.int .u8 a), .lit (.int .u8 b)])))], []⟩) ?_ ?_; rotate_left; refine W.drawPhTo (id := 1) tys_ok [] mixed [0, 1, 0, 4, 0, 16, 0, 67, 207, 511] [([2, 3, 4, 5], 3, 127), ([], 1, 255), ([8, 9], 0, 1023)] ⟨[(1, .st false (.arr (.int .u8) z)), (7, .st true (.sadr (.agg [I64 P, .arr JT l, .arr OT os]))), (8, .lit (.int .u8 a)), (9, .lit (.int .u8 b))], []⟩ (by decide +kernel) ?_ ?_; (conv => whnf); rotate_left; (conv => whnf))
 | (refine W.region tys_ok [] ?_; conv => whnf)
 | (refine W.drawAll tys_ok [] mixed rfl ?_; conv => whnf)
 | (refine W.ret ?_; conv => whnf)
 | (refine W.skip ?_; conv => whnf)
 | (refine W.exit ?_; conv => whnf)
 | (refine call_at (al := false) (hmk) rfl rfl rfl rfl ?_; conv => whnf)
 | (refine Both.mk ?_ ?_ <;> (conv => whnf))
 | (refine W.cond rfl (fun hb => ?_) (fun hb => ?_) <;> (try simp only [Int.reduceToNat, Int.reduceTDiv, Int.reduceTMod, minL, maxL, pickB, zHB, zSH] at hb) <;> (try (first | (cases hb; done) | exact absurd hb (by decide) | (exfalso; omega))))
 | ((with_reducible refine And.intro ?_ ?_); (focus (first | (with_reducible rfl) | omega | rfl | ((try simp only [Int.reduceToNat, Int.reduceTDiv, Int.reduceTMod, minL, maxL, pickB, zHB, zSH, InK, Path.imp, zL] at *); omega))); (conv => whnf))
 | ((with_reducible refine And.intro (Side.out ?_) ?_); rotate_left; (conv => whnf))
 | ((first | refine retF1 ?_ | refine retF2 ?_ | refine subF.leaf ?_ | refine subF.side ?_) <;> (conv => whnf) <;> repeat' (first
 | exact trivial
 | (with_reducible rfl)
 | ((with_reducible refine And.intro ?_ ?_) <;> conv => whnf)
 | omega
 | rfl
 | (refine congrArg (SV.arr _) ?_)
 | (refine congrArg (Value.int _) ?_)
 | (refine congrArg Value.bool ?_)))); all_goals (try unfold Side)
  all_goals try (repeat' (first | (with_reducible rfl) | (with_reducible refine And.intro ?_ ?_) | omega | rfl | exact Or.inl rfl | exact Or.inr rfl | exact of_decide_eq_true rfl | exact Path.imp_of (of_decide_eq_true rfl) | (focus ((try simp only [Int.reduceToNat, Int.reduceTDiv, Int.reduceTMod, minL, maxL, pickB, zHB, zSH, InK, Path.imp, zL] at *); omega)) | (refine app_le rfl ?_; omega)))
  all_goals try refine subF.ok ?_ <;> (conv => whnf) <;> repeat' (first
 | exact trivial
 | (with_reducible rfl)
 | ((with_reducible refine And.intro ?_ ?_) <;> conv => whnf)
 | omega
 | rfl
 | (refine congrArg (SV.arr _) ?_)
 | (refine congrArg (Value.int _) ?_)
 | (refine congrArg Value.bool ?_))
  refine W.loop (fun i : Nat => ⟨[(1, .st false (.arr (.int .u8) z)), (7, .st true (.sadr (.agg [I64 P, .arr JT l, .arr OT os]))), (8, .lit (.int .u8 a)), (9, .lit (.int .u8 b)), (10, .padr 11000 0), (11, .lit (.int .i64 (i)))], [(11000, .box [.lit (.int .i64 P), .own 5000, .lit (.slice none 0 0)]), (5000, .row 45 JT true ((mirJ l).take i))]⟩) (fun i => i ≤ l.length) (fun i => l.length - i) (0) ?_ ?_
  · refine ⟨Nat.zero_le _, ?_⟩
    refine subF.ok ?_ <;> (conv => whnf) <;> repeat' (first
 | exact trivial
 | (with_reducible rfl)
 | ((with_reducible refine And.intro ?_ ?_) <;> conv => whnf)
 | omega
 | rfl
 | (refine congrArg (SV.arr _) ?_)
 | (refine congrArg (Value.int _) ?_)
 | (refine congrArg Value.bool ?_))
    all_goals rfl
  · intro i hi
    have hll : @List.length JT.T ((mirJ l).take i) = i := by show ((mirJ l).take i).length = i; rw [List.length_take, mir_len]; omega
    by_cases hil : i < l.length
    · have q1 := hbd.rg i hil
      have hst : (mirJ l).take i ++ [(24 - jt l i, 24 - jf l i, jl l i, jp l i, ())] = (mirJ l).take (i + 1) := take_step (d := J0) (by rw [mir_len]; exact hil) (mir_get hil)
      unfold jf jt jl jp at q1
      repeat' (first
 | refine W.seq ?_
 | refine W.block ?_
 | (refine W.region tys_ok [] ?_; conv => whnf)
 | (refine W.drawAll tys_ok [] mixed rfl ?_; conv => whnf)
 | (refine W.ret ?_; conv => whnf)
 | (refine W.skip ?_; conv => whnf)
 | (refine W.exit ?_; conv => whnf)
 | (refine W.cond rfl (fun hb => ?_) (fun hb => ?_) <;> (try simp only [Int.reduceToNat, Int.reduceTDiv, Int.reduceTMod, minL, maxL, pickB, zHB, zSH] at hb) <;> (try (first | (cases hb; done) | exact absurd hb (by decide) | (exfalso; omega) | (omega))))
 | ((with_reducible refine And.intro ?_ ?_); (focus (first | (with_reducible rfl) | omega | rfl | ((try simp only [Int.reduceToNat, Int.reduceTDiv, Int.reduceTMod, minL, maxL, pickB, zHB, zSH, InK, Path.imp, zL] at *); omega))); (conv => whnf))
 | ((with_reducible refine And.intro (Side.out ?_) ?_); rotate_left; (conv => whnf))
 | ((first | refine retF1 ?_ | refine retF2 ?_) <;> (conv => whnf) <;> repeat' (first
 | exact trivial
 | (with_reducible rfl)
 | ((with_reducible refine And.intro ?_ ?_) <;> conv => whnf)
 | omega
 | rfl
 | (refine congrArg (SV.arr _) ?_)
 | (refine congrArg (Value.int _) ?_)
 | (refine congrArg Value.bool ?_)))); all_goals (try unfold Side)
      all_goals try (repeat' (first | (with_reducible rfl) | (with_reducible refine And.intro ?_ ?_) | omega | rfl | exact Or.inl rfl | exact Or.inr rfl | exact of_decide_eq_true rfl | exact Path.imp_of (of_decide_eq_true rfl) | (focus ((try simp only [Int.reduceToNat, Int.reduceTDiv, Int.reduceTMod, minL, maxL, pickB, zHB, zSH, InK, Path.imp, zL] at *); omega)) | (refine app_le rfl ?_; omega)))
      refine ⟨i + 1, ⟨by omega, by omega⟩, ?_⟩
      refine subF.ok ?_ <;> (conv => whnf) <;> repeat' (first
 | exact trivial
 | (with_reducible rfl)
 | ((with_reducible refine And.intro ?_ ?_) <;> conv => whnf)
 | omega
 | rfl
 | (refine congrArg (SV.arr _) ?_)
 | (refine congrArg (Value.int _) ?_)
 | (refine congrArg Value.bool ?_))
      all_goals exact hst
    · have hie : l.length = i := by omega
      subst hie
      have hta : (mirJ l).take l.length = mirJ l := by rw [← mir_len (l := l), List.take_length]
      repeat' (first
 | refine W.seq ?_
 | refine W.block ?_
 | (refine W.region tys_ok [] ?_; conv => whnf)
 | (refine W.drawAll tys_ok [] mixed rfl ?_; conv => whnf)
 | (refine W.ret ?_; conv => whnf)
 | (refine W.skip ?_; conv => whnf)
 | (refine W.exit ?_; conv => whnf)
 | (refine W.cond rfl (fun hb => ?_) (fun hb => ?_) <;> (try simp only [Int.reduceToNat, Int.reduceTDiv, Int.reduceTMod, minL, maxL, pickB, zHB, zSH] at hb) <;> (try (first | (cases hb; done) | exact absurd hb (by decide) | (exfalso; omega))))
 | ((with_reducible refine And.intro ?_ ?_); (focus (first | (with_reducible rfl) | omega | rfl | ((try simp only [Int.reduceToNat, Int.reduceTDiv, Int.reduceTMod, minL, maxL, pickB, zHB, zSH, InK, Path.imp, zL] at *); omega))); (conv => whnf))
 | ((with_reducible refine And.intro (Side.out ?_) ?_); rotate_left; (conv => whnf))
 | ((first | refine retF1 ?_ | refine retF2 ?_) <;> (conv => whnf) <;> repeat' (first
 | exact trivial
 | (with_reducible rfl)
 | ((with_reducible refine And.intro ?_ ?_) <;> conv => whnf)
 | omega
 | rfl
 | (refine congrArg (SV.arr _) ?_)
 | (refine congrArg (Value.int _) ?_)
 | (refine congrArg Value.bool ?_)))); all_goals (try unfold Side)
      all_goals try (repeat' (first | (with_reducible rfl) | (with_reducible refine And.intro ?_ ?_) | omega | rfl | exact Or.inl rfl | exact Or.inr rfl | exact of_decide_eq_true rfl | exact Path.imp_of (of_decide_eq_true rfl) | (focus ((try simp only [Int.reduceToNat, Int.reduceTDiv, Int.reduceTMod, minL, maxL, pickB, zHB, zSH, InK, Path.imp, zL] at *); omega)) | (refine app_le rfl ?_; omega)))
      refine W.loop (fun i : Nat => ⟨[(1, .st false (.arr (.int .u8) z)), (7, .st true (.sadr (.agg [I64 P, .arr JT l, .arr OT os]))), (8, .lit (.int .u8 a)), (9, .lit (.int .u8 b)), (10, .padr 11000 0), (13, .lit (.int .i64 (i)))], [(11000, .box [.lit (.int .i64 P), .own 5000, .own 6000]), (5000, .row 45 JT true (mirJ l)), (6000, .row 79 OT true ((mirO os).take i))]⟩) (fun i => i ≤ os.length) (fun i => os.length - i) (0) ?_ ?_
      · refine ⟨Nat.zero_le _, ?_⟩
        refine subF.ok ?_ <;> (conv => whnf) <;> repeat' (first
 | exact trivial
 | (with_reducible rfl)
 | ((with_reducible refine And.intro ?_ ?_) <;> conv => whnf)
 | omega
 | rfl
 | (refine congrArg (SV.arr _) ?_)
 | (refine congrArg (Value.int _) ?_)
 | (refine congrArg Value.bool ?_))
        all_goals first | exact hta | rfl
      · intro i hi
        have hll : @List.length OT.T ((mirO os).take i) = i := by show ((mirO os).take i).length = i; rw [List.length_take, mirO_len]; omega
        by_cases hil : i < os.length
        · have hst : (mirO os).take i ++ [((os.getD i O0).2.1, (os.getD i O0).1, ())] = (mirO os).take (i + 1) := take_step (d := O0) (by rw [mirO_len]; exact hil) (mirO_get hil)
          repeat' (first
 | refine W.seq ?_
 | refine W.block ?_
 | (refine W.drawPhTo (id := 11) tys_ok [] mixed [0, 1, 0, 4, 0, 24, 32, 64, 0, 256, 0, 1536, 2048, 4096, 8320, 16384, 32770, 131071, 262143] [([0, 2, 3, 4, 5, 6, 7, 8, 9, 10, 11, 12, 13], 3, 65535), ([], 1, 131071), ([17], 1, 524287)] ⟨[(1, .st false (.arr (.int .u8) z)), (7, .st true (.sadr (.agg [I64 P, .arr JT l, .arr OT os]))), (8, .lit (.int .u8 a)), (9, .lit (.int .u8 b)), (10, .padr 11000 0), (13, .lit (.int .i64 (i)))], [(11000, .box [.lit (.int .i64 P), .own 5000, .own 6000]), (5000, .row 45 JT true (mirJ l)), (6000, .row 79 OT true ((mirO os).take (i + 1)))]⟩ (by decide +kernel) ?_ ?_ <;> (conv => whnf))
 | (refine W.region tys_ok [] ?_; conv => whnf)
 | (refine W.drawAll tys_ok [] mixed rfl ?_; conv => whnf)
 | (refine W.ret ?_; conv => whnf)
 | (refine W.skip ?_; conv => whnf)
 | (refine W.exit ?_; conv => whnf)
 | (refine Both.mk ?_ ?_ <;> (conv => whnf))
 | (refine W.cond rfl (fun hb => ?_) (fun hb => ?_) <;> (try simp only [Int.reduceToNat, Int.reduceTDiv, Int.reduceTMod, minL, maxL, pickB, zHB, zSH] at hb) <;> (try (first | (cases hb; done) | exact absurd hb (by decide) | (exfalso; omega) | (omega))))
 | ((with_reducible refine And.intro ?_ ?_); (focus (first | (with_reducible rfl) | omega | rfl | ((try simp only [Int.reduceToNat, Int.reduceTDiv, Int.reduceTMod, minL, maxL, pickB, zHB, zSH, InK, Path.imp, zL] at *); omega))); (conv => whnf))
 | ((with_reducible refine And.intro (Side.out ?_) ?_); rotate_left; (conv => whnf))
 | ((first | refine retF1 ?_ | refine retF2 ?_ | refine subF.leaf ?_ | refine subF.side ?_) <;> (conv => whnf) <;> repeat' (first
 | exact trivial
 | (with_reducible rfl)
 | ((with_reducible refine And.intro ?_ ?_) <;> conv => whnf)
 | omega
 | rfl
 | (refine congrArg (SV.arr _) ?_)
 | (refine congrArg (Value.int _) ?_)
 | (refine congrArg Value.bool ?_)))); all_goals (try unfold Side)
          all_goals try (repeat' (first | (with_reducible rfl) | (with_reducible refine And.intro ?_ ?_) | omega | rfl | exact Or.inl rfl | exact Or.inr rfl | exact of_decide_eq_true rfl | exact Path.imp_of (of_decide_eq_true rfl) | (focus ((try simp only [Int.reduceToNat, Int.reduceTDiv, Int.reduceTMod, minL, maxL, pickB, zHB, zSH, InK, Path.imp, zL] at *); omega)) | (refine app_le rfl ?_; omega)))
          all_goals try refine subF.ok ?_ <;> (conv => whnf) <;> repeat' (first
 | exact trivial
 | (with_reducible rfl)
 | ((with_reducible refine And.intro ?_ ?_) <;> conv => whnf)
 | omega
 | rfl
 | (refine congrArg (SV.arr _) ?_)
 | (refine congrArg (Value.int _) ?_)
 | (refine congrArg Value.bool ?_))
          all_goals try exact hst
          refine ⟨i + 1, ⟨by omega, by omega⟩, ?_⟩
          refine subF.ok ?_ <;> (conv => whnf) <;> repeat' (first
 | exact trivial
 | (with_reducible rfl)
 | ((with_reducible refine And.intro ?_ ?_) <;> conv => whnf)
 | omega
 | rfl
 | (refine congrArg (SV.arr _) ?_)
 | (refine congrArg (Value.int _) ?_)
 | (refine congrArg Value.bool ?_))
        · have hie : os.length = i := by omega
          subst hie
          have hta : (mirO os).take os.length = mirO os := by rw [← mirO_len (os := os), List.take_length]
          repeat' (first
 | refine W.resub (x := Code.seq (Code.region 12 _ _) _) ?_ (m2)
 | refine W.seq ?_
 | refine W.block ?_
 | (refine W.region tys_ok [] ?_; conv => whnf)
 | (refine W.drawAll tys_ok [] mixed rfl ?_; conv => whnf)
 | (refine W.ret ?_; conv => whnf)
 | (refine W.skip ?_; conv => whnf)
 | (refine W.exit ?_; conv => whnf)
 | (refine Both.mk ?_ ?_ <;> (conv => whnf))
 | (refine W.cond rfl (fun hb => ?_) (fun hb => ?_) <;> (try simp only [Int.reduceToNat, Int.reduceTDiv, Int.reduceTMod, minL, maxL, pickB, zHB, zSH] at hb) <;> (try (first | (cases hb; done) | exact absurd hb (by decide) | (exfalso; omega) | (omega))))
 | ((with_reducible refine And.intro ?_ ?_); (focus (first | (with_reducible rfl) | omega | rfl | ((try simp only [Int.reduceToNat, Int.reduceTDiv, Int.reduceTMod, minL, maxL, pickB, zHB, zSH, InK, Path.imp, zL] at *); omega))); (conv => whnf))
 | ((with_reducible refine And.intro (Side.out ?_) ?_); rotate_left; (conv => whnf))
 | ((first | refine retF1 ?_ | refine retF2 ?_ | refine subF.leaf ?_ | refine subF.side ?_) <;> (conv => whnf) <;> repeat' (first
 | exact trivial
 | (with_reducible rfl)
 | ((with_reducible refine And.intro ?_ ?_) <;> conv => whnf)
 | omega
 | rfl
 | (refine congrArg (SV.arr _) ?_)
 | (refine congrArg (Value.int _) ?_)
 | (refine congrArg Value.bool ?_)))); all_goals (try unfold Side)
          all_goals try (repeat' (first | (with_reducible rfl) | (with_reducible refine And.intro ?_ ?_) | omega | rfl | exact Or.inl rfl | exact Or.inr rfl | exact of_decide_eq_true rfl | exact Path.imp_of (of_decide_eq_true rfl) | (focus ((try simp only [Int.reduceToNat, Int.reduceTDiv, Int.reduceTMod, minL, maxL, pickB, zHB, zSH, InK, Path.imp, zL] at *); omega)) | (refine app_le rfl ?_; omega)))
          all_goals try refine subF.ok ?_ <;> (conv => whnf) <;> repeat' (first
 | exact trivial
 | (with_reducible rfl)
 | ((with_reducible refine And.intro ?_ ?_) <;> conv => whnf)
 | omega
 | rfl
 | (refine congrArg (SV.arr _) ?_)
 | (refine congrArg (Value.int _) ?_)
 | (refine congrArg Value.bool ?_))
          all_goals try exact hta
end Go.Proofs.Ytmfholchenihaaa
