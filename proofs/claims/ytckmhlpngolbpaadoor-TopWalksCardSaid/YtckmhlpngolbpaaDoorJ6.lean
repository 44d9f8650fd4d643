/- Joined of: W2 W3 W4. No condition. -/
import Derived.Test.YtckmhlpngolbpaaDoorJ5
set_option linter.unusedVariables false
set_option linter.unusedSimpArgs false
namespace Go.Proofs.YtckmhlpngolbpaaDoor
open Int renaming reduceToNat → zr, reduceTDiv → zd, reduceTMod → zm
open Go Go.Vc Go.Rg
set_option maxHeartbeats 4000000 in
theorem t25_m {x : Int} {l : List Int} (hx : -100 ≤ x ∧ x ≤ 100) : FnM Tryd.prog 25 [.strct [(.lit (.int .i64 (0 : Int))), (.lit (.int .i64 (x : Int))), (.lit (.int .i64 (0 : Int)))], .padr 1000000000 0] [(1000000000, .box1 (.own 1000000001)), (1000000001, .mps l)] (.lit (.bool (decide (x ∈ l)))) [(1000000000, .box1 (.own 1000000001)), (1000000001, .mps l)] := by
 have q1 : (0 : Int) = 0 ∧ (0 : Int) = 0 ∧ SpotR x := ⟨rfl, rfl, by omega, by omega⟩
 refine FnM.of_body tys_ok Tryd.func25 (by rfl) rfl Tryd.ntmps25 (by rw [Tryd.results25]) (by simp) ?_
 repeat' (first
 | refine W.seq ?_
 | refine W.block ?_
 | (refine W.region tys_ok [] ?_; conv => whnf)
 | (refine W.drawAll tys_ok [] mixed rfl ?_; conv => whnf)
 | (refine W.ret ?_; conv => whnf)
 | (refine W.skip ?_; conv => whnf)
 | (refine W.exit ?_; conv => whnf)
 | (refine W.cond rfl (fun hb => ?_) (fun hb => ?_) <;> (try simp only [zr, zd, zm, minL, maxL, pickB, zA] at hb) <;> (try (first | (cases hb; done) | exact absurd hb (by decide) | (exfalso; omega) | (omega))))
 | ((with_reducible refine And.intro ?_ ?_); exact zc; conv => whnf)
 | ((with_reducible refine And.intro (Side.out ?_) ?_); rotate_left; (conv => whnf))
 | ((first | refine retM1 ?_ | refine retM2 ?_) <;> (conv => whnf) <;> repeat' (first
 | exact trivial
 | (with_reducible rfl)
 | ((with_reducible refine And.intro ?_ ?_) <;> conv => whnf)
 | omega
 | rfl
 | (refine congrArg (SV.arr _) ?_)
 | (refine congrArg (Value.int _) ?_)
 | (refine congrArg Value.bool ?_)))); all_goals (try unfold Side)
 all_goals try (repeat' (first | exact zb | with_reducible refine And.intro ?_ ?_))
 all_goals first | exact Path.imp_of q1 | skip
set_option maxHeartbeats 4000000 in
theorem t44_m {x : Int} {l : List Int} (hx : -100 ≤ x ∧ x ≤ 100) : FnM Tryd.prog 44 [.strct [(.lit (.int .i64 (0 : Int))), (.lit (.int .i64 (x : Int))), (.lit (.int .i64 (0 : Int)))], .padr 1000000000 0] [(1000000000, .box1 (.own 1000000001)), (1000000001, .mps l)] (.lit (.bool (decide (x ∈ l)))) [(1000000000, .box1 (.own 1000000001)), (1000000001, .mps l)] := by
 have q1 : (0 : Int) = 0 ∧ (0 : Int) = 0 ∧ SpotR x := ⟨rfl, rfl, by omega, by omega⟩
 refine FnM.of_body tys_ok Tryd.func44 (by rfl) rfl Tryd.ntmps44 (by rw [Tryd.results44]) (by simp) ?_
 repeat' (first
 | refine W.seq ?_
 | refine W.block ?_
 | (refine W.region tys_ok [] ?_; conv => whnf)
 | (refine W.drawAll tys_ok [] mixed rfl ?_; conv => whnf)
 | (refine W.ret ?_; conv => whnf)
 | (refine W.skip ?_; conv => whnf)
 | (refine W.exit ?_; conv => whnf)
 | (refine W.cond rfl (fun hb => ?_) (fun hb => ?_) <;> (try simp only [zr, zd, zm, minL, maxL, pickB, zA] at hb) <;> (try (first | (cases hb; done) | exact absurd hb (by decide) | (exfalso; omega) | (omega))))
 | ((with_reducible refine And.intro ?_ ?_); exact zc; conv => whnf)
 | ((with_reducible refine And.intro (Side.out ?_) ?_); rotate_left; (conv => whnf))
 | ((first | refine retM1 ?_ | refine retM2 ?_) <;> (conv => whnf) <;> repeat' (first
 | exact trivial
 | (with_reducible rfl)
 | ((with_reducible refine And.intro ?_ ?_) <;> conv => whnf)
 | omega
 | rfl
 | (refine congrArg (SV.arr _) ?_)
 | (refine congrArg (Value.int _) ?_)
 | (refine congrArg Value.bool ?_)))); all_goals (try unfold Side)
 all_goals try (repeat' (first | exact zb | with_reducible refine And.intro ?_ ?_))
 all_goals first | exact Path.imp_of q1 | skip
set_option maxHeartbeats 4000000 in
theorem l25_m {row : ByteArray} {w x : Int} {k : Nat} {l : List Int} (hk : k < 3) (hx : -50 ≤ x ∧ x ≤ 50) : FnM Tryd.prog 40 [.st true (.sadr (.agg [.arr (.sl .str) ([[row]] : List (List ByteArray)), .arr MT mvL, .arr KT jlL, I64 1, I64 w])), .strct [(.lit (.int .i64 (0 : Int))), (.lit (.int .i64 (x : Int))), (.lit (.int .i64 (0 : Int)))], (.lit (.int .i64 (k : Int))), .fn 25 [.padr 1000000000 0]] [(1000000000, .box1 (.own 1000000001)), (1000000001, .mps l)] (.lit (.bool (decide (x + mvX k + 0 ∈ l)))) [(1000000000, .box1 (.own 1000000001)), (1000000001, .mps l)] := by
 obtain ⟨m1, m2, m3, m4⟩ := mv_ok hk
 have hml : mvL.length = 3 := rfl
 have q0 : 0 ≤ (k : Int) ∧ (k : Int).toNat < mvL.length := ⟨by omega, by rw [hml]; omega⟩
 have c1 := step_at (row := row) (w := w) hk (x := x) (by omega)
 have c2 := t25_m (x := x + mvX k + 0) (l := l) (by omega)
 obtain ⟨b, hb0⟩ : ∃ b, b = decide (x + mvX k + 0 ∈ l) := ⟨_, rfl⟩
 rw [← hb0] at c2 ⊢
 refine FnM.of_body tys_ok Tryd.func40 (by rfl) rfl Tryd.ntmps40 (by rw [Tryd.results40]) (by simp) ?_
 repeat' (first
 | refine W.seq ?_
 | refine W.block ?_
 | (refine W.drawPh (id := 1) tys_ok [] mixed [0, 1, 2, 4, 8, 0, 48, 64, 128, 0, 512, 1280] [([0, 1, 2, 3, 4, 5, 6, 7, 8, 9], 1, 2047), ([11], 0, 4095)] (by decide +kernel) ?_; conv => whnf)
 | (refine W.region tys_ok [] ?_; conv => whnf)
 | (refine W.drawAll tys_ok [] mixed rfl ?_; conv => whnf)
 | (refine W.ret ?_; conv => whnf)
 | (refine W.skip ?_; conv => whnf)
 | (refine W.exit ?_; conv => whnf)
 | (refine Both.mk ?_ ?_ <;> (conv => whnf))
 | (refine W.cond rfl (fun hb => ?_) (fun hb => ?_) <;> (try simp only [zr, zd, zm, minL, maxL, pickB, zA] at hb) <;> (try (first | (cases hb; done) | exact absurd hb (by decide) | (exfalso; omega) | (omega) | ((exact (hb m1).elim)))))
 | ((with_reducible refine And.intro ?_ ?_); exact zc; conv => whnf)
 | ((with_reducible refine And.intro (Side.out ?_) ?_); rotate_left; (conv => whnf))
 | ((first | refine retM1 ?_ | refine retM2 ?_ | refine subF.leaf ?_ | refine subF.side ?_) <;> (conv => whnf) <;> repeat' (first
 | exact trivial
 | (with_reducible rfl)
 | ((with_reducible refine And.intro ?_ ?_) <;> conv => whnf)
 | omega
 | rfl
 | (refine congrArg (SV.arr _) ?_)
 | (refine congrArg (Value.int _) ?_)
 | (refine congrArg Value.bool ?_)))); all_goals (try unfold Side)
 all_goals try (repeat' (first | exact zb | with_reducible refine And.intro ?_ ?_))
 all_goals first | exact Path.imp_of q0 | skip
 refine W.loop (fun j : Nat => ⟨[(0, .st true (.sadr (.agg [.arr (.sl .str) ([[row]] : List (List ByteArray)), .arr MT mvL, .arr KT jlL, I64 1, I64 w]))), (2, (.lit (.int .i64 (k : Int)))), (3, .fn 25 [.padr 1000000000 0]), (5, .padr 6000 0), (26, .st true (.arr KT jlL)), (27, (.lit (.int .i64 (1 : Int)))), (28, (.lit (.int .i64 (j : Int))))], [(6000, .box [(.lit (.int .i64 (0 : Int))), (.lit (.int .i64 (x : Int))), (.lit (.int .i64 (0 : Int)))]), (1000000000, .box1 (.own 1000000001)), (1000000001, .mps l)]⟩) (fun j => (j = 0 ∨ (j = 1 ∧ b = true))) (fun j => 1 - j) (0) ?_ ?_
 · refine ⟨.inl rfl, ?_⟩
   refine subF.ok ?_ <;> (conv => whnf) <;> repeat' (first
 | exact trivial
 | (with_reducible rfl)
 | ((with_reducible refine And.intro ?_ ?_) <;> conv => whnf)
 | omega
 | rfl
 | (refine congrArg (SV.arr _) ?_)
 | (refine congrArg (Value.int _) ?_)
 | (refine congrArg Value.bool ?_))
 · intro j hj
   by_cases hj0 : j = 0
   · subst hj0
     cases b with
     | true =>
      repeat' (first
 | refine W.seq ?_
 | refine W.block ?_
 | (refine W.regionM (id := 6) tys_ok [] [6] ?_; conv => whnf)
 | (refine W.region tys_ok [] ?_; conv => whnf)
 | (refine W.drawAll tys_ok [] mixed rfl ?_; conv => whnf)
 | (refine W.ret ?_; conv => whnf)
 | (refine W.skip ?_; conv => whnf)
 | (refine W.exit ?_; conv => whnf)
 | (refine call_at (al := false) (c1) rfl rfl rfl rfl ?_; conv => whnf)
 | (refine callM_at (c2) ?_; conv => whnf)
 | (refine W.cond rfl (fun hb => ?_) (fun hb => ?_) <;> (try simp only [zr, zd, zm, minL, maxL, pickB, zA] at hb) <;> (try (first | (cases hb; done) | exact absurd hb (by decide) | (exfalso; omega) | (omega))))
 | (refine Or.inl (And.intro trivial ?_); (conv => whnf))
 | ((with_reducible refine And.intro ?_ ?_); exact zc; conv => whnf)
 | ((with_reducible refine And.intro (Side.out ?_) ?_); rotate_left; (conv => whnf))
 | ((first | refine retM1 ?_ | refine retM2 ?_) <;> (conv => whnf) <;> repeat' (first
 | exact trivial
 | (with_reducible rfl)
 | ((with_reducible refine And.intro ?_ ?_) <;> conv => whnf)
 | omega
 | rfl
 | (refine congrArg (SV.arr _) ?_)
 | (refine congrArg (Value.int _) ?_)
 | (refine congrArg Value.bool ?_)))); all_goals (try unfold Side)
      all_goals try (repeat' (first | exact zb | with_reducible refine And.intro ?_ ?_))
      refine ⟨1, ⟨.inr ⟨rfl, rfl⟩, by omega⟩, ?_⟩
      refine subF.ok ?_ <;> (conv => whnf) <;> repeat' (first
 | exact trivial
 | (with_reducible rfl)
 | ((with_reducible refine And.intro ?_ ?_) <;> conv => whnf)
 | omega
 | rfl
 | (refine congrArg (SV.arr _) ?_)
 | (refine congrArg (Value.int _) ?_)
 | (refine congrArg Value.bool ?_))
     | false =>
      repeat' (first
 | refine W.seq ?_
 | refine W.block ?_
 | (refine W.regionM (id := 6) tys_ok [] [6] ?_; conv => whnf)
 | (refine W.region tys_ok [] ?_; conv => whnf)
 | (refine W.drawAll tys_ok [] mixed rfl ?_; conv => whnf)
 | (refine W.ret ?_; conv => whnf)
 | (refine W.skip ?_; conv => whnf)
 | (refine W.exit ?_; conv => whnf)
 | (refine call_at (al := false) (c1) rfl rfl rfl rfl ?_; conv => whnf)
 | (refine callM_at (c2) ?_; conv => whnf)
 | (refine W.cond rfl (fun hb => ?_) (fun hb => ?_) <;> (try simp only [zr, zd, zm, minL, maxL, pickB, zA] at hb) <;> (try (first | (cases hb; done) | exact absurd hb (by decide) | (exfalso; omega) | (omega))))
 | (refine Or.inl (And.intro trivial ?_); (conv => whnf))
 | ((with_reducible refine And.intro ?_ ?_); exact zc; conv => whnf)
 | ((with_reducible refine And.intro (Side.out ?_) ?_); rotate_left; (conv => whnf))
 | ((first | refine retM1 ?_ | refine retM2 ?_) <;> (conv => whnf) <;> repeat' (first
 | exact trivial
 | (with_reducible rfl)
 | ((with_reducible refine And.intro ?_ ?_) <;> conv => whnf)
 | omega
 | rfl
 | (refine congrArg (SV.arr _) ?_)
 | (refine congrArg (Value.int _) ?_)
 | (refine congrArg Value.bool ?_)))); all_goals (try unfold Side)
      all_goals try (repeat' (first | exact zb | with_reducible refine And.intro ?_ ?_))
   · obtain ⟨rfl, rfl⟩ : j = 1 ∧ b = true := hj.resolve_left hj0
     repeat' (first
 | refine W.seq ?_
 | refine W.block ?_
 | (refine W.region tys_ok [] ?_; conv => whnf)
 | (refine W.drawAll tys_ok [] mixed rfl ?_; conv => whnf)
 | (refine W.ret ?_; conv => whnf)
 | (refine W.skip ?_; conv => whnf)
 | (refine W.exit ?_; conv => whnf)
 | (refine W.cond rfl (fun hb => ?_) (fun hb => ?_) <;> (try simp only [zr, zd, zm, minL, maxL, pickB, zA] at hb) <;> (try (first | (cases hb; done) | exact absurd hb (by decide) | (exfalso; omega) | (omega))))
 | ((with_reducible refine And.intro ?_ ?_); exact zc; conv => whnf)
 | ((with_reducible refine And.intro (Side.out ?_) ?_); rotate_left; (conv => whnf))
 | ((first | refine retM1 ?_ | refine retM2 ?_) <;> (conv => whnf) <;> repeat' (first
 | exact trivial
 | (with_reducible rfl)
 | ((with_reducible refine And.intro ?_ ?_) <;> conv => whnf)
 | omega
 | rfl
 | (refine congrArg (SV.arr _) ?_)
 | (refine congrArg (Value.int _) ?_)
 | (refine congrArg Value.bool ?_)))); all_goals (try unfold Side)
     all_goals try (repeat' (first | exact zb | with_reducible refine And.intro ?_ ?_))
set_option maxHeartbeats 4000000 in
theorem l44_m {row : ByteArray} {w x : Int} {k : Nat} {l : List Int} (hk : k < 3) (hx : -50 ≤ x ∧ x ≤ 50) : FnM Tryd.prog 40 [.st true (.sadr (.agg [.arr (.sl .str) ([[row]] : List (List ByteArray)), .arr MT mvL, .arr KT jlL, I64 1, I64 w])), .strct [(.lit (.int .i64 (0 : Int))), (.lit (.int .i64 (x : Int))), (.lit (.int .i64 (0 : Int)))], (.lit (.int .i64 (k : Int))), .fn 44 [.padr 1000000000 0]] [(1000000000, .box1 (.own 1000000001)), (1000000001, .mps l)] (.lit (.bool (decide (x + mvX k + 0 ∈ l)))) [(1000000000, .box1 (.own 1000000001)), (1000000001, .mps l)] := by
 obtain ⟨m1, m2, m3, m4⟩ := mv_ok hk
 have hml : mvL.length = 3 := rfl
 have q0 : 0 ≤ (k : Int) ∧ (k : Int).toNat < mvL.length := ⟨by omega, by rw [hml]; omega⟩
 have c1 := step_at (row := row) (w := w) hk (x := x) (by omega)
 have c2 := t44_m (x := x + mvX k + 0) (l := l) (by omega)
 obtain ⟨b, hb0⟩ : ∃ b, b = decide (x + mvX k + 0 ∈ l) := ⟨_, rfl⟩
 rw [← hb0] at c2 ⊢
 refine FnM.of_body tys_ok Tryd.func40 (by rfl) rfl Tryd.ntmps40 (by rw [Tryd.results40]) (by simp) ?_
 repeat' (first
 | refine W.seq ?_
 | refine W.block ?_
 | (refine W.drawPh (id := 1) tys_ok [] mixed [0, 1, 2, 4, 8, 0, 48, 64, 128, 0, 512, 1280] [([0, 1, 2, 3, 4, 5, 6, 7, 8, 9], 1, 2047), ([11], 0, 4095)] (by decide +kernel) ?_; conv => whnf)
 | (refine W.region tys_ok [] ?_; conv => whnf)
 | (refine W.drawAll tys_ok [] mixed rfl ?_; conv => whnf)
 | (refine W.ret ?_; conv => whnf)
 | (refine W.skip ?_; conv => whnf)
 | (refine W.exit ?_; conv => whnf)
 | (refine Both.mk ?_ ?_ <;> (conv => whnf))
 | (refine W.cond rfl (fun hb => ?_) (fun hb => ?_) <;> (try simp only [zr, zd, zm, minL, maxL, pickB, zA] at hb) <;> (try (first | (cases hb; done) | exact absurd hb (by decide) | (exfalso; omega) | (omega) | ((exact (hb m1).elim)))))
 | ((with_reducible refine And.intro ?_ ?_); exact zc; conv => whnf)
 | ((with_reducible refine And.intro (Side.out ?_) ?_); rotate_left; (conv => whnf))
 | ((first | refine retM1 ?_ | refine retM2 ?_ | refine subF.leaf ?_ | refine subF.side ?_) <;> (conv => whnf) <;> repeat' (first
 | exact trivial
 | (with_reducible rfl)
 | ((with_reducible refine And.intro ?_ ?_) <;> conv => whnf)
 | omega
 | rfl
 | (refine congrArg (SV.arr _) ?_)
 | (refine congrArg (Value.int _) ?_)
 | (refine congrArg Value.bool ?_)))); all_goals (try unfold Side)
 all_goals try (repeat' (first | exact zb | with_reducible refine And.intro ?_ ?_))
 all_goals first | exact Path.imp_of q0 | skip
 refine W.loop (fun j : Nat => ⟨[(0, .st true (.sadr (.agg [.arr (.sl .str) ([[row]] : List (List ByteArray)), .arr MT mvL, .arr KT jlL, I64 1, I64 w]))), (2, (.lit (.int .i64 (k : Int)))), (3, .fn 44 [.padr 1000000000 0]), (5, .padr 6000 0), (26, .st true (.arr KT jlL)), (27, (.lit (.int .i64 (1 : Int)))), (28, (.lit (.int .i64 (j : Int))))], [(6000, .box [(.lit (.int .i64 (0 : Int))), (.lit (.int .i64 (x : Int))), (.lit (.int .i64 (0 : Int)))]), (1000000000, .box1 (.own 1000000001)), (1000000001, .mps l)]⟩) (fun j => (j = 0 ∨ (j = 1 ∧ b = true))) (fun j => 1 - j) (0) ?_ ?_
 · refine ⟨.inl rfl, ?_⟩
   refine subF.ok ?_ <;> (conv => whnf) <;> repeat' (first
 | exact trivial
 | (with_reducible rfl)
 | ((with_reducible refine And.intro ?_ ?_) <;> conv => whnf)
 | omega
 | rfl
 | (refine congrArg (SV.arr _) ?_)
 | (refine congrArg (Value.int _) ?_)
 | (refine congrArg Value.bool ?_))
 · intro j hj
   by_cases hj0 : j = 0
   · subst hj0
     cases b with
     | true =>
      repeat' (first
 | refine W.seq ?_
 | refine W.block ?_
 | (refine W.regionM (id := 6) tys_ok [] [6] ?_; conv => whnf)
 | (refine W.region tys_ok [] ?_; conv => whnf)
 | (refine W.drawAll tys_ok [] mixed rfl ?_; conv => whnf)
 | (refine W.ret ?_; conv => whnf)
 | (refine W.skip ?_; conv => whnf)
 | (refine W.exit ?_; conv => whnf)
 | (refine call_at (al := false) (c1) rfl rfl rfl rfl ?_; conv => whnf)
 | (refine callM_at (c2) ?_; conv => whnf)
 | (refine W.cond rfl (fun hb => ?_) (fun hb => ?_) <;> (try simp only [zr, zd, zm, minL, maxL, pickB, zA] at hb) <;> (try (first | (cases hb; done) | exact absurd hb (by decide) | (exfalso; omega) | (omega))))
 | (refine Or.inl (And.intro trivial ?_); (conv => whnf))
 | ((with_reducible refine And.intro ?_ ?_); exact zc; conv => whnf)
 | ((with_reducible refine And.intro (Side.out ?_) ?_); rotate_left; (conv => whnf))
 | ((first | refine retM1 ?_ | refine retM2 ?_) <;> (conv => whnf) <;> repeat' (first
 | exact trivial
 | (with_reducible rfl)
 | ((with_reducible refine And.intro ?_ ?_) <;> conv => whnf)
 | omega
 | rfl
 | (refine congrArg (SV.arr _) ?_)
 | (refine congrArg (Value.int _) ?_)
 | (refine congrArg Value.bool ?_)))); all_goals (try unfold Side)
      all_goals try (repeat' (first | exact zb | with_reducible refine And.intro ?_ ?_))
      refine ⟨1, ⟨.inr ⟨rfl, rfl⟩, by omega⟩, ?_⟩
      refine subF.ok ?_ <;> (conv => whnf) <;> repeat' (first
 | exact trivial
 | (with_reducible rfl)
 | ((with_reducible refine And.intro ?_ ?_) <;> conv => whnf)
 | omega
 | rfl
 | (refine congrArg (SV.arr _) ?_)
 | (refine congrArg (Value.int _) ?_)
 | (refine congrArg Value.bool ?_))
     | false =>
      repeat' (first
 | refine W.seq ?_
 | refine W.block ?_
 | (refine W.regionM (id := 6) tys_ok [] [6] ?_; conv => whnf)
 | (refine W.region tys_ok [] ?_; conv => whnf)
 | (refine W.drawAll tys_ok [] mixed rfl ?_; conv => whnf)
 | (refine W.ret ?_; conv => whnf)
 | (refine W.skip ?_; conv => whnf)
 | (refine W.exit ?_; conv => whnf)
 | (refine call_at (al := false) (c1) rfl rfl rfl rfl ?_; conv => whnf)
 | (refine callM_at (c2) ?_; conv => whnf)
 | (refine W.cond rfl (fun hb => ?_) (fun hb => ?_) <;> (try simp only [zr, zd, zm, minL, maxL, pickB, zA] at hb) <;> (try (first | (cases hb; done) | exact absurd hb (by decide) | (exfalso; omega) | (omega))))
 | (refine Or.inl (And.intro trivial ?_); (conv => whnf))
 | ((with_reducible refine And.intro ?_ ?_); exact zc; conv => whnf)
 | ((with_reducible refine And.intro (Side.out ?_) ?_); rotate_left; (conv => whnf))
 | ((first | refine retM1 ?_ | refine retM2 ?_) <;> (conv => whnf) <;> repeat' (first
 | exact trivial
 | (with_reducible rfl)
 | ((with_reducible refine And.intro ?_ ?_) <;> conv => whnf)
 | omega
 | rfl
 | (refine congrArg (SV.arr _) ?_)
 | (refine congrArg (Value.int _) ?_)
 | (refine congrArg Value.bool ?_)))); all_goals (try unfold Side)
      all_goals try (repeat' (first | exact zb | with_reducible refine And.intro ?_ ?_))
   · obtain ⟨rfl, rfl⟩ : j = 1 ∧ b = true := hj.resolve_left hj0
     repeat' (first
 | refine W.seq ?_
 | refine W.block ?_
 | (refine W.region tys_ok [] ?_; conv => whnf)
 | (refine W.drawAll tys_ok [] mixed rfl ?_; conv => whnf)
 | (refine W.ret ?_; conv => whnf)
 | (refine W.skip ?_; conv => whnf)
 | (refine W.exit ?_; conv => whnf)
 | (refine W.cond rfl (fun hb => ?_) (fun hb => ?_) <;> (try simp only [zr, zd, zm, minL, maxL, pickB, zA] at hb) <;> (try (first | (cases hb; done) | exact absurd hb (by decide) | (exfalso; omega) | (omega))))
 | ((with_reducible refine And.intro ?_ ?_); exact zc; conv => whnf)
 | ((with_reducible refine And.intro (Side.out ?_) ?_); rotate_left; (conv => whnf))
 | ((first | refine retM1 ?_ | refine retM2 ?_) <;> (conv => whnf) <;> repeat' (first
 | exact trivial
 | (with_reducible rfl)
 | ((with_reducible refine And.intro ?_ ?_) <;> conv => whnf)
 | omega
 | rfl
 | (refine congrArg (SV.arr _) ?_)
 | (refine congrArg (Value.int _) ?_)
 | (refine congrArg Value.bool ?_)))); all_goals (try unfold Side)
     all_goals try (repeat' (first | exact zb | with_reducible refine And.intro ?_ ?_))
def mvT (l : List Int) (x : Int) : Int := if x + mvX 0 + 0 ∈ l then 0 else if x + mvX 1 + 0 ∈ l then 1 else if x + mvX 2 + 0 ∈ l then 2 else -1
theorem mvT_at {l : List Int} {x : Int} {k : Nat} (hk : k < 3) (h : ∀ i, i < k → ¬ (x + mvX i + 0 ∈ l)) (hb : x + mvX k + 0 ∈ l) : mvT l x = (k : Int) := by
 unfold mvT
 have h3 : k = 0 ∨ k = 1 ∨ k = 2 := by omega
 rcases h3 with rfl | rfl | rfl
 · rw [if_pos hb]; rfl
 · rw [if_neg (h 0 (by omega)), if_pos hb]; rfl
 · rw [if_neg (h 0 (by omega)), if_neg (h 1 (by omega)), if_pos hb]; rfl
theorem mvT_no {l : List Int} {x : Int} (h : ∀ i, i < 3 → ¬ (x + mvX i + 0 ∈ l)) : mvT l x = -1 := by
 unfold mvT
 rw [if_neg (h 0 (by omega)), if_neg (h 1 (by omega)), if_neg (h 2 (by omega))]
set_option maxHeartbeats 4000000 in
theorem m25_m {row : ByteArray} {w x : Int} {l : List Int} (hx : -50 ≤ x ∧ x ≤ 50) : FnM Tryd.prog 26 [.st true (.sadr (.agg [.arr (.sl .str) ([[row]] : List (List ByteArray)), .arr MT mvL, .arr KT jlL, I64 1, I64 w])), .strct [(.lit (.int .i64 (0 : Int))), (.lit (.int .i64 (x : Int))), (.lit (.int .i64 (0 : Int)))], .fn 25 [.padr 1000000000 0]] [(1000000000, .box1 (.own 1000000001)), (1000000001, .mps l)] (.lit (.int .i64 (mvT l x))) [(1000000000, .box1 (.own 1000000001)), (1000000001, .mps l)] := by
 obtain ⟨r, hr⟩ : ∃ r, r = mvT l x := ⟨_, rfl⟩
 rw [← hr]
 have hml : mvL.length = 3 := rfl
 refine FnM.of_body tys_ok Tryd.func26 (by rfl) rfl Tryd.ntmps26 (by rw [Tryd.results26]) (by simp) ?_
 repeat' (first
 | refine W.seq ?_
 | refine W.block ?_
 | (refine W.region tys_ok [] ?_; conv => whnf)
 | (refine W.drawAll tys_ok [] mixed rfl ?_; conv => whnf)
 | (refine W.ret ?_; conv => whnf)
 | (refine W.skip ?_; conv => whnf)
 | (refine W.exit ?_; conv => whnf)
 | (refine W.cond rfl (fun hb => ?_) (fun hb => ?_) <;> (try simp only [zr, zd, zm, minL, maxL, pickB, zA] at hb) <;> (try (first | (cases hb; done) | exact absurd hb (by decide) | (exfalso; omega) | (omega))))
 | ((with_reducible refine And.intro ?_ ?_); exact zc; conv => whnf)
 | ((with_reducible refine And.intro (Side.out ?_) ?_); rotate_left; (conv => whnf))
 | ((first | refine retM1 ?_ | refine retM2 ?_) <;> (conv => whnf) <;> repeat' (first
 | exact trivial
 | (with_reducible rfl)
 | ((with_reducible refine And.intro ?_ ?_) <;> conv => whnf)
 | omega
 | rfl
 | (refine congrArg (SV.arr _) ?_)
 | (refine congrArg (Value.int _) ?_)
 | (refine congrArg Value.bool ?_)))); all_goals (try unfold Side)
 all_goals try (repeat' (first | exact zb | with_reducible refine And.intro ?_ ?_))
 refine W.loop (fun k : Nat => ⟨[(0, .st true (.sadr (.agg [.arr (.sl .str) ([[row]] : List (List ByteArray)), .arr MT mvL, .arr KT jlL, I64 1, I64 w]))), (2, .fn 25 [.padr 1000000000 0]), (4, .padr 5000 0), (12, .st true (.arr MT mvL)), (13, (.lit (.int .i64 (3 : Int)))), (14, (.lit (.int .i64 (k : Int))))], [(5000, .box [(.lit (.int .i64 (0 : Int))), (.lit (.int .i64 (x : Int))), (.lit (.int .i64 (0 : Int)))]), (1000000000, .box1 (.own 1000000001)), (1000000001, .mps l)]⟩) (fun k => (k ≤ 3 ∧ ∀ i, i < k → ¬ (x + mvX i + 0 ∈ l))) (fun k => 3 - k) (0) ?_ ?_
 · refine ⟨⟨by omega, fun i hi => by omega⟩, ?_⟩
   refine subF.ok ?_ <;> (conv => whnf) <;> repeat' (first
 | exact trivial
 | (with_reducible rfl)
 | ((with_reducible refine And.intro ?_ ?_) <;> conv => whnf)
 | omega
 | rfl
 | (refine congrArg (SV.arr _) ?_)
 | (refine congrArg (Value.int _) ?_)
 | (refine congrArg Value.bool ?_))
 · rintro k ⟨hk, hno⟩
   by_cases hk3 : k < 3
   · have c1 := l25_m (row := row) (w := w) (l := l) (x := x) hk3 hx
     by_cases hb0 : x + mvX k + 0 ∈ l
     · have he := hr.trans (mvT_at hk3 hno hb0)
       rw [decide_eq_true hb0] at c1
       rw [he]
       repeat' (first
 | refine W.seq ?_
 | refine W.block ?_
 | (refine W.regionM (id := 4) tys_ok [] [4] ?_; conv => whnf)
 | (refine W.region tys_ok [] ?_; conv => whnf)
 | (refine W.drawAll tys_ok [] mixed rfl ?_; conv => whnf)
 | (refine W.ret ?_; conv => whnf)
 | (refine W.skip ?_; conv => whnf)
 | (refine W.exit ?_; conv => whnf)
 | (refine callM_at (c1) ?_; conv => whnf)
 | (refine W.cond rfl (fun hb => ?_) (fun hb => ?_) <;> (try simp only [zr, zd, zm, minL, maxL, pickB, zA] at hb) <;> (try (first | (cases hb; done) | exact absurd hb (by decide) | (exfalso; omega) | (omega))))
 | (refine Or.inl (And.intro trivial ?_); (conv => whnf))
 | ((with_reducible refine And.intro ?_ ?_); exact zc; conv => whnf)
 | ((with_reducible refine And.intro (Side.out ?_) ?_); rotate_left; (conv => whnf))
 | ((first | refine retM1 ?_ | refine retM2 ?_) <;> (conv => whnf) <;> repeat' (first
 | exact trivial
 | (with_reducible rfl)
 | ((with_reducible refine And.intro ?_ ?_) <;> conv => whnf)
 | omega
 | rfl
 | (refine congrArg (SV.arr _) ?_)
 | (refine congrArg (Value.int _) ?_)
 | (refine congrArg Value.bool ?_)))); all_goals (try unfold Side)
       all_goals try (repeat' (first | exact zb | with_reducible refine And.intro ?_ ?_))
     · rw [decide_eq_false hb0] at c1
       repeat' (first
 | refine W.seq ?_
 | refine W.block ?_
 | (refine W.regionM (id := 4) tys_ok [] [4] ?_; conv => whnf)
 | (refine W.region tys_ok [] ?_; conv => whnf)
 | (refine W.drawAll tys_ok [] mixed rfl ?_; conv => whnf)
 | (refine W.ret ?_; conv => whnf)
 | (refine W.skip ?_; conv => whnf)
 | (refine W.exit ?_; conv => whnf)
 | (refine callM_at (c1) ?_; conv => whnf)
 | (refine W.cond rfl (fun hb => ?_) (fun hb => ?_) <;> (try simp only [zr, zd, zm, minL, maxL, pickB, zA] at hb) <;> (try (first | (cases hb; done) | exact absurd hb (by decide) | (exfalso; omega) | (omega))))
 | (refine Or.inl (And.intro trivial ?_); (conv => whnf))
 | ((with_reducible refine And.intro ?_ ?_); exact zc; conv => whnf)
 | ((with_reducible refine And.intro (Side.out ?_) ?_); rotate_left; (conv => whnf))
 | ((first | refine retM1 ?_ | refine retM2 ?_) <;> (conv => whnf) <;> repeat' (first
 | exact trivial
 | (with_reducible rfl)
 | ((with_reducible refine And.intro ?_ ?_) <;> conv => whnf)
 | omega
 | rfl
 | (refine congrArg (SV.arr _) ?_)
 | (refine congrArg (Value.int _) ?_)
 | (refine congrArg Value.bool ?_)))); all_goals (try unfold Side)
       all_goals try (repeat' (first | exact zb | with_reducible refine And.intro ?_ ?_))
       refine ⟨k + 1, ⟨⟨by omega, fun i hi => ?_⟩, by omega⟩, ?_⟩
       · by_cases e : i = k
         · subst e; exact hb0
         · exact hno i (by omega)
       refine subF.ok ?_ <;> (conv => whnf) <;> repeat' (first
 | exact trivial
 | (with_reducible rfl)
 | ((with_reducible refine And.intro ?_ ?_) <;> conv => whnf)
 | omega
 | rfl
 | (refine congrArg (SV.arr _) ?_)
 | (refine congrArg (Value.int _) ?_)
 | (refine congrArg Value.bool ?_))
   · have hke : k = 3 := by omega
     subst hke
     rw [hr, mvT_no hno]
     repeat' (first
 | refine W.seq ?_
 | refine W.block ?_
 | (refine W.region tys_ok [] ?_; conv => whnf)
 | (refine W.drawAll tys_ok [] mixed rfl ?_; conv => whnf)
 | (refine W.ret ?_; conv => whnf)
 | (refine W.skip ?_; conv => whnf)
 | (refine W.exit ?_; conv => whnf)
 | (refine W.cond rfl (fun hb => ?_) (fun hb => ?_) <;> (try simp only [zr, zd, zm, minL, maxL, pickB, zA] at hb) <;> (try (first | (cases hb; done) | exact absurd hb (by decide) | (exfalso; omega) | (omega))))
 | ((with_reducible refine And.intro ?_ ?_); exact zc; conv => whnf)
 | ((with_reducible refine And.intro (Side.out ?_) ?_); rotate_left; (conv => whnf))
 | ((first | refine retM1 ?_ | refine retM2 ?_) <;> (conv => whnf) <;> repeat' (first
 | exact trivial
 | (with_reducible rfl)
 | ((with_reducible refine And.intro ?_ ?_) <;> conv => whnf)
 | omega
 | rfl
 | (refine congrArg (SV.arr _) ?_)
 | (refine congrArg (Value.int _) ?_)
 | (refine congrArg Value.bool ?_)))); all_goals (try unfold Side)
     all_goals try (repeat' (first | exact zb | with_reducible refine And.intro ?_ ?_))
set_option maxHeartbeats 4000000 in
theorem m44_m {row : ByteArray} {w x : Int} {l : List Int} (hx : -50 ≤ x ∧ x ≤ 50) : FnM Tryd.prog 26 [.st true (.sadr (.agg [.arr (.sl .str) ([[row]] : List (List ByteArray)), .arr MT mvL, .arr KT jlL, I64 1, I64 w])), .strct [(.lit (.int .i64 (0 : Int))), (.lit (.int .i64 (x : Int))), (.lit (.int .i64 (0 : Int)))], .fn 44 [.padr 1000000000 0]] [(1000000000, .box1 (.own 1000000001)), (1000000001, .mps l)] (.lit (.int .i64 (mvT l x))) [(1000000000, .box1 (.own 1000000001)), (1000000001, .mps l)] := by
 obtain ⟨r, hr⟩ : ∃ r, r = mvT l x := ⟨_, rfl⟩
 rw [← hr]
 have hml : mvL.length = 3 := rfl
 refine FnM.of_body tys_ok Tryd.func26 (by rfl) rfl Tryd.ntmps26 (by rw [Tryd.results26]) (by simp) ?_
 repeat' (first
 | refine W.seq ?_
 | refine W.block ?_
 | (refine W.region tys_ok [] ?_; conv => whnf)
 | (refine W.drawAll tys_ok [] mixed rfl ?_; conv => whnf)
 | (refine W.ret ?_; conv => whnf)
 | (refine W.skip ?_; conv => whnf)
 | (refine W.exit ?_; conv => whnf)
 | (refine W.cond rfl (fun hb => ?_) (fun hb => ?_) <;> (try simp only [zr, zd, zm, minL, maxL, pickB, zA] at hb) <;> (try (first | (cases hb; done) | exact absurd hb (by decide) | (exfalso; omega) | (omega))))
 | ((with_reducible refine And.intro ?_ ?_); exact zc; conv => whnf)
 | ((with_reducible refine And.intro (Side.out ?_) ?_); rotate_left; (conv => whnf))
 | ((first | refine retM1 ?_ | refine retM2 ?_) <;> (conv => whnf) <;> repeat' (first
 | exact trivial
 | (with_reducible rfl)
 | ((with_reducible refine And.intro ?_ ?_) <;> conv => whnf)
 | omega
 | rfl
 | (refine congrArg (SV.arr _) ?_)
 | (refine congrArg (Value.int _) ?_)
 | (refine congrArg Value.bool ?_)))); all_goals (try unfold Side)
 all_goals try (repeat' (first | exact zb | with_reducible refine And.intro ?_ ?_))
 refine W.loop (fun k : Nat => ⟨[(0, .st true (.sadr (.agg [.arr (.sl .str) ([[row]] : List (List ByteArray)), .arr MT mvL, .arr KT jlL, I64 1, I64 w]))), (2, .fn 44 [.padr 1000000000 0]), (4, .padr 5000 0), (12, .st true (.arr MT mvL)), (13, (.lit (.int .i64 (3 : Int)))), (14, (.lit (.int .i64 (k : Int))))], [(5000, .box [(.lit (.int .i64 (0 : Int))), (.lit (.int .i64 (x : Int))), (.lit (.int .i64 (0 : Int)))]), (1000000000, .box1 (.own 1000000001)), (1000000001, .mps l)]⟩) (fun k => (k ≤ 3 ∧ ∀ i, i < k → ¬ (x + mvX i + 0 ∈ l))) (fun k => 3 - k) (0) ?_ ?_
 · refine ⟨⟨by omega, fun i hi => by omega⟩, ?_⟩
   refine subF.ok ?_ <;> (conv => whnf) <;> repeat' (first
 | exact trivial
 | (with_reducible rfl)
 | ((with_reducible refine And.intro ?_ ?_) <;> conv => whnf)
 | omega
 | rfl
 | (refine congrArg (SV.arr _) ?_)
 | (refine congrArg (Value.int _) ?_)
 | (refine congrArg Value.bool ?_))
 · rintro k ⟨hk, hno⟩
   by_cases hk3 : k < 3
   · have c1 := l44_m (row := row) (w := w) (l := l) (x := x) hk3 hx
     by_cases hb0 : x + mvX k + 0 ∈ l
     · have he := hr.trans (mvT_at hk3 hno hb0)
       rw [decide_eq_true hb0] at c1
       rw [he]
       repeat' (first
 | refine W.seq ?_
 | refine W.block ?_
 | (refine W.regionM (id := 4) tys_ok [] [4] ?_; conv => whnf)
 | (refine W.region tys_ok [] ?_; conv => whnf)
 | (refine W.drawAll tys_ok [] mixed rfl ?_; conv => whnf)
 | (refine W.ret ?_; conv => whnf)
 | (refine W.skip ?_; conv => whnf)
 | (refine W.exit ?_; conv => whnf)
 | (refine callM_at (c1) ?_; conv => whnf)
 | (refine W.cond rfl (fun hb => ?_) (fun hb => ?_) <;> (try simp only [zr, zd, zm, minL, maxL, pickB, zA] at hb) <;> (try (first | (cases hb; done) | exact absurd hb (by decide) | (exfalso; omega) | (omega))))
 | (refine Or.inl (And.intro trivial ?_); (conv => whnf))
 | ((with_reducible refine And.intro ?_ ?_); exact zc; conv => whnf)
 | ((with_reducible refine And.intro (Side.out ?_) ?_); rotate_left; (conv => whnf))
 | ((first | refine retM1 ?_ | refine retM2 ?_) <;> (conv => whnf) <;> repeat' (first
 | exact trivial
 | (with_reducible rfl)
 | ((with_reducible refine And.intro ?_ ?_) <;> conv => whnf)
 | omega
 | rfl
 | (refine congrArg (SV.arr _) ?_)
 | (refine congrArg (Value.int _) ?_)
 | (refine congrArg Value.bool ?_)))); all_goals (try unfold Side)
       all_goals try (repeat' (first | exact zb | with_reducible refine And.intro ?_ ?_))
     · rw [decide_eq_false hb0] at c1
       repeat' (first
 | refine W.seq ?_
 | refine W.block ?_
 | (refine W.regionM (id := 4) tys_ok [] [4] ?_; conv => whnf)
 | (refine W.region tys_ok [] ?_; conv => whnf)
 | (refine W.drawAll tys_ok [] mixed rfl ?_; conv => whnf)
 | (refine W.ret ?_; conv => whnf)
 | (refine W.skip ?_; conv => whnf)
 | (refine W.exit ?_; conv => whnf)
 | (refine callM_at (c1) ?_; conv => whnf)
 | (refine W.cond rfl (fun hb => ?_) (fun hb => ?_) <;> (try simp only [zr, zd, zm, minL, maxL, pickB, zA] at hb) <;> (try (first | (cases hb; done) | exact absurd hb (by decide) | (exfalso; omega) | (omega))))
 | (refine Or.inl (And.intro trivial ?_); (conv => whnf))
 | ((with_reducible refine And.intro ?_ ?_); exact zc; conv => whnf)
 | ((with_reducible refine And.intro (Side.out ?_) ?_); rotate_left; (conv => whnf))
 | ((first | refine retM1 ?_ | refine retM2 ?_) <;> (conv => whnf) <;> repeat' (first
 | exact trivial
 | (with_reducible rfl)
 | ((with_reducible refine And.intro ?_ ?_) <;> conv => whnf)
 | omega
 | rfl
 | (refine congrArg (SV.arr _) ?_)
 | (refine congrArg (Value.int _) ?_)
 | (refine congrArg Value.bool ?_)))); all_goals (try unfold Side)
       all_goals try (repeat' (first | exact zb | with_reducible refine And.intro ?_ ?_))
       refine ⟨k + 1, ⟨⟨by omega, fun i hi => ?_⟩, by omega⟩, ?_⟩
       · by_cases e : i = k
         · subst e; exact hb0
         · exact hno i (by omega)
       refine subF.ok ?_ <;> (conv => whnf) <;> repeat' (first
 | exact trivial
 | (with_reducible rfl)
 | ((with_reducible refine And.intro ?_ ?_) <;> conv => whnf)
 | omega
 | rfl
 | (refine congrArg (SV.arr _) ?_)
 | (refine congrArg (Value.int _) ?_)
 | (refine congrArg Value.bool ?_))
   · have hke : k = 3 := by omega
     subst hke
     rw [hr, mvT_no hno]
     repeat' (first
 | refine W.seq ?_
 | refine W.block ?_
 | (refine W.region tys_ok [] ?_; conv => whnf)
 | (refine W.drawAll tys_ok [] mixed rfl ?_; conv => whnf)
 | (refine W.ret ?_; conv => whnf)
 | (refine W.skip ?_; conv => whnf)
 | (refine W.exit ?_; conv => whnf)
 | (refine W.cond rfl (fun hb => ?_) (fun hb => ?_) <;> (try simp only [zr, zd, zm, minL, maxL, pickB, zA] at hb) <;> (try (first | (cases hb; done) | exact absurd hb (by decide) | (exfalso; omega) | (omega))))
 | ((with_reducible refine And.intro ?_ ?_); exact zc; conv => whnf)
 | ((with_reducible refine And.intro (Side.out ?_) ?_); rotate_left; (conv => whnf))
 | ((first | refine retM1 ?_ | refine retM2 ?_) <;> (conv => whnf) <;> repeat' (first
 | exact trivial
 | (with_reducible rfl)
 | ((with_reducible refine And.intro ?_ ?_) <;> conv => whnf)
 | omega
 | rfl
 | (refine congrArg (SV.arr _) ?_)
 | (refine congrArg (Value.int _) ?_)
 | (refine congrArg Value.bool ?_)))); all_goals (try unfold Side)
     all_goals try (repeat' (first | exact zb | with_reducible refine And.intro ?_ ?_))
open Go Go.Vc Go.Rg
def isPt (s : ByteArray) (x : Nat) : Bool := decide (((s.data.toList.getD x 0).toNat : Int) = 46)
def inT (s : ByteArray) (l : List Int) (x : Nat) : List Int := if isPt s x = true then sput l x else l
set_option maxHeartbeats 4000000 in
theorem in1_m {s : ByteArray} {x : Nat} {l : List Int} (hx : x < s.data.toList.length) (hx2 : x ≤ 100) : FnM Tryd.prog 39 [.strct [(.lit (.int .i64 (0 : Int))), (.lit (.int .i64 (x : Int))), (.lit (.int .i64 (0 : Int)))], .st true (.sadr (.arr (.sl .str) ([[s]] : List (List ByteArray)))), .padr 1000000000 0] [(1000000000, .box1 (.own 1000000001)), (1000000001, .mps l)] (.tup []) [(1000000000, .box1 (.own 1000000001)), (1000000001, .mps (inT s l x))] := by
 have q1 : (0 : Int) = 0 ∧ (0 : Int) = 0 ∧ SpotR x := ⟨rfl, rfl, by omega, by omega⟩
 have q2 : 0 ≤ (x : Int) ∧ (x : Int).toNat < s.data.toList.length := ⟨by omega, by omega⟩
 unfold inT isPt
 by_cases hb0 : ((s.data.toList.getD x 0).toNat : Int) = 46
 · rw [if_pos (decide_eq_true hb0)]
   refine FnM.of_body tys_ok Tryd.func39 (by rfl) rfl Tryd.ntmps39 (by rw [Tryd.results39]) (by simp) ?_
   repeat' (first
 | refine W.seq ?_
 | refine W.block ?_
 | (refine W.frz (t := 3) (x := Code.region 1 _ _) rfl rfl rfl ?_)
 | (refine W.drawCD (id := 1) tys_ok [] [] mixed [0, 0, 2, 5, 8, 0, 32, 80, 128, 0, 512, 1280, 2048] [([0, 1, 2, 3, 4, 5, 6, 7, 8, 9, 10], 1, 4095), ([12], 0, 8191)] [some ⟨[(12, .lit (.string s)), (14, (.lit (.int .i64 (x : Int)))), (2, .padr 1000000000 0), (3, .st false (.sadr (.agg [I64 0, I64 x, I64 0])))], [(1000000000, .box1 (.own 1000000001)), (1000000001, .mps l)]⟩, none] (by decide +kernel) ?_; conv => whnf)
 | (refine W.region tys_ok [] ?_; conv => whnf)
 | (refine W.drawAll tys_ok [] mixed rfl ?_; conv => whnf)
 | (refine W.ret ?_; conv => whnf)
 | (refine W.skip ?_; conv => whnf)
 | (refine W.exit ?_; conv => whnf)
 | (refine Both.mk ?_ ?_ <;> (conv => whnf))
 | (refine W.cond rfl (fun hb => ?_) (fun hb => ?_) <;> (try simp only [zr, zd, zm, minL, maxL, pickB, zA] at hb) <;> (try (first | (cases hb; done) | exact absurd hb (by decide) | (exfalso; omega) | (omega) | ((exact absurd hb0 hb)) | ((exact absurd hb hb0)))))
 | (refine Or.inl (And.intro ?_ ?_); exact zi; conv => whnf)
 | (refine Or.inr (And.intro ?_ ?_); exact zj; conv => whnf)
 | ((with_reducible refine And.intro ?_ ?_); exact zc; conv => whnf)
 | ((with_reducible refine And.intro (Side.out ?_) ?_); rotate_left; (conv => whnf))
 | ((first | refine retM1 ?_ | refine retM2 ?_ | refine subF.leaf ?_ | refine subF.side ?_) <;> (conv => whnf) <;> repeat' (first
 | exact trivial
 | (with_reducible rfl)
 | ((with_reducible refine And.intro ?_ ?_) <;> conv => whnf)
 | omega
 | rfl
 | (refine congrArg (SV.arr _) ?_)
 | (refine congrArg (Value.int _) ?_)
 | (refine congrArg Value.bool ?_)))); all_goals (try unfold Side)
   all_goals try (repeat' (first | exact zb | with_reducible refine And.intro ?_ ?_))
   all_goals first | exact Path.imp_of q1 | exact Path.imp_of q2 | skip
 · rw [if_neg (by simpa using hb0)]
   refine FnM.of_body tys_ok Tryd.func39 (by rfl) rfl Tryd.ntmps39 (by rw [Tryd.results39]) (by simp) ?_
   repeat' (first
 | refine W.seq ?_
 | refine W.block ?_
 | (refine W.frz (t := 3) (x := Code.region 1 _ _) rfl rfl rfl ?_)
 | (refine W.drawCD (id := 1) tys_ok [] [] mixed [0, 0, 2, 5, 8, 0, 32, 80, 128, 0, 512, 1280, 2048] [([0, 1, 2, 3, 4, 5, 6, 7, 8, 9, 10], 1, 4095), ([12], 0, 8191)] [some ⟨[(12, .lit (.string s)), (14, (.lit (.int .i64 (x : Int)))), (2, .padr 1000000000 0), (3, .st false (.sadr (.agg [I64 0, I64 x, I64 0])))], [(1000000000, .box1 (.own 1000000001)), (1000000001, .mps l)]⟩, none] (by decide +kernel) ?_; conv => whnf)
 | (refine W.region tys_ok [] ?_; conv => whnf)
 | (refine W.drawAll tys_ok [] mixed rfl ?_; conv => whnf)
 | (refine W.ret ?_; conv => whnf)
 | (refine W.skip ?_; conv => whnf)
 | (refine W.exit ?_; conv => whnf)
 | (refine Both.mk ?_ ?_ <;> (conv => whnf))
 | (refine W.cond rfl (fun hb => ?_) (fun hb => ?_) <;> (try simp only [zr, zd, zm, minL, maxL, pickB, zA] at hb) <;> (try (first | (cases hb; done) | exact absurd hb (by decide) | (exfalso; omega) | (omega) | ((exact absurd hb0 hb)) | ((exact absurd hb hb0)))))
 | (refine Or.inl (And.intro ?_ ?_); exact zi; conv => whnf)
 | (refine Or.inr (And.intro ?_ ?_); exact zj; conv => whnf)
 | ((with_reducible refine And.intro ?_ ?_); exact zc; conv => whnf)
 | ((with_reducible refine And.intro (Side.out ?_) ?_); rotate_left; (conv => whnf))
 | ((first | refine retM1 ?_ | refine retM2 ?_ | refine subF.leaf ?_ | refine subF.side ?_) <;> (conv => whnf) <;> repeat' (first
 | exact trivial
 | (with_reducible rfl)
 | ((with_reducible refine And.intro ?_ ?_) <;> conv => whnf)
 | omega
 | rfl
 | (refine congrArg (SV.arr _) ?_)
 | (refine congrArg (Value.int _) ?_)
 | (refine congrArg Value.bool ?_)))); all_goals (try unfold Side)
   all_goals try (repeat' (first | exact zb | with_reducible refine And.intro ?_ ?_))
   all_goals first | exact Path.imp_of q1 | exact Path.imp_of q2 | skip
set_option maxHeartbeats 4000000 in
theorem ker1_m {x : Nat} {l : List Int} (hx2 : x ≤ 100) (hl : (x : Int) ∈ l) : FnM Tryd.prog 42 [.strct [(.lit (.int .i64 (0 : Int))), (.lit (.int .i64 (x : Int))), (.lit (.int .i64 (0 : Int)))], .padr 1000000000 0, .padr 1000000002 0] [(1000000000, .box1 (.own 1000000001)), (1000000001, .mps l), (1000000002, .box1 (.own 1000000003)), (1000000003, .mps [])] (.tup []) [(1000000000, .box1 (.own 1000000001)), (1000000001, .mps l), (1000000002, .box1 (.own 1000000003)), (1000000003, .mps [])] := by
 have q1 : (0 : Int) = 0 ∧ (0 : Int) = 0 ∧ SpotR x := ⟨rfl, rfl, by omega, by omega⟩
 have hd := decide_eq_true hl
 refine FnM.of_body tys_ok Tryd.func42 (by rfl) rfl Tryd.ntmps42 (by rw [Tryd.results42]) (by simp) ?_
 repeat' (first
 | refine W.seq ?_
 | refine W.block ?_
 | (refine W.region tys_ok [] ?_; conv => whnf)
 | (refine W.drawAll tys_ok [] mixed rfl ?_; conv => whnf)
 | (refine W.ret ?_; conv => whnf)
 | (refine W.skip ?_; conv => whnf)
 | (refine W.exit ?_; conv => whnf)
 | (refine W.cond rfl (fun hb => ?_) (fun hb => ?_) <;> (try simp only [zr, zd, zm, minL, maxL, pickB, zA] at hb) <;> (try (first | (cases hb; done) | exact absurd hb (by decide) | (exfalso; omega) | (omega) | ((exact absurd hl hb)) | ((simp [hl] at hb; done)))))
 | ((with_reducible refine And.intro ?_ ?_); exact zc; conv => whnf)
 | ((with_reducible refine And.intro (Side.out ?_) ?_); rotate_left; (conv => whnf))
 | ((first | refine retM1 ?_ | refine retM2 ?_) <;> (conv => whnf) <;> repeat' (first
 | exact trivial
 | (with_reducible rfl)
 | ((with_reducible refine And.intro ?_ ?_) <;> conv => whnf)
 | omega
 | rfl
 | (refine congrArg (SV.arr _) ?_)
 | (refine congrArg (Value.int _) ?_)
 | (refine congrArg Value.bool ?_)))); all_goals (try unfold Side)
 all_goals try (repeat' (first | exact zb | with_reducible refine And.intro ?_ ?_))
 all_goals first | exact Path.imp_of q1 | skip
set_option maxHeartbeats 4000000 in
theorem ker2_m {row : ByteArray} {w : Int} {x : Nat} {l : List Int} (hx2 : x ≤ 40) (hl : (x : Int) ∈ l) : FnM Tryd.prog 43 [.strct [(.lit (.int .i64 (0 : Int))), (.lit (.int .i64 (x : Int))), (.lit (.int .i64 (0 : Int)))], .padr 1000000000 0, .st true (.sadr (.sadr (.agg [.arr (.sl .str) ([[row]] : List (List ByteArray)), .arr MT mvL, .arr KT jlL, I64 1, I64 w]))), .padr 1000000002 0] [(1000000000, .box1 (.own 1000000001)), (1000000001, .mps l), (1000000002, .box1 (.lit (.slice none 0 0)))] (.tup []) [(1000000000, .box1 (.own 1000000001)), (1000000001, .mps l), (1000000002, .box1 (.lit (.slice none 0 0)))] := by
 have q1 : (0 : Int) = 0 ∧ (0 : Int) = 0 ∧ SpotR x := ⟨rfl, rfl, by omega, by omega⟩
 have c1 := m44_m (row := row) (w := w) (x := x) (l := l) (by omega)
 have hm : 0 ≤ mvT l x := by
  unfold mvT
  have : (x : Int) + mvX 2 + 0 = x := by show (x : Int) + 0 + 0 = x; omega
  rw [this, if_pos hl]
  split
  · omega
  · split <;> omega
 obtain ⟨r, hr⟩ : ∃ r, r = mvT l x := ⟨_, rfl⟩
 rw [← hr] at c1 hm
 have hd := decide_eq_true hl
 refine FnM.of_body tys_ok Tryd.func43 (by rfl) rfl Tryd.ntmps43 (by rw [Tryd.results43]) (by simp) ?_
 repeat' (first
 | refine W.seq ?_
 | refine W.block ?_
 | (refine W.regionM (id := 1) tys_ok [] [7] ?_; conv => whnf)
 | (refine W.region tys_ok [] ?_; conv => whnf)
 | (refine W.drawAll tys_ok [] mixed rfl ?_; conv => whnf)
 | (refine W.ret ?_; conv => whnf)
 | (refine W.skip ?_; conv => whnf)
 | (refine W.exit ?_; conv => whnf)
 | (refine callM_at (c1) ?_; conv => whnf)
 | (refine W.cond rfl (fun hb => ?_) (fun hb => ?_) <;> (try simp only [zr, zd, zm, minL, maxL, pickB, zA] at hb) <;> (try (first | (cases hb; done) | exact absurd hb (by decide) | (exfalso; omega) | (omega) | ((simp [hl, pickB] at hb; omega)))))
 | (refine Or.inl (And.intro ?_ ?_); exact zi; conv => whnf)
 | (refine Or.inr (And.intro ?_ ?_); exact zj; conv => whnf)
 | ((with_reducible refine And.intro ?_ ?_); exact zc; conv => whnf)
 | ((with_reducible refine And.intro (Side.out ?_) ?_); rotate_left; (conv => whnf))
 | ((first | refine retM1 ?_ | refine retM2 ?_) <;> (conv => whnf) <;> repeat' (first
 | exact trivial
 | (with_reducible rfl)
 | ((with_reducible refine And.intro ?_ ?_) <;> conv => whnf)
 | omega
 | rfl
 | (refine congrArg (SV.arr _) ?_)
 | (refine congrArg (Value.int _) ?_)
 | (refine congrArg Value.bool ?_)))); all_goals (try unfold Side)
 all_goals try (repeat' (first | exact zb | with_reducible refine And.intro ?_ ?_))
 all_goals first | exact Path.imp_of q1 | skip
open Int renaming reduceToNat → zr, reduceTDiv → zd, reduceTMod → zm
open Go Go.Vc Go.Rg
abbrev S3 : Ty := .cons (.int .i64) (.cons (.int .i64) (.cons (.int .i64) .nil))
abbrev Sp := Int × Int × Int × Unit
def moreT (near : List Int) (more : List Sp) (x : Nat) : List Sp := if ¬ ((x : Int) ∈ near) ∧ 0 ≤ mvT near x then more ++ [(0, (x : Int), 0, ())] else more
set_option maxHeartbeats 8000000 in
theorem rea2_m {row : ByteArray} {w : Int} {x : Nat} {a n : List Int} {m : List Sp} (hx2 : x ≤ 40) (ha : (x : Int) ∈ a) (hm : m.length ≤ 40) :
  FnM Tryd.prog 28 [.strct [(.lit (.int .i64 (0 : Int))), (.lit (.int .i64 (x : Int))), (.lit (.int .i64 (0 : Int)))], .padr 1000000000 0, .padr 1000000002 0, .st true (.sadr (.sadr (.agg [.arr (.sl .str) ([[row]] : List (List ByteArray)), .arr MT mvL, .arr KT jlL, I64 1, I64 w]))), .padr 1000000004 0, .padr 1000000005 0] [(1000000000, .box1 (.own 1000000001)), (1000000001, .mps a), (1000000002, .box1 (.own 1000000003)), (1000000003, .mps n), (1000000004, .box1 (.fn 25 [.padr 1000000002 0])), (1000000005, .box1 (.own 0)), (0, .row 84 S3 true m)] (.tup []) [(1000000000, .box1 (.own 1000000001)), (1000000001, .mps a), (1000000002, .box1 (.own 1000000003)), (1000000003, .mps n), (1000000004, .box1 (.fn 25 [.padr 1000000002 0])), (1000000005, .box1 (.own 0)), (0, .row 84 S3 true (moreT n m x))] := by
 have q1 : (0 : Int) = 0 ∧ (0 : Int) = 0 ∧ SpotR x := ⟨rfl, rfl, by omega, by omega⟩
 have c1 := m25_m (row := row) (w := w) (x := x) (l := n) (by omega)
 obtain ⟨r, hr⟩ : ∃ r, r = mvT n x := ⟨_, rfl⟩
 rw [← hr] at c1
 have hda := decide_eq_true ha
 unfold moreT
 rw [← hr]
 by_cases hn : (x : Int) ∈ n
 · rw [if_neg (fun h => h.1 hn)]
   have hdn := decide_eq_true hn
   refine FnM.of_body tys_ok Tryd.func28 (by rfl) rfl Tryd.ntmps28 (by rw [Tryd.results28]) (by simp) ?_
   repeat' (first
 | refine W.seq ?_
 | refine W.block ?_
 | (refine W.regW (id := 1) ?_; refine RegW.go tys_ok [] [13] 13 rfl ?_; (conv => whnf))
 | (refine RegW.skip (i := 13) rfl rfl ?_ rfl rfl (.lit (.int .i64 0)) ?_; rotate_left; refine RegW.fin tys_ok [] [13] ?_; (conv => whnf))
 | (refine W.region tys_ok [] ?_; conv => whnf)
 | (refine W.drawAll tys_ok [] mixed rfl ?_; conv => whnf)
 | (refine W.ret ?_; conv => whnf)
 | (refine W.skip ?_; conv => whnf)
 | (refine W.exit ?_; conv => whnf)
 | (refine Both.mk ?_ ?_ <;> (conv => whnf))
 | (refine W.cond rfl (fun hb => ?_) (fun hb => ?_) <;> (try simp only [zr, zd, zm, minL, maxL, pickB, zA] at hb) <;> (try (first | (cases hb; done) | exact absurd hb (by decide) | (exfalso; omega) | (omega) | ((simp [ha, hn, pickB] at hb; done)))))
 | (refine Or.inl (And.intro trivial ?_); (conv => whnf))
 | ((with_reducible refine And.intro ?_ ?_); exact zc; conv => whnf)
 | ((with_reducible refine And.intro (Side.out ?_) ?_); rotate_left; (conv => whnf))
 | ((first | refine retM1 ?_ | refine retM2 ?_ | refine subF.leaf ?_ | refine subF.side ?_) <;> (conv => whnf) <;> repeat' (first
 | exact trivial
 | (with_reducible rfl)
 | ((with_reducible refine And.intro ?_ ?_) <;> conv => whnf)
 | omega
 | rfl
 | (refine congrArg (SV.arr _) ?_)
 | (refine congrArg (Value.int _) ?_)
 | (refine congrArg Value.bool ?_)))); all_goals (try unfold Side)
   all_goals try (repeat' (first | exact zb | with_reducible refine And.intro ?_ ?_))
   all_goals first | exact Path.imp_of q1 | (rintro ⟨h, _⟩; simp [ha, hn, pickB] at h; done) | skip
 · have hdn := decide_eq_false hn
   by_cases hr0 : 0 ≤ r
   · rw [if_pos ⟨hn, hr0⟩]
     refine FnM.of_body tys_ok Tryd.func28 (by rfl) rfl Tryd.ntmps28 (by rw [Tryd.results28]) (by simp) ?_
     repeat' (first
 | refine W.seq ?_
 | refine W.block ?_
 | (refine W.regionM (id := 1) tys_ok [] [13] ?_; conv => whnf)
 | (refine W.region tys_ok [] ?_; conv => whnf)
 | (refine W.drawAll tys_ok [] mixed rfl ?_; conv => whnf)
 | (refine W.ret ?_; conv => whnf)
 | (refine W.skip ?_; conv => whnf)
 | (refine W.exit ?_; conv => whnf)
 | (refine callM_at (c1) ?_; conv => whnf)
 | (refine W.cond rfl (fun hb => ?_) (fun hb => ?_) <;> (try simp only [zr, zd, zm, minL, maxL, pickB, zA] at hb) <;> (try (first | (cases hb; done) | exact absurd hb (by decide) | (exfalso; omega) | (omega) | ((simp [ha, hn, pickB] at hb; omega)))))
 | (refine Or.inl (And.intro ?_ ?_); exact zi; conv => whnf)
 | (refine Or.inr (And.intro ?_ ?_); exact zj; conv => whnf)
 | ((with_reducible refine And.intro ?_ ?_); exact zc; conv => whnf)
 | ((with_reducible refine And.intro (Side.out ?_) ?_); rotate_left; (conv => whnf))
 | ((first | refine retM1 ?_ | refine retM2 ?_) <;> (conv => whnf) <;> repeat' (first
 | exact trivial
 | (with_reducible rfl)
 | ((with_reducible refine And.intro ?_ ?_) <;> conv => whnf)
 | omega
 | rfl
 | (refine congrArg (SV.arr _) ?_)
 | (refine congrArg (Value.int _) ?_)
 | (refine congrArg Value.bool ?_)))); all_goals (try unfold Side)
     all_goals try (repeat' (first | exact zb | with_reducible refine And.intro ?_ ?_))
     all_goals first | exact Path.imp_of q1 | exact (by omega : m.length + 1 ≤ 4294967296) | skip
   · rw [if_neg (fun h => hr0 h.2)]
     refine FnM.of_body tys_ok Tryd.func28 (by rfl) rfl Tryd.ntmps28 (by rw [Tryd.results28]) (by simp) ?_
     repeat' (first
 | refine W.seq ?_
 | refine W.block ?_
 | (refine W.regionM (id := 1) tys_ok [] [13] ?_; conv => whnf)
 | (refine W.region tys_ok [] ?_; conv => whnf)
 | (refine W.drawAll tys_ok [] mixed rfl ?_; conv => whnf)
 | (refine W.ret ?_; conv => whnf)
 | (refine W.skip ?_; conv => whnf)
 | (refine W.exit ?_; conv => whnf)
 | (refine callM_at (c1) ?_; conv => whnf)
 | (refine W.cond rfl (fun hb => ?_) (fun hb => ?_) <;> (try simp only [zr, zd, zm, minL, maxL, pickB, zA] at hb) <;> (try (first | (cases hb; done) | exact absurd hb (by decide) | (exfalso; omega) | (omega) | ((simp [ha, hn, pickB] at hb; omega)))))
 | (refine Or.inl (And.intro ?_ ?_); exact zi; conv => whnf)
 | (refine Or.inr (And.intro ?_ ?_); exact zj; conv => whnf)
 | ((with_reducible refine And.intro ?_ ?_); exact zc; conv => whnf)
 | ((with_reducible refine And.intro (Side.out ?_) ?_); rotate_left; (conv => whnf))
 | ((first | refine retM1 ?_ | refine retM2 ?_) <;> (conv => whnf) <;> repeat' (first
 | exact trivial
 | (with_reducible rfl)
 | ((with_reducible refine And.intro ?_ ?_) <;> conv => whnf)
 | omega
 | rfl
 | (refine congrArg (SV.arr _) ?_)
 | (refine congrArg (Value.int _) ?_)
 | (refine congrArg Value.bool ?_)))); all_goals (try unfold Side)
     all_goals try (repeat' (first | exact zb | with_reducible refine And.intro ?_ ?_))
     all_goals first | exact Path.imp_of q1 | exact (by omega : m.length + 1 ≤ 4294967296) | skip
end Go.Proofs.YtckmhlpngolbpaaDoor
