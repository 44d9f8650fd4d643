/- Joined of: W7 W8 W9 W10 Vc37 W11 W12 W13. No condition. -/
import Derived.Test.YtckmhlpngolbpaaDoorJ7
import Derived.Test.YtckmhlpngolbpaaDoorJ4
import Derived.Test.YtckmhlpngolbpaaDoorJ5
import Derived.Shelf.Strings.Builder1
set_option linter.unusedVariables false
set_option linter.unusedSimpArgs false
namespace Go.Proofs.YtckmhlpngolbpaaDoor
open Int renaming reduceToNat → zr, reduceTDiv → zd, reduceTMod → zm
open Go Go.Vc Go.Rg
structure RowB (s : ByteArray) (w : Nat) : Prop where
 len : s.data.toList.length = w
 pc : ∀ x ∈ s.data.toList, x = 46 ∨ x = 35
set_option maxHeartbeats 4000000 in
theorem rowed_at {s : ByteArray} {w : Nat} (hw : 1 ≤ w ∧ w ≤ 16) (hs : RowB s w) : FnAt Tryd.prog false 23 [.arr (.sl .str) ([[s]] : List (List ByteArray)), I64 1, I64 1, I64 w] (.lit (.bool true)) [] := by
  have c1 : FnAt Tryd.prog false 36 [.lit (.string s), .lit (.string { data := #[46, 35] })] (.lit (.string { data := #[] })) [] := trim_at (by have := hs.len; show s.data.toList.length ≤ _; omega) (by decide) (fun j b hb => by
      match j, hb with
      | 0, hb => cases hb; decide
      | 1, hb => cases hb; decide
      | j + 2, hb => cases hb) (trim_all (fun x hx => by rcases hs.pc x hx with h | h <;> subst h <;> decide)).symm
  have hl := hs.len
  refine FnAt.of_body tys_ok Tryd.func23 (by rfl) rfl Tryd.ntmps23 (by rw [Tryd.results23]) (by simp) ?_
  repeat' (first
 | refine W.seq ?_
 | refine W.block ?_
 | (refine W.region tys_ok [] ?_; conv => whnf)
 | (refine W.drawAll tys_ok [] mixed rfl ?_; conv => whnf)
 | (refine W.ret ?_; conv => whnf)
 | (refine W.skip ?_; conv => whnf)
 | (refine W.exit ?_; conv => whnf)
 | (refine W.cond rfl (fun hb => ?_) (fun hb => ?_) <;> (try simp only [zr, zd, zm, minL, maxL, pickB, zA] at hb) <;> (try (first | (cases hb; done) | exact absurd hb (by decide) | (exfalso; omega) | (omega) | ((exact (hb rfl).elim)) | ((exact (hb (congrArg (fun n : Nat => (n : Int)) hs.len)).elim)))))
 | ((with_reducible refine And.intro ?_ ?_); exact zc; conv => whnf)
 | ((with_reducible refine And.intro (Side.out ?_) ?_); rotate_left; (conv => whnf))
 | ((first | refine retF1 ?_ | refine retF2 ?_) <;> (conv => whnf) <;> repeat' (first
 | exact trivial
 | (with_reducible rfl)
 | ((with_reducible refine And.intro ?_ ?_) <;> conv => whnf)
 | omega
 | rfl
 | (refine congrArg (SV.arr _) ?_)
 | (refine congrArg (Value.int _) ?_)
 | (refine congrArg Value.bool ?_)))); all_goals (try unfold Side)
  all_goals try (repeat' (first | exact zb | with_reducible refine And.intro ?_ ?_))
  refine W.loop (fun i : Nat => ⟨[(1, (.lit (.int .i64 (1 : Int)))), (2, (.lit (.int .i64 (1 : Int)))), (3, (.lit (.int .i64 (w : Int)))), (17, .st false (.arr (.sl .str) ([[s]] : List (List ByteArray)))), (18, (.lit (.int .i64 (1 : Int)))), (19, (.lit (.int .i64 (i : Int))))], []⟩) (fun i => i ≤ 1) (fun i => 1 - i) (0) ?_ ?_
  · refine ⟨by omega, ?_⟩
    refine subF.ok ?_ <;> (conv => whnf) <;> repeat' (first
 | exact trivial
 | (with_reducible rfl)
 | ((with_reducible refine And.intro ?_ ?_) <;> conv => whnf)
 | omega
 | rfl
 | (refine congrArg (SV.arr _) ?_)
 | (refine congrArg (Value.int _) ?_)
 | (refine congrArg Value.bool ?_))
  · rintro i hi
    by_cases hi0 : i = 0
    · subst hi0
      repeat' (first
 | refine W.seq ?_
 | refine W.block ?_
 | (refine W.region tys_ok [] ?_; conv => whnf)
 | (refine W.drawAll tys_ok [] mixed rfl ?_; conv => whnf)
 | (refine W.ret ?_; conv => whnf)
 | (refine W.skip ?_; conv => whnf)
 | (refine W.exit ?_; conv => whnf)
 | (refine W.cond rfl (fun hb => ?_) (fun hb => ?_) <;> (try simp only [zr, zd, zm, minL, maxL, pickB, zA] at hb) <;> (try (first | (cases hb; done) | exact absurd hb (by decide) | (exfalso; omega) | (omega) | ((exact (hb rfl).elim)) | ((exact (hb (congrArg (fun n : Nat => (n : Int)) hs.len)).elim)))))
 | ((with_reducible refine And.intro ?_ ?_); exact zc; conv => whnf)
 | ((with_reducible refine And.intro (Side.out ?_) ?_); rotate_left; (conv => whnf))
 | ((first | refine retF1 ?_ | refine retF2 ?_) <;> (conv => whnf) <;> repeat' (first
 | exact trivial
 | (with_reducible rfl)
 | ((with_reducible refine And.intro ?_ ?_) <;> conv => whnf)
 | omega
 | rfl
 | (refine congrArg (SV.arr _) ?_)
 | (refine congrArg (Value.int _) ?_)
 | (refine congrArg Value.bool ?_)))); all_goals (try unfold Side)
      all_goals try (repeat' (first | exact zb | with_reducible refine And.intro ?_ ?_))
      refine W.loop (fun j : Nat => ⟨[(1, (.lit (.int .i64 (1 : Int)))), (2, (.lit (.int .i64 (1 : Int)))), (3, (.lit (.int .i64 (w : Int)))), (17, .st false (.arr (.sl .str) ([[s]] : List (List ByteArray)))), (18, (.lit (.int .i64 (1 : Int)))), (19, (.lit (.int .i64 (0 : Int)))), (27, .st false (.arr .str ([s] : List ByteArray))), (28, (.lit (.int .i64 (1 : Int)))), (29, (.lit (.int .i64 (j : Int))))], []⟩) (fun j => j ≤ 1) (fun j => 1 - j) (0) ?_ ?_
      · refine ⟨by omega, ?_⟩
        refine subF.ok ?_ <;> (conv => whnf) <;> repeat' (first
 | exact trivial
 | (with_reducible rfl)
 | ((with_reducible refine And.intro ?_ ?_) <;> conv => whnf)
 | omega
 | rfl
 | (refine congrArg (SV.arr _) ?_)
 | (refine congrArg (Value.int _) ?_)
 | (refine congrArg Value.bool ?_))
      · rintro j hj
        by_cases hj0 : j = 0
        · subst hj0
          repeat' (first
 | refine W.seq ?_
 | refine W.block ?_
 | (refine W.region tys_ok [] ?_; conv => whnf)
 | (refine W.drawAll tys_ok [] mixed rfl ?_; conv => whnf)
 | (refine W.ret ?_; conv => whnf)
 | (refine W.skip ?_; conv => whnf)
 | (refine W.exit ?_; conv => whnf)
 | (refine call_at (al := false) (c1) rfl rfl rfl rfl ?_; conv => whnf)
 | (refine W.cond rfl (fun hb => ?_) (fun hb => ?_) <;> (try simp only [zr, zd, zm, minL, maxL, pickB, zA] at hb) <;> (try (first | (cases hb; done) | exact absurd hb (by decide) | (exfalso; omega) | (omega) | ((exact (hb rfl).elim)) | ((exact (hb (congrArg (fun n : Nat => (n : Int)) hs.len)).elim)) | ((simp [pickB] at hb; omega)))))
 | ((with_reducible refine And.intro ?_ ?_); exact zc; conv => whnf)
 | ((with_reducible refine And.intro (Side.out ?_) ?_); rotate_left; (conv => whnf))
 | ((first | refine retF1 ?_ | refine retF2 ?_) <;> (conv => whnf) <;> repeat' (first
 | exact trivial
 | (with_reducible rfl)
 | ((with_reducible refine And.intro ?_ ?_) <;> conv => whnf)
 | omega
 | rfl
 | (refine congrArg (SV.arr _) ?_)
 | (refine congrArg (Value.int _) ?_)
 | (refine congrArg Value.bool ?_)))); all_goals (try unfold Side)
          all_goals try (repeat' (first | exact zb | with_reducible refine And.intro ?_ ?_))
          refine ⟨1, ⟨by omega, by omega⟩, ?_⟩
          refine subF.ok ?_ <;> (conv => whnf) <;> repeat' (first
 | exact trivial
 | (with_reducible rfl)
 | ((with_reducible refine And.intro ?_ ?_) <;> conv => whnf)
 | omega
 | rfl
 | (refine congrArg (SV.arr _) ?_)
 | (refine congrArg (Value.int _) ?_)
 | (refine congrArg Value.bool ?_))
        · have hj1 : j = 1 := by omega
          subst hj1
          repeat' (first
 | refine W.seq ?_
 | refine W.block ?_
 | (refine W.region tys_ok [] ?_; conv => whnf)
 | (refine W.drawAll tys_ok [] mixed rfl ?_; conv => whnf)
 | (refine W.ret ?_; conv => whnf)
 | (refine W.skip ?_; conv => whnf)
 | (refine W.exit ?_; conv => whnf)
 | (refine W.cond rfl (fun hb => ?_) (fun hb => ?_) <;> (try simp only [zr, zd, zm, minL, maxL, pickB, zA] at hb) <;> (try (first | (cases hb; done) | exact absurd hb (by decide) | (exfalso; omega) | (omega) | ((exact (hb rfl).elim)) | ((exact (hb (congrArg (fun n : Nat => (n : Int)) hs.len)).elim)))))
 | ((with_reducible refine And.intro ?_ ?_); exact zc; conv => whnf)
 | ((with_reducible refine And.intro (Side.out ?_) ?_); rotate_left; (conv => whnf))
 | ((first | refine retF1 ?_ | refine retF2 ?_) <;> (conv => whnf) <;> repeat' (first
 | exact trivial
 | (with_reducible rfl)
 | ((with_reducible refine And.intro ?_ ?_) <;> conv => whnf)
 | omega
 | rfl
 | (refine congrArg (SV.arr _) ?_)
 | (refine congrArg (Value.int _) ?_)
 | (refine congrArg Value.bool ?_)))); all_goals (try unfold Side)
          all_goals try (repeat' (first | exact zb | with_reducible refine And.intro ?_ ?_))
          refine ⟨1, ⟨by omega, by omega⟩, ?_⟩
          refine subF.ok ?_ <;> (conv => whnf) <;> repeat' (first
 | exact trivial
 | (with_reducible rfl)
 | ((with_reducible refine And.intro ?_ ?_) <;> conv => whnf)
 | omega
 | rfl
 | (refine congrArg (SV.arr _) ?_)
 | (refine congrArg (Value.int _) ?_)
 | (refine congrArg Value.bool ?_))
    · have hi1 : i = 1 := by omega
      subst hi1
      repeat' (first
 | refine W.seq ?_
 | refine W.block ?_
 | (refine W.region tys_ok [] ?_; conv => whnf)
 | (refine W.drawAll tys_ok [] mixed rfl ?_; conv => whnf)
 | (refine W.ret ?_; conv => whnf)
 | (refine W.skip ?_; conv => whnf)
 | (refine W.exit ?_; conv => whnf)
 | (refine W.cond rfl (fun hb => ?_) (fun hb => ?_) <;> (try simp only [zr, zd, zm, minL, maxL, pickB, zA] at hb) <;> (try (first | (cases hb; done) | exact absurd hb (by decide) | (exfalso; omega) | (omega) | ((exact (hb rfl).elim)) | ((exact (hb (congrArg (fun n : Nat => (n : Int)) hs.len)).elim)))))
 | ((with_reducible refine And.intro ?_ ?_); exact zc; conv => whnf)
 | ((with_reducible refine And.intro (Side.out ?_) ?_); rotate_left; (conv => whnf))
 | ((first | refine retF1 ?_ | refine retF2 ?_) <;> (conv => whnf) <;> repeat' (first
 | exact trivial
 | (with_reducible rfl)
 | ((with_reducible refine And.intro ?_ ?_) <;> conv => whnf)
 | omega
 | rfl
 | (refine congrArg (SV.arr _) ?_)
 | (refine congrArg (Value.int _) ?_)
 | (refine congrArg Value.bool ?_)))); all_goals (try unfold Side)
      all_goals try (repeat' (first | exact zb | with_reducible refine And.intro ?_ ?_))
open Go Go.Vc Go.Rg
theorem rd_mv {a b : Int} (h1 : a = 0) (h2 : b = 0) (hb : ((a < 0 ∨ 1 ≤ a) ∨ b < 0) ∨ 1 ≤ b) : False := by omega
theorem rd_one {n : Nat} (h : n = 1) (hb : (n : Int) < 1 ∨ 16 < (n : Int)) : False := by omega
set_option maxHeartbeats 8000000 in
theorem read_m {row : ByteArray} {w : Nat} (hw : 1 ≤ w ∧ w ≤ 16) (hs : RowB row w) : FnM Tryd.prog 29 [.st true (.agg [.arr (.sl .str) ([[row]] : List (List ByteArray)), .arr MT mvL, .arr KT jlL])] [] (.tup [.st true (.sadr (.agg [.arr (.sl .str) ([[row]] : List (List ByteArray)), .arr MT mvL, .arr KT jlL, I64 1, I64 (w : Int)])), (.lit (.bool true))]) [] := by
 have c1 := rowed_at hw hs
 have c2 := @small_at
 have hl := hs.len
 have hml : mvL.length = 3 := rfl
 have hjl : jlL.length = 1 := rfl
 have hmlT : @List.length MT.T mvL = 3 := rfl
 have hjlT : @List.length KT.T jlL = 1 := rfl
 have hrl : @List.length (Ty.sl .str).T [[row]] = 1 := rfl
 have hr2 : List.length (@List.getD (Ty.sl .str).T [[row]] 0 (Ty.sl .str).dflt) = 1 := rfl
 refine FnM.of_body tys_ok Tryd.func29 (by rfl) rfl Tryd.ntmps29 (by rw [Tryd.results29]) (by simp) ?_
 repeat' (first
 | refine W.seq ?_
 | refine W.block ?_
 | (refine W.resub (x := Code.region 1 _ _) (Γ' := ⟨[(1, .st true (.sadr (.agg [.arr (.sl .str) ([[row]] : List (List ByteArray)), .arr MT mvL, .arr KT jlL])))], []⟩) ?_ (W.region tys_ok [] ?_); rotate_left; (conv => whnf))
 | (refine W.resub (x := Code.region 8 _ _) (Γ' := ⟨[(1, .st true (.sadr (.agg [.arr (.sl .str) ([[row]] : List (List ByteArray)), .arr MT mvL, .arr KT jlL]))), (4, (.lit (.int .i64 (1 : Int)))), (5, (.lit (.int .i64 (1 : Int)))), (6, (.lit (.int .i64 (w : Int))))], []⟩) ?_ (W.region tys_ok [] ?_); rotate_left; (conv => whnf))
 | (refine W.region tys_ok [] ?_; conv => whnf)
 | (refine W.drawAll tys_ok [] mixed rfl ?_; conv => whnf)
 | (refine W.ret ?_; conv => whnf)
 | (refine W.skip ?_; conv => whnf)
 | (refine W.exit ?_; conv => whnf)
 | (refine call_at (al := false) (c1) rfl rfl rfl rfl ?_; conv => whnf)
 | (refine W.cond rfl (fun hb => ?_) (fun hb => ?_) <;> (try simp only [zr, zd, zm, minL, maxL, pickB, zA] at hb) <;> (try (first | (cases hb; done) | exact absurd hb (by decide) | (exfalso; omega) | (omega) | ((exact (rd_one rfl hb).elim)) | ((exact absurd hb (by decide))))))
 | ((with_reducible refine And.intro ?_ ?_); exact zc; conv => whnf)
 | ((with_reducible refine And.intro (Side.out ?_) ?_); rotate_left; (conv => whnf))
 | ((first | refine retM1 ?_ | refine retM2 ?_) <;> (conv => whnf) <;> repeat' (first
 | exact trivial
 | (with_reducible rfl)
 | ((with_reducible refine And.intro ?_ ?_) <;> conv => whnf)
 | omega
 | rfl
 | (refine congrArg (SV.arr _) ?_)
 | (refine congrArg (Value.int _) ?_)
 | (refine congrArg Value.bool ?_)))); all_goals (try unfold Side)
 all_goals try refine subF.ok ?_ <;> (conv => whnf) <;> repeat' (first
 | exact trivial
 | (with_reducible rfl)
 | ((with_reducible refine And.intro ?_ ?_) <;> conv => whnf)
 | omega
 | rfl
 | (refine congrArg (SV.arr _) ?_)
 | (refine congrArg (Value.int _) ?_)
 | (refine congrArg Value.bool ?_))
 all_goals try (repeat' (first | exact zb | with_reducible refine And.intro ?_ ?_))
 all_goals first | exact congrArg (fun n : Nat => (n : Int)) hl | skip
 refine W.loop (fun k : Nat => ⟨[(1, .st true (.sadr (.agg [.arr (.sl .str) ([[row]] : List (List ByteArray)), .arr MT mvL, .arr KT jlL]))), (4, (.lit (.int .i64 (1 : Int)))), (5, (.lit (.int .i64 (1 : Int)))), (6, (.lit (.int .i64 (w : Int)))), (72, .st true (.arr MT mvL)), (73, (.lit (.int .i64 (3 : Int)))), (74, (.lit (.int .i64 (k : Int))))], []⟩) (fun k => k ≤ 3) (fun k => 3 - k) (0) ?_ ?_
 · refine ⟨by omega, ?_⟩
   refine subF.ok ?_ <;> (conv => whnf) <;> repeat' (first
 | exact trivial
 | (with_reducible rfl)
 | ((with_reducible refine And.intro ?_ ?_) <;> conv => whnf)
 | omega
 | rfl
 | (refine congrArg (SV.arr _) ?_)
 | (refine congrArg (Value.int _) ?_)
 | (refine congrArg Value.bool ?_))
 · intro k hk
   by_cases hk3 : k < 3
   · obtain ⟨m1, m2, m3, m4⟩ := mv_ok hk3
     have c3 := small_at (x := (mvL.getD k (0, 0, 0, 0, ())).2.2.1) (y := (mvL.getD k (0, 0, 0, 0, ())).2.2.2.1) (by have : mvX k = (mvL.getD k (0, 0, 0, 0, ())).2.2.1 := rfl; omega) (by omega)
     repeat' (first
 | refine W.seq ?_
 | refine W.block ?_
 | (refine W.region tys_ok [] ?_; conv => whnf)
 | (refine W.drawAll tys_ok [] mixed rfl ?_; conv => whnf)
 | (refine W.ret ?_; conv => whnf)
 | (refine W.skip ?_; conv => whnf)
 | (refine W.exit ?_; conv => whnf)
 | (refine call_at (al := false) (c3) rfl rfl rfl rfl ?_; conv => whnf)
 | (refine W.cond rfl (fun hb => ?_) (fun hb => ?_) <;> (try simp only [zr, zd, zm, minL, maxL, pickB, zA] at hb) <;> (try (first | (cases hb; done) | exact absurd hb (by decide) | (exfalso; omega) | (omega) | ((exact (rd_mv m1 m2 hb).elim)))))
 | ((with_reducible refine And.intro ?_ ?_); exact zc; conv => whnf)
 | ((with_reducible refine And.intro (Side.out ?_) ?_); rotate_left; (conv => whnf))
 | ((first | refine retM1 ?_ | refine retM2 ?_) <;> (conv => whnf) <;> repeat' (first
 | exact trivial
 | (with_reducible rfl)
 | ((with_reducible refine And.intro ?_ ?_) <;> conv => whnf)
 | omega
 | rfl
 | (refine congrArg (SV.arr _) ?_)
 | (refine congrArg (Value.int _) ?_)
 | (refine congrArg Value.bool ?_)))); all_goals (try unfold Side)
     all_goals try (repeat' (first | exact zb | with_reducible refine And.intro ?_ ?_))
     refine ⟨k + 1, ⟨by omega, by omega⟩, ?_⟩
     refine subF.ok ?_ <;> (conv => whnf) <;> repeat' (first
 | exact trivial
 | (with_reducible rfl)
 | ((with_reducible refine And.intro ?_ ?_) <;> conv => whnf)
 | omega
 | rfl
 | (refine congrArg (SV.arr _) ?_)
 | (refine congrArg (Value.int _) ?_)
 | (refine congrArg Value.bool ?_))
   · have hke : k = 3 := by omega
     subst hke
     repeat' (first
 | refine W.seq ?_
 | refine W.block ?_
 | (refine W.region tys_ok [] ?_; conv => whnf)
 | (refine W.drawAll tys_ok [] mixed rfl ?_; conv => whnf)
 | (refine W.ret ?_; conv => whnf)
 | (refine W.skip ?_; conv => whnf)
 | (refine W.exit ?_; conv => whnf)
 | (refine W.cond rfl (fun hb => ?_) (fun hb => ?_) <;> (try simp only [zr, zd, zm, minL, maxL, pickB, zA] at hb) <;> (try (first | (cases hb; done) | exact absurd hb (by decide) | (exfalso; omega) | (omega))))
 | ((with_reducible refine And.intro ?_ ?_); exact zc; conv => whnf)
 | ((with_reducible refine And.intro (Side.out ?_) ?_); rotate_left; (conv => whnf))
 | ((first | refine retM1 ?_ | refine retM2 ?_) <;> (conv => whnf) <;> repeat' (first
 | exact trivial
 | (with_reducible rfl)
 | ((with_reducible refine And.intro ?_ ?_) <;> conv => whnf)
 | omega
 | rfl
 | (refine congrArg (SV.arr _) ?_)
 | (refine congrArg (Value.int _) ?_)
 | (refine congrArg Value.bool ?_)))); all_goals (try unfold Side)
     all_goals try (repeat' (first | exact zb | with_reducible refine And.intro ?_ ?_))
     refine W.loop (fun k : Nat => ⟨[(1, .st true (.sadr (.agg [.arr (.sl .str) ([[row]] : List (List ByteArray)), .arr MT mvL, .arr KT jlL]))), (4, (.lit (.int .i64 (1 : Int)))), (5, (.lit (.int .i64 (1 : Int)))), (6, (.lit (.int .i64 (w : Int)))), (108, .st true (.arr KT jlL)), (109, (.lit (.int .i64 (1 : Int)))), (110, (.lit (.int .i64 (k : Int))))], []⟩) (fun k => k ≤ 1) (fun k => 1 - k) (0) ?_ ?_
     · refine ⟨by omega, ?_⟩
       refine subF.ok ?_ <;> (conv => whnf) <;> repeat' (first
 | exact trivial
 | (with_reducible rfl)
 | ((with_reducible refine And.intro ?_ ?_) <;> conv => whnf)
 | omega
 | rfl
 | (refine congrArg (SV.arr _) ?_)
 | (refine congrArg (Value.int _) ?_)
 | (refine congrArg Value.bool ?_))
     · intro k hk
       by_cases hk1 : k = 0
       · subst hk1
         have c3 := small_at (x := (jlL.getD 0 (0, 0, ())).1) (y := (jlL.getD 0 (0, 0, ())).2.1) (by decide) (by decide)
         repeat' (first
 | refine W.seq ?_
 | refine W.block ?_
 | (refine W.region tys_ok [] ?_; conv => whnf)
 | (refine W.drawAll tys_ok [] mixed rfl ?_; conv => whnf)
 | (refine W.ret ?_; conv => whnf)
 | (refine W.skip ?_; conv => whnf)
 | (refine W.exit ?_; conv => whnf)
 | (refine call_at (al := false) (c3) rfl rfl rfl rfl ?_; conv => whnf)
 | (refine W.cond rfl (fun hb => ?_) (fun hb => ?_) <;> (try simp only [zr, zd, zm, minL, maxL, pickB, zA] at hb) <;> (try (first | (cases hb; done) | exact absurd hb (by decide) | (exfalso; omega) | (omega))))
 | ((with_reducible refine And.intro ?_ ?_); exact zc; conv => whnf)
 | ((with_reducible refine And.intro (Side.out ?_) ?_); rotate_left; (conv => whnf))
 | ((first | refine retM1 ?_ | refine retM2 ?_) <;> (conv => whnf) <;> repeat' (first
 | exact trivial
 | (with_reducible rfl)
 | ((with_reducible refine And.intro ?_ ?_) <;> conv => whnf)
 | omega
 | rfl
 | (refine congrArg (SV.arr _) ?_)
 | (refine congrArg (Value.int _) ?_)
 | (refine congrArg Value.bool ?_)))); all_goals (try unfold Side)
         all_goals try (repeat' (first | exact zb | with_reducible refine And.intro ?_ ?_))
         refine ⟨1, ⟨by omega, by omega⟩, ?_⟩
         refine subF.ok ?_ <;> (conv => whnf) <;> repeat' (first
 | exact trivial
 | (with_reducible rfl)
 | ((with_reducible refine And.intro ?_ ?_) <;> conv => whnf)
 | omega
 | rfl
 | (refine congrArg (SV.arr _) ?_)
 | (refine congrArg (Value.int _) ?_)
 | (refine congrArg Value.bool ?_))
       · have hke : k = 1 := by omega
         subst hke
         repeat' (first
 | refine W.seq ?_
 | refine W.block ?_
 | (refine W.region tys_ok [] ?_; conv => whnf)
 | (refine W.drawAll tys_ok [] mixed rfl ?_; conv => whnf)
 | (refine W.ret ?_; conv => whnf)
 | (refine W.skip ?_; conv => whnf)
 | (refine W.exit ?_; conv => whnf)
 | (refine W.cond rfl (fun hb => ?_) (fun hb => ?_) <;> (try simp only [zr, zd, zm, minL, maxL, pickB, zA] at hb) <;> (try (first | (cases hb; done) | exact absurd hb (by decide) | (exfalso; omega) | (omega))))
 | ((with_reducible refine And.intro ?_ ?_); exact zc; conv => whnf)
 | ((with_reducible refine And.intro (Side.out ?_) ?_); rotate_left; (conv => whnf))
 | ((first | refine retM1 ?_ | refine retM2 ?_) <;> (conv => whnf) <;> repeat' (first
 | exact trivial
 | (with_reducible rfl)
 | ((with_reducible refine And.intro ?_ ?_) <;> conv => whnf)
 | omega
 | rfl
 | (refine congrArg (SV.arr _) ?_)
 | (refine congrArg (Value.int _) ?_)
 | (refine congrArg Value.bool ?_)))); all_goals (try unfold Side)
         all_goals try (repeat' (first | exact zb | with_reducible refine And.intro ?_ ?_))
open Int renaming reduceToNat → zr, reduceTDiv → zd, reduceTMod → zm
open Go Go.Vc Go.Rg
set_option maxHeartbeats 8000000 in
theorem at_m {row : ByteArray} {w a : Nat} (hw : 1 ≤ w ∧ w ≤ 16) (ha : a < w) (hs : RowB row w) : FnM Tryd.prog 22 [.st true (.agg [.arr (.sl .str) ([[row]] : List (List ByteArray)), .arr MT mvL, .arr KT jlL]), .strct [(.lit (.int .i64 (0 : Int))), (.lit (.int .i64 (a : Int))), (.lit (.int .i64 (0 : Int)))]] [] (.tup [.st true (.sadr (.agg [.arr (.sl .str) ([[row]] : List (List ByteArray)), .arr MT mvL, .arr KT jlL, I64 1, I64 (w : Int)])), .strct [(.lit (.int .i64 (0 : Int))), (.lit (.int .i64 (a : Int))), (.lit (.int .i64 (0 : Int)))], (.lit (.int .i64 (0 : Int)))]) [] := by
 have c1 := read_m hw hs
 have hrl : @List.length (Ty.sl .str).T [[row]] = 1 := rfl
 refine FnM.of_body tys_ok Tryd.func22 (by rfl) rfl Tryd.ntmps22 (by rw [Tryd.results22]) (by simp) ?_
 repeat' (first
 | refine W.seq ?_
 | refine W.block ?_
 | (refine W.resub (x := Code.region 1 _ _) (Γ' := ⟨[(2, .st true (.sadr (.agg [.arr (.sl .str) ([[row]] : List (List ByteArray)), .arr MT mvL, .arr KT jlL]))), (3, .padr 4000 0), (5, .padr 6000 0), (6, (.lit (.int .i64 (0 : Int))))], [(4000, .box [(.lit (.int .i64 (0 : Int))), (.lit (.int .i64 (a : Int))), (.lit (.int .i64 (0 : Int)))]), (6000, .box [(.lit (.int .i64 (0 : Int))), (.lit (.int .i64 (0 : Int))), (.lit (.int .i64 (0 : Int)))])]⟩) ?_ (W.regionM tys_ok [] [1] ?_); rotate_left; (conv => whnf))
 | (refine W.frz (t := 3) (x := Code.region 2 _ _) rfl rfl rfl ?_)
 | (refine W.drawM (id := 2) tys_ok [] [] mixed [0, 1, 2, 4, 12, 20, 36, 68, 128, 384, 128, 1152, 2176, 4224, 8320, 16512, 33408, 65664, 131200, 262144, 786432, 1310720, 2359296, 4456448, 8388608, 25165824, 8388608, 75497472, 142606336, 276824064, 578813952, 1082130432, 2155872256, 4294967296, 12884901888, 21474836480, 38654705664, 73014444032, 137438953472, 412316860416, 137438953472, 1236950581248, 2336462209024, 4535485464576, 9483287789568, 17729624997888] [([0, 1, 2, 3, 4, 5, 6, 7, 8, 9, 10, 11, 12, 13, 14, 15, 16, 17, 18, 19, 20, 21, 22, 23, 24, 25, 26, 27, 28, 29, 30, 31, 32, 33, 34, 35, 36, 37, 38, 39, 40, 41, 42, 43, 44, 45], 0, 70368744177663)] (by decide +kernel) ?_; conv => whnf)
 | (refine W.drawM (id := 4) tys_ok [] [] mixed [0, 0, 2, 0, 8, 0, 32, 84, 1, 511, 1023] [([0, 1, 2, 3, 4, 5, 6, 8], 1, 511), ([], 1, 1023), ([10], 0, 2047)] (by decide +kernel) ?_; conv => whnf)
 | (refine W.region tys_ok [] ?_; conv => whnf)
 | (refine W.drawAll tys_ok [] mixed rfl ?_; conv => whnf)
 | (refine W.ret ?_; conv => whnf)
 | (refine W.skip ?_; conv => whnf)
 | (refine W.exit ?_; conv => whnf)
 | (refine callM_at (c1) ?_; conv => whnf)
 | (refine Both.mk ?_ ?_ <;> (conv => whnf))
 | (refine W.cond rfl (fun hb => ?_) (fun hb => ?_) <;> (try simp only [zr, zd, zm, minL, maxL, pickB, zA] at hb) <;> (try (first | (cases hb; done) | exact absurd hb (by decide) | (exfalso; omega) | (omega))))
 | (refine Or.inl (And.intro ?_ ?_); exact zi; conv => whnf)
 | (refine Or.inr (And.intro ?_ ?_); exact zj; conv => whnf)
 | ((with_reducible refine And.intro ?_ ?_); exact zc; conv => whnf)
 | ((with_reducible refine And.intro (Side.out ?_) ?_); rotate_left; (conv => whnf))
 | ((first | refine retM1 ?_ | refine retM2 ?_ | refine subF.leaf ?_ | refine subF.side ?_) <;> (conv => whnf) <;> repeat' (first
 | exact trivial
 | (with_reducible rfl)
 | ((with_reducible refine And.intro ?_ ?_) <;> conv => whnf)
 | omega
 | rfl
 | (refine congrArg (SV.arr _) ?_)
 | (refine congrArg (Value.int _) ?_)
 | (refine congrArg Value.bool ?_)))); all_goals (try unfold Side)
 all_goals try refine subF.ok ?_ <;> (conv => whnf) <;> repeat' (first
 | exact trivial
 | (with_reducible rfl)
 | ((with_reducible refine And.intro ?_ ?_) <;> conv => whnf)
 | omega
 | rfl
 | (refine congrArg (SV.arr _) ?_)
 | (refine congrArg (Value.int _) ?_)
 | (refine congrArg Value.bool ?_))
 all_goals try (repeat' (first | exact zb | with_reducible refine And.intro ?_ ?_))
open Go Go.Vc Go.Rg
theorem sput_mem {l : List Int} {x z : Int} : z ∈ sput l x ↔ z ∈ l ∨ z = x := by
 unfold sput
 split
 · rename_i h
   constructor
   · exact .inl
   · rintro (h1 | rfl)
     · exact h1
     · exact h
 · simp
theorem inK_mem {s : ByteArray} {z : Int} : ∀ {k : Nat}, z ∈ inK s k ↔ ∃ y, y < k ∧ z = (y : Nat) ∧ isPt s y = true
 | 0 => by simp [inK]
 | k + 1 => by
  rw [inK, inT]
  by_cases h : isPt s k = true
  · rw [if_pos h, sput_mem, inK_mem (k := k)]
    constructor
    · rintro (⟨y, h1, h2, h3⟩ | rfl)
      · exact ⟨y, by omega, h2, h3⟩
      · exact ⟨k, by omega, rfl, h⟩
    · rintro ⟨y, h1, h2, h3⟩
      by_cases e : y = k
      · subst e; exact .inr h2
      · exact .inl ⟨y, by omega, h2, h3⟩
  · rw [if_neg h, inK_mem (k := k)]
    constructor
    · rintro ⟨y, h1, h2, h3⟩; exact ⟨y, by omega, h2, h3⟩
    · rintro ⟨y, h1, h2, h3⟩
      exact ⟨y, by (have : y ≠ k := fun e => h (e ▸ h3)); omega, h2, h3⟩
theorem inK_one {s : ByteArray} {b w : Nat} (h : ∀ y, y < w → (isPt s y = true ↔ y = b)) : ∀ {k : Nat}, k ≤ w → inK s k = if b < k then [(b : Int)] else []
 | 0, _ => by simp [inK]
 | k + 1, hk => by
  rw [inK, inK_one h (k := k) (by omega), inT]
  by_cases e : k = b
  · subst e
    rw [if_pos ((h k (by omega)).2 rfl), if_neg (Nat.lt_irrefl k), if_pos (by omega)]
    simp [sput]
  · rw [if_neg (fun hp => e ((h k (by omega)).1 hp))]
    by_cases hb : b < k
    · rw [if_pos hb, if_pos (by omega)]
    · rw [if_neg hb, if_neg (by omega)]
def NearB (w b k : Nat) (N : List Int) : Prop := ∀ z : Int, z ∈ N ↔ 0 ≤ z ∧ z < w ∧ z - b ≤ (k : Int) - 1 ∧ (b : Int) - z ≤ (k : Int) - 1
theorem mvT_pos {N : List Int} {x : Int} : 0 ≤ mvT N x ↔ x + 1 ∈ N ∨ x - 1 ∈ N ∨ x ∈ N := by
 have e0 : x + mvX 0 + 0 = x + 1 := by show x + 1 + 0 = x + 1; omega
 have e1 : x + mvX 1 + 0 = x - 1 := by show x + (-1) + 0 = x - 1; omega
 have e2 : x + mvX 2 + 0 = x := by show x + 0 + 0 = x; omega
 unfold mvT
 rw [e0, e1, e2]
 by_cases h0 : x + 1 ∈ N
 · rw [if_pos h0]; simp [h0]
 · rw [if_neg h0]
   by_cases h1 : x - 1 ∈ N
   · rw [if_pos h1]; simp [h1]
   · rw [if_neg h1]
     by_cases h2 : x ∈ N
     · rw [if_pos h2]; simp [h2]
     · rw [if_neg h2]; simp [h0, h1, h2]
theorem mvT_val {N : List Int} {x : Int} : mvT N x = if x + 1 ∈ N then 0 else if x - 1 ∈ N then 1 else if x ∈ N then 2 else -1 := by
 have e0 : x + mvX 0 + 0 = x + 1 := by show x + 1 + 0 = x + 1; omega
 have e1 : x + mvX 1 + 0 = x - 1 := by show x + (-1) + 0 = x - 1; omega
 have e2 : x + mvX 2 + 0 = x := by show x + 0 + 0 = x; omega
 unfold mvT
 rw [e0, e1, e2]
theorem near_move {w a b k : Nat} {N : List Int} (hN : NearB w b k N) (ha : a < w) (hb : b < w) (hab : (a : Int) - b = k ∨ (b : Int) - a = k) (hk : 1 ≤ k) : mvT N a = if a < b then 0 else 1 := by
 rw [mvT_val]
 by_cases h : a < b
 · rw [if_pos h, if_pos ((hN _).2 (by omega))]
 · rw [if_neg h, if_neg (fun h1 => by have := (hN _).1 h1; omega), if_pos ((hN _).2 (by omega))]
theorem near_none {w a b k : Nat} {N : List Int} (hN : NearB w b k N) (hab : (a : Int) - b > k ∨ (b : Int) - a > k) : mvT N a < 0 := by
 have : ¬ 0 ≤ mvT N a := fun h => by
  rcases mvT_pos.1 h with h | h | h <;> (have := (hN _).1 h; omega)
 omega
theorem moreK_mem {N : List Int} {p : Sp} : ∀ {k : Nat}, p ∈ moreK N k ↔ ∃ y, y < k ∧ p = (0, ((y : Nat) : Int), 0, ()) ∧ ¬ ((y : Int) ∈ N) ∧ 0 ≤ mvT N y
 | 0 => by simp [moreK]
 | k + 1 => by
  rw [moreK, moreT]
  by_cases h : ¬ ((k : Int) ∈ N) ∧ 0 ≤ mvT N k
  · rw [if_pos h, List.mem_append, moreK_mem (k := k), List.mem_singleton]
    constructor
    · rintro (⟨y, h1, h2⟩ | rfl)
      · exact ⟨y, by omega, h2⟩
      · exact ⟨k, by omega, rfl, h⟩
    · rintro ⟨y, h1, h2⟩
      by_cases e : y = k
      · subst e; exact .inr h2.1
      · exact .inl ⟨y, by omega, h2⟩
  · rw [if_neg h, moreK_mem (k := k)]
    constructor
    · rintro ⟨y, h1, h2⟩; exact ⟨y, by omega, h2⟩
    · rintro ⟨y, h1, h2⟩
      exact ⟨y, by (have : y ≠ k := fun e => h (e ▸ h2.2)); omega, h2⟩
@[reducible] def P0 : Sp := (0, 0, 0, ())
def addK (N : List Int) (m : List Sp) : Nat → List Int
 | 0 => N
 | j + 1 => sput (addK N m j) (m.getD j P0).2.1
theorem addK_mem {N : List Int} {m : List Sp} {z : Int} : ∀ {j : Nat}, z ∈ addK N m j ↔ z ∈ N ∨ ∃ i, i < j ∧ (m.getD i P0).2.1 = z
 | 0 => by simp [addK]
 | j + 1 => by
  rw [addK, sput_mem, addK_mem (j := j)]
  constructor
  · rintro ((h | ⟨i, h1, h2⟩) | rfl)
    · exact .inl h
    · exact .inr ⟨i, by omega, h2⟩
    · exact .inr ⟨j, by omega, rfl⟩
  · rintro (h | ⟨i, h1, h2⟩)
    · exact .inl (.inl h)
    · by_cases e : i = j
      · subst e; exact .inr h2.symm
      · exact .inl (.inr ⟨i, by omega, h2⟩)
theorem near_step {w b k : Nat} {N : List Int} (hN : NearB w b k N) (hk : 1 ≤ k) (hb : b < w) : NearB w b (k + 1) (addK N (moreK N w) (moreK N w).length) := fun z => by
 rw [addK_mem, hN]
 constructor
 · rintro (h | ⟨i, h1, h2⟩)
   · omega
   · have h3 : (moreK N w).getD i P0 ∈ moreK N w := by rw [List.getD_eq_getElem?_getD, List.getElem?_eq_getElem h1]; exact List.getElem_mem _
     obtain ⟨y, h4, h5, h6, h7⟩ := moreK_mem.1 h3
     rw [h5] at h2
     have h2 : (y : Int) = z := h2
     rcases mvT_pos.1 h7 with h | h | h <;> (have := (hN _).1 h; omega)
 · intro h
   by_cases hz : z - b ≤ (k : Int) - 1 ∧ (b : Int) - z ≤ (k : Int) - 1
   · exact .inl ⟨by omega, by omega, hz.1, hz.2⟩
   · obtain ⟨y, hy⟩ : ∃ y : Nat, z = y := ⟨z.toNat, by omega⟩
     subst hy
     have hm : ((0, (y : Int), 0, ()) : Sp) ∈ moreK N w := moreK_mem.2 ⟨y, by omega, rfl, fun h1 => by have := (hN _).1 h1; omega, mvT_pos.2 (by
      by_cases h1 : (y : Int) < b
      · exact .inl ((hN _).2 (by omega))
      · exact .inr (.inl ((hN _).2 (by omega))))⟩
     obtain ⟨i, h1, h2⟩ := List.getElem_of_mem hm
     exact .inr ⟨i, h1, by rw [List.getD_eq_getElem?_getD, List.getElem?_eq_getElem h1]; show (moreK N w)[i].2.1 = _; rw [h2]⟩
theorem more_some {w a b k : Nat} {N : List Int} (hN : NearB w b k N) (ha : a < w) (hb : b < w) (hk : 1 ≤ k) (hab : (a : Int) - b > k ∨ (b : Int) - a > k) : moreK N w ≠ [] := fun e => by
 have h1 : ∃ y : Nat, y < w ∧ ((y : Int) - b = k ∨ (b : Int) - y = k) := by
  rcases hab with h | h
  · exact ⟨b + k, by omega, .inl (by omega)⟩
  · exact ⟨b - k, by omega, .inr (by omega)⟩
 obtain ⟨y, h2, h3⟩ := h1
 have hm : ((0, (y : Int), 0, ()) : Sp) ∈ moreK N w := moreK_mem.2 ⟨y, h2, rfl, fun h1 => by have := (hN _).1 h1; omega, mvT_pos.2 (by
  by_cases h1 : (y : Int) < b
  · exact .inl ((hN _).2 (by omega))
  · exact .inr (.inl ((hN _).2 (by omega))))⟩
 rw [e] at hm
 cases hm
theorem near_one {w b : Nat} (hb : b < w) : NearB w b 1 [(b : Int)] := fun z => by
 rw [List.mem_singleton]; omega
theorem moreK_rg {N : List Int} {w i : Nat} (hi : i < (moreK N w).length) : ∃ y : Nat, y < w ∧ (moreK N w).getD i P0 = (0, (y : Int), 0, ()) := by
 have h3 : (moreK N w).getD i P0 ∈ moreK N w := by rw [List.getD_eq_getElem?_getD, List.getElem?_eq_getElem hi]; exact List.getElem_mem _
 obtain ⟨y, h4, h5, _⟩ := moreK_mem.1 h3
 exact ⟨y, h4, h5⟩
end Go.Proofs.YtckmhlpngolbpaaDoor
namespace Go.Vc
theorem W.joinTo {P : Program} {n : Nat} {Q : Exit → Sy → Prop} {Γ : Sy} {t : Nat} {u x y z : Code} (Γ' : Sy) (h1 : W P n (.seq u (.cond (.tmp t) x y)) Γ (thenQ (fun Γ1 => Leaf (Sub Γ1 Γ' (mkRen Γ1 Γ'))) Q)) (h2 : W P n z Γ' Q) : W P n (.seq (.seq u (.cond (.tmp t) x y)) z) Γ Q := by
 refine W.seq ⟨fun c g a w hn hst => wp_mono (h1.out c g a w hn hst) fun e a' w' hq => ?_⟩
 obtain ⟨Γ1, g', h3, h4⟩ := hq
 cases e with
 | normal => exact ⟨Γ1, g', (let ⟨h5⟩ := h3; W.sub h5 h2), h4⟩
 | _ => exact ⟨Γ1, g', h3, h4⟩
end Go.Vc
namespace Go.Proofs.YtckmhlpngolbpaaDoor
open Int renaming reduceToNat → zr, reduceTDiv → zd, reduceTMod → zm
open Go Go.Vc Go.Rg
def farT (a b : Nat) : Int := if a < b then (b : Int) - a else (a : Int) - b
def firT (a b : Nat) : Int := if a = b then -1 else if a < b then 0 else 1
set_option maxHeartbeats 16000000 in
theorem reach_m {row goal : ByteArray} {w a b : Nat} (hw : 1 ≤ w ∧ w ≤ 16) (ha : a < w) (hbw : b < w) (hs : RowB row w) (hg : RowB goal w) (hr : ∀ y, y < w → isPt row y = true) (hgb : ∀ y, y < w → (isPt goal y = true ↔ y = b)) :
  FnM Tryd.prog 11 [.st true (.agg [.arr (.sl .str) ([[row]] : List (List ByteArray)), .arr MT mvL, .arr KT jlL]), .st true (.arr (.sl .str) ([[goal]] : List (List ByteArray))), .strct [(.lit (.int .i64 (0 : Int))), (.lit (.int .i64 (a : Int))), (.lit (.int .i64 (0 : Int)))]] [] (.tup [.lit (.int .i64 (farT a b)), .lit (.int .i64 (firT a b)), (.lit (.int .i64 (0 : Int)))]) [] := by
 have c1 := at_m hw ha hs
 have c2 := rowed_at hw hg
 have c3 := in_m (row := row) (s := row) hw (by rw [hs.len]; exact Nat.le_refl _)
 have c4 := in_m (row := row) (s := goal) hw (by rw [hg.len]; exact Nat.le_refl _)
 rw [inK_one hgb (Nat.le_refl _), if_pos hbw] at c4
 have hA : ∀ x : Nat, x < w → (x : Int) ∈ inK row w := fun x hx => inK_mem.2 ⟨x, hx, rfl, hr x hx⟩
 obtain ⟨A, hAe⟩ : ∃ A, A = inK row w := ⟨_, rfl⟩
 rw [← hAe] at c3 hA
 have hAa := hA a ha
 have hAb := hA b hbw
 have hrl : @List.length (Ty.sl .str).T [[row]] = 1 := rfl
 have qa : (0 : Int) = 0 ∧ (0 : Int) = 0 ∧ SpotR a := ⟨rfl, rfl, by omega, by omega⟩
 have qb : (0 : Int) = 0 ∧ (0 : Int) = 0 ∧ SpotR b := ⟨rfl, rfl, by omega, by omega⟩
 refine FnM.of_body tys_ok Tryd.func11 (by rfl) rfl Tryd.ntmps11 (by rw [Tryd.results11]) (by simp) ?_
 repeat' (first
 | refine W.seq ?_
 | refine W.block ?_
 | (refine W.resub (x := Code.region 1 _ _) (Γ' := ⟨[(1, .st true (.arr (.sl .str) ([[goal]] : List (List ByteArray)))), (3, .st true (.sadr (.agg [.arr (.sl .str) ([[row]] : List (List ByteArray)), .arr MT mvL, .arr KT jlL]))), (5, .padr 6000 0)], [(6000, .box [(.lit (.int .i64 (0 : Int))), (.lit (.int .i64 (a : Int))), (.lit (.int .i64 (0 : Int)))])]⟩) ?_ (W.regionM tys_ok [] [2] ?_); rotate_left; (conv => whnf))
 | (refine W.resub (x := Code.region 4 _ _) (Γ' := ⟨[(1, .st true (.arr (.sl .str) ([[goal]] : List (List ByteArray)))), (9, .st true (.sadr (.sadr (.agg [.arr (.sl .str) ([[row]] : List (List ByteArray)), .arr MT mvL, .arr KT jlL, I64 1, I64 (w : Int)])))), (10, .padr 11000 0)], [(11000, .box [(.lit (.int .i64 (0 : Int))), (.lit (.int .i64 (a : Int))), (.lit (.int .i64 (0 : Int)))])]⟩) ?_ ?_; rotate_left; refine W.drawPhTo (id := 4) tys_ok [] mixed [0, 0, 2, 4, 8, 16, 32, 0, 128, 256, 512, 0, 2048, 4096, 8192, 17473, 32768, 98304] [([0, 1, 2, 3, 4, 5, 6, 7, 8, 9, 10, 11, 12, 13, 14], 1, 65535), ([16, 17], 0, 262143)] ⟨[(1, .st true (.arr (.sl .str) ([[goal]] : List (List ByteArray)))), (9, .st true (.sadr (.sadr (.agg [.arr (.sl .str) ([[row]] : List (List ByteArray)), .arr MT mvL, .arr KT jlL, I64 1, I64 (w : Int)])))), (10, .padr 11000 0), (33, (.lit (.bool false)))], [(11000, .box [(.lit (.int .i64 (0 : Int))), (.lit (.int .i64 (a : Int))), (.lit (.int .i64 (0 : Int)))])]⟩ (by decide +kernel) ?_ ?_; (conv => whnf); rotate_left; (conv => whnf))
 | (refine W.resub (x := Code.region 6 _ _) (Γ' := ⟨[(1, .st true (.arr (.sl .str) ([[goal]] : List (List ByteArray)))), (9, .st true (.sadr (.sadr (.agg [.arr (.sl .str) ([[row]] : List (List ByteArray)), .arr MT mvL, .arr KT jlL, I64 1, I64 (w : Int)])))), (10, .padr 11000 0)], [(11000, .box [(.lit (.int .i64 (0 : Int))), (.lit (.int .i64 (a : Int))), (.lit (.int .i64 (0 : Int)))])]⟩) ?_ ?_; rotate_left; refine W.drawMTo (id := 6) tys_ok [] [6, 9] mixed [0, 0, 2, 4, 8, 16, 33, 0, 0, 448, 0, 1663, 4095] [([0, 1, 2, 3, 4, 5, 7, 8], 3, 2047), ([], 1, 4095), ([12], 0, 8191)] ⟨[(9, .st true (.sadr (.sadr (.agg [.arr (.sl .str) ([[row]] : List (List ByteArray)), .arr MT mvL, .arr KT jlL, I64 1, I64 (w : Int)])))), (10, .padr 11000 0), (12, .padr 13000 0), (13, .own 14000)], [(11000, .box [(.lit (.int .i64 (0 : Int))), (.lit (.int .i64 (a : Int))), (.lit (.int .i64 (0 : Int)))]), (13000, .box1 (.own 13001)), (13001, .mps A), (14000, .mps [(b : Int)])]⟩ (by decide +kernel) ?_ ?_; (conv => whnf); rotate_left; (conv => whnf))
 | (refine W.region tys_ok [] ?_; conv => whnf)
 | (refine W.drawAll tys_ok [] mixed rfl ?_; conv => whnf)
 | (refine W.ret ?_; conv => whnf)
 | (refine W.skip ?_; conv => whnf)
 | (refine W.exit ?_; conv => whnf)
 | (refine callM_at (c1) ?_; conv => whnf)
 | (refine call_at (al := false) (c2) rfl rfl rfl rfl ?_; conv => whnf)
 | (refine callM_at (c3) ?_; clear c3; conv => whnf)
 | (refine callM_at (c4) ?_; conv => whnf)
 | (refine Both.mk ?_ ?_ <;> (conv => whnf))
 | (refine W.cond rfl (fun hb => ?_) (fun hb => ?_) <;> (try simp only [zr, zd, zm, minL, maxL, pickB, zA] at hb) <;> (try (first | (cases hb; done) | exact absurd hb (by decide) | (exfalso; omega) | (omega))))
 | (refine Or.inl (And.intro trivial ?_); (conv => whnf))
 | ((with_reducible refine And.intro ?_ ?_); exact zc; conv => whnf)
 | ((with_reducible refine And.intro (Side.out ?_) ?_); rotate_left; (conv => whnf))
 | ((first | refine retM1 ?_ | refine retM2 ?_ | refine subF.leaf ?_ | refine subF.side ?_) <;> (conv => whnf) <;> repeat' (first
 | exact trivial
 | (with_reducible rfl)
 | ((with_reducible refine And.intro ?_ ?_) <;> conv => whnf)
 | omega
 | rfl
 | (refine congrArg (SV.arr _) ?_)
 | (refine congrArg (Value.int _) ?_)
 | (refine congrArg Value.bool ?_)))); all_goals (try unfold Side)
 all_goals try refine subF.ok ?_ <;> (conv => whnf) <;> repeat' (first
 | exact trivial
 | (with_reducible rfl)
 | ((with_reducible refine And.intro ?_ ?_) <;> conv => whnf)
 | omega
 | rfl
 | (refine congrArg (SV.arr _) ?_)
 | (refine congrArg (Value.int _) ?_)
 | (refine congrArg Value.bool ?_))
 all_goals try (repeat' (first | exact zb | with_reducible refine And.intro ?_ ?_))
 refine W.loop (fun st : Bool => ⟨[(9, .st true (.sadr (.sadr (.agg [.arr (.sl .str) ([[row]] : List (List ByteArray)), .arr MT mvL, .arr KT jlL, I64 1, I64 (w : Int)])))), (10, .padr 11000 0), (12, .padr 13000 0), (13, .own 14000), (14, .padr 15000 0), (63, .padr 64000 0)], [(11000, .box [(.lit (.int .i64 (0 : Int))), (.lit (.int .i64 (a : Int))), (.lit (.int .i64 (0 : Int)))]), (13000, .box1 (.own 13001)), (13001, .mps A), (14000, .mps [(b : Int)]), (15000, .box1 (.own 15001)), (15001, .mps (if st = true then [(b : Int)] else [])), (64000, .mit 14000 st)]⟩) (fun st => True) (fun st => (if st = true then 0 else 1)) (false) ?_ ?_
 · refine ⟨trivial, ?_⟩
   refine subF.ok ?_ <;> (conv => whnf) <;> repeat' (first
 | exact trivial
 | (with_reducible rfl)
 | ((with_reducible refine And.intro ?_ ?_) <;> conv => whnf)
 | omega
 | rfl
 | (refine congrArg (SV.arr _) ?_)
 | (refine congrArg (Value.int _) ?_)
 | (refine congrArg Value.bool ?_))
 · rintro st _
   cases st with
   | false =>
    repeat' (first
 | refine W.seq ?_
 | refine W.block ?_
 | (refine W.region tys_ok [] ?_; conv => whnf)
 | (refine W.drawAll tys_ok [] mixed rfl ?_; conv => whnf)
 | (refine W.ret ?_; conv => whnf)
 | (refine W.skip ?_; conv => whnf)
 | (refine W.exit ?_; conv => whnf)
 | (refine W.cond rfl (fun hb => ?_) (fun hb => ?_) <;> (try simp only [zr, zd, zm, minL, maxL, pickB, zA] at hb) <;> (try (first | (cases hb; done) | exact absurd hb (by decide) | (exfalso; omega) | (omega) | ((simp [hAb] at hb; done)))))
 | ((with_reducible refine And.intro ?_ ?_); exact zc; conv => whnf)
 | ((with_reducible refine And.intro (Side.out ?_) ?_); rotate_left; (conv => whnf))
 | ((first | refine retM1 ?_ | refine retM2 ?_) <;> (conv => whnf) <;> repeat' (first
 | exact trivial
 | (with_reducible rfl)
 | ((with_reducible refine And.intro ?_ ?_) <;> conv => whnf)
 | omega
 | rfl
 | (refine congrArg (SV.arr _) ?_)
 | (refine congrArg (Value.int _) ?_)
 | (refine congrArg Value.bool ?_)))); all_goals (try unfold Side)
    all_goals try (repeat' (first | exact zb | with_reducible refine And.intro ?_ ?_))
    all_goals first | exact Path.imp_of qb | skip
    refine ⟨true, ⟨trivial, by simp⟩, ?_⟩
    refine subF.ok ?_ <;> (conv => whnf) <;> repeat' (first
 | exact trivial
 | (with_reducible rfl)
 | ((with_reducible refine And.intro ?_ ?_) <;> conv => whnf)
 | omega
 | rfl
 | (refine congrArg (SV.arr _) ?_)
 | (refine congrArg (Value.int _) ?_)
 | (refine congrArg Value.bool ?_))
    all_goals first | rfl | skip
   | true =>
    by_cases hab : a = b
    · have e1 : farT a b = 0 := by unfold farT; rw [hab, if_neg (Nat.lt_irrefl b)]; omega
      have e2 : firT a b = -1 := if_pos hab
      rw [e1, e2]
      repeat' (first
 | refine W.seq ?_
 | refine W.block ?_
 | (refine W.region tys_ok [] ?_; conv => whnf)
 | (refine W.drawAll tys_ok [] mixed rfl ?_; conv => whnf)
 | (refine W.ret ?_; conv => whnf)
 | (refine W.skip ?_; conv => whnf)
 | (refine W.exit ?_; conv => whnf)
 | (refine W.cond rfl (fun hb => ?_) (fun hb => ?_) <;> (try simp only [zr, zd, zm, minL, maxL, pickB, zA] at hb) <;> (try (first | (cases hb; done) | exact absurd hb (by decide) | (exfalso; omega) | (omega) | ((simp [hab] at hb; done)))))
 | ((with_reducible refine And.intro ?_ ?_); exact zc; conv => whnf)
 | ((with_reducible refine And.intro (Side.out ?_) ?_); rotate_left; (conv => whnf))
 | ((first | refine retM1 ?_ | refine retM2 ?_) <;> (conv => whnf) <;> repeat' (first
 | exact trivial
 | (with_reducible rfl)
 | ((with_reducible refine And.intro ?_ ?_) <;> conv => whnf)
 | omega
 | rfl
 | (refine congrArg (SV.arr _) ?_)
 | (refine congrArg (Value.int _) ?_)
 | (refine congrArg Value.bool ?_)))); all_goals (try unfold Side)
      all_goals try (repeat' (first | exact zb | with_reducible refine And.intro ?_ ?_))
      all_goals first | exact Path.imp_of qa | skip
    · have hab2 : ¬ (a : Int) ∈ [(b : Int)] := by simp; omega
      have hff : firT a b = if a < b then 0 else 1 := if_neg hab
      have hfa : (1 : Int) ≤ farT a b ∧ farT a b ≤ 15 := by unfold farT; split <;> omega
      have hfd : (a : Int) - b = farT a b ∨ (b : Int) - a = farT a b := by unfold farT; split <;> omega
      repeat' (first
 | refine W.seq ?_
 | refine W.block ?_
 | (refine W.region tys_ok [] ?_; conv => whnf)
 | (refine W.drawAll tys_ok [] mixed rfl ?_; conv => whnf)
 | (refine W.ret ?_; conv => whnf)
 | (refine W.skip ?_; conv => whnf)
 | (refine W.exit ?_; conv => whnf)
 | (refine W.cond rfl (fun hb => ?_) (fun hb => ?_) <;> (try simp only [zr, zd, zm, minL, maxL, pickB, zA] at hb) <;> (try (first | (cases hb; done) | exact absurd hb (by decide) | (exfalso; omega) | (omega) | ((exact absurd hb hab2)))))
 | ((with_reducible refine And.intro ?_ ?_); exact zc; conv => whnf)
 | ((with_reducible refine And.intro (Side.out ?_) ?_); rotate_left; (conv => whnf))
 | ((first | refine retM1 ?_ | refine retM2 ?_) <;> (conv => whnf) <;> repeat' (first
 | exact trivial
 | (with_reducible rfl)
 | ((with_reducible refine And.intro ?_ ?_) <;> conv => whnf)
 | omega
 | rfl
 | (refine congrArg (SV.arr _) ?_)
 | (refine congrArg (Value.int _) ?_)
 | (refine congrArg Value.bool ?_)))); all_goals (try unfold Side)
      all_goals try (repeat' (first | exact zb | with_reducible refine And.intro ?_ ?_))
      all_goals first | exact Path.imp_of qa | skip
      refine W.loop (fun q : Nat × List Int => ⟨[(9, .st true (.sadr (.sadr (.agg [.arr (.sl .str) ([[row]] : List (List ByteArray)), .arr MT mvL, .arr KT jlL, I64 1, I64 (w : Int)])))), (10, .padr 11000 0), (12, .padr 13000 0), (14, .padr 15000 0), (16, (.lit (.int .i64 (q.1 : Int))))], [(11000, .box [(.lit (.int .i64 (0 : Int))), (.lit (.int .i64 (a : Int))), (.lit (.int .i64 (0 : Int)))]), (13000, .box1 (.own 13001)), (13001, .mps A), (15000, .box1 (.own 15001)), (15001, .mps q.2)]⟩) (fun q => (1 ≤ q.1 ∧ (q.1 : Int) ≤ farT a b ∧ NearB w b q.1 q.2)) (fun q => 20 - q.1) ((1, [(b : Int)])) ?_ ?_
      · refine ⟨⟨by dsimp only; omega, hfa.1, near_one hbw⟩, ?_⟩
        refine subF.ok ?_ <;> (conv => whnf) <;> repeat' (first
 | exact trivial
 | (with_reducible rfl)
 | ((with_reducible refine And.intro ?_ ?_) <;> conv => whnf)
 | omega
 | rfl
 | (refine congrArg (SV.arr _) ?_)
 | (refine congrArg (Value.int _) ?_)
 | (refine congrArg Value.bool ?_))
      · rintro ⟨k, N⟩ ⟨hk1, hkf, hN⟩
        dsimp only at hk1 hkf hN ⊢
        have c5 := m25_m (row := row) (w := w) (x := a) (l := N) (by omega)
        obtain ⟨r, hr0⟩ : ∃ r, r = mvT N a := ⟨_, rfl⟩
        by_cases hke : (k : Int) = farT a b
        · have hr1 := hr0.trans (near_move hN ha hbw (by rw [hke]; exact hfd) hk1)
          rw [← hff] at hr1
          have hr2 : 0 ≤ r := by rw [hr1, hff]; split <;> omega
          rw [← hr0] at c5
          rw [← hke, ← hr1]
          repeat' (first
 | refine W.seq ?_
 | refine W.block ?_
 | (refine W.regionM (id := 18) tys_ok [] [3] ?_; conv => whnf)
 | (refine W.region tys_ok [] ?_; conv => whnf)
 | (refine W.drawAll tys_ok [] mixed rfl ?_; conv => whnf)
 | (refine W.ret ?_; conv => whnf)
 | (refine W.skip ?_; conv => whnf)
 | (refine W.exit ?_; conv => whnf)
 | (refine callM_at (c5) ?_; conv => whnf)
 | (refine W.cond rfl (fun hb => ?_) (fun hb => ?_) <;> (try simp only [zr, zd, zm, minL, maxL, pickB, zA] at hb) <;> (try (first | (cases hb; done) | exact absurd hb (by decide) | (exfalso; omega) | (omega) | ((simp [hAa, pickB] at hb; omega)))))
 | (refine Or.inl (And.intro trivial ?_); (conv => whnf))
 | ((with_reducible refine And.intro ?_ ?_); exact zc; conv => whnf)
 | ((with_reducible refine And.intro (Side.out ?_) ?_); rotate_left; (conv => whnf))
 | ((first | refine retM1 ?_ | refine retM2 ?_) <;> (conv => whnf) <;> repeat' (first
 | exact trivial
 | (with_reducible rfl)
 | ((with_reducible refine And.intro ?_ ?_) <;> conv => whnf)
 | omega
 | rfl
 | (refine congrArg (SV.arr _) ?_)
 | (refine congrArg (Value.int _) ?_)
 | (refine congrArg Value.bool ?_)))); all_goals (try unfold Side)
          all_goals try (repeat' (first | exact zb | with_reducible refine And.intro ?_ ?_))
          all_goals first | exact Path.imp_of qa | skip
        · have hr1 := near_none hN (a := a) (k := k) (by omega)
          rw [← hr0] at c5 hr1
          have c6 := crea2_m (row := row) hw (a := A) (n := N) hA
          have hm1 := more_some hN ha hbw hk1 (by omega)
          have hm2 := moreK_len (n := N) (k := w)
          have hm3 := near_step hN hk1 hbw
          have hm4 := fun i hi => moreK_rg (N := N) (w := w) (i := i) hi
          have hm0 : moreK N 0 = [] := rfl
          rw [hm0] at c6
          obtain ⟨m, hm⟩ : ∃ m, m = moreK N w := ⟨_, rfl⟩
          rw [← hm] at c6 hm1 hm2 hm3 hm4
          have hme : m.isEmpty = false := by cases m with
           | nil => exact absurd rfl hm1
           | cons p q => rfl
          repeat' (first
 | refine W.seq ?_
 | refine W.block ?_
 | (refine W.regionM (id := 18) tys_ok [] [3] ?_; conv => whnf)
 | (refine W.regionM (id := 22) tys_ok [] [2] ?_; conv => whnf)
 | (refine W.resub (x := Code.region 23 _ _) (Γ' := ⟨[(9, .st true (.sadr (.sadr (.agg [.arr (.sl .str) ([[row]] : List (List ByteArray)), .arr MT mvL, .arr KT jlL, I64 1, I64 (w : Int)])))), (10, .padr 11000 0), (12, .padr 13000 0), (14, .padr 15000 0), (16, (.lit (.int .i64 (k : Int)))), (19, .padr 20000 0)], [(11000, .box [(.lit (.int .i64 (0 : Int))), (.lit (.int .i64 (a : Int))), (.lit (.int .i64 (0 : Int)))]), (13000, .box1 (.own 13001)), (13001, .mps A), (15000, .box1 (.own 15001)), (15001, .mps N), (20000, .box1 (.st true (.narr S3 m)))]⟩) ?_ (W.region tys_ok [] ?_); rotate_left; (conv => whnf))
 | (refine W.region tys_ok [] ?_; conv => whnf)
 | (refine W.drawAll tys_ok [] mixed rfl ?_; conv => whnf)
 | (refine W.ret ?_; conv => whnf)
 | (refine W.skip ?_; conv => whnf)
 | (refine W.exit ?_; conv => whnf)
 | (refine callM_at (c5) ?_; conv => whnf)
 | (refine callM_at (c6) ?_; conv => whnf)
 | (refine W.cond rfl (fun hb => ?_) (fun hb => ?_) <;> (try simp only [zr, zd, zm, minL, maxL, pickB, zA] at hb) <;> (try (first | (cases hb; done) | exact absurd hb (by decide) | (exfalso; omega) | (omega) | ((simp [hAa, pickB] at hb; omega)) | ((exact (Bool.false_ne_true (hme.symm.trans hb)).elim)))))
 | (refine Or.inl (And.intro trivial ?_); (conv => whnf))
 | ((with_reducible refine And.intro ?_ ?_); exact zc; conv => whnf)
 | ((with_reducible refine And.intro (Side.out ?_) ?_); rotate_left; (conv => whnf))
 | ((first | refine retM1 ?_ | refine retM2 ?_) <;> (conv => whnf) <;> repeat' (first
 | exact trivial
 | (with_reducible rfl)
 | ((with_reducible refine And.intro ?_ ?_) <;> conv => whnf)
 | omega
 | rfl
 | (refine congrArg (SV.arr _) ?_)
 | (refine congrArg (Value.int _) ?_)
 | (refine congrArg Value.bool ?_)))); all_goals (try unfold Side)
          all_goals try refine subF.ok ?_ <;> (conv => whnf) <;> repeat' (first
 | exact trivial
 | (with_reducible rfl)
 | ((with_reducible refine And.intro ?_ ?_) <;> conv => whnf)
 | omega
 | rfl
 | (refine congrArg (SV.arr _) ?_)
 | (refine congrArg (Value.int _) ?_)
 | (refine congrArg Value.bool ?_))
          all_goals try (repeat' (first | exact zb | with_reducible refine And.intro ?_ ?_))
          all_goals first | exact Path.imp_of qa | exact hm1 | skip
          refine W.loop (fun j : Nat => ⟨[(9, .st true (.sadr (.sadr (.agg [.arr (.sl .str) ([[row]] : List (List ByteArray)), .arr MT mvL, .arr KT jlL, I64 1, I64 (w : Int)])))), (10, .padr 11000 0), (12, .padr 13000 0), (14, .padr 15000 0), (16, (.lit (.int .i64 (k : Int)))), (97, .st true (.narr S3 m)), (98, (.lit (.int .i64 (m.length : Int)))), (99, (.lit (.int .i64 (j : Int))))], [(11000, .box [(.lit (.int .i64 (0 : Int))), (.lit (.int .i64 (a : Int))), (.lit (.int .i64 (0 : Int)))]), (13000, .box1 (.own 13001)), (13001, .mps A), (15000, .box1 (.own 15001)), (15001, .mps (addK N m j))]⟩) (fun j => j ≤ m.length) (fun j => m.length - j) (0) ?_ ?_
          · refine ⟨Nat.zero_le _, ?_⟩
            refine subF.ok ?_ <;> (conv => whnf) <;> repeat' (first
 | exact trivial
 | (with_reducible rfl)
 | ((with_reducible refine And.intro ?_ ?_) <;> conv => whnf)
 | omega
 | rfl
 | (refine congrArg (SV.arr _) ?_)
 | (refine congrArg (Value.int _) ?_)
 | (refine congrArg Value.bool ?_))
          · rintro j hj
            by_cases hjl : j < m.length
            · obtain ⟨y, hy1, hy2⟩ := hm4 j hjl
              have qy : (m.getD j P0).1 = 0 ∧ (m.getD j P0).2.2.1 = 0 ∧ SpotR (m.getD j P0).2.1 := by
               rw [hy2]; exact ⟨rfl, rfl, show (-9223372036854775808 : Int) ≤ (y : Int) by omega, show (y : Int) ≤ 9223372036854775807 by omega⟩
              repeat' (first
 | refine W.seq ?_
 | refine W.block ?_
 | (refine W.region tys_ok [] ?_; conv => whnf)
 | (refine W.drawAll tys_ok [] mixed rfl ?_; conv => whnf)
 | (refine W.ret ?_; conv => whnf)
 | (refine W.skip ?_; conv => whnf)
 | (refine W.exit ?_; conv => whnf)
 | (refine W.cond rfl (fun hb => ?_) (fun hb => ?_) <;> (try simp only [zr, zd, zm, minL, maxL, pickB, zA] at hb) <;> (try (first | (cases hb; done) | exact absurd hb (by decide) | (exfalso; omega) | (omega))))
 | ((with_reducible refine And.intro ?_ ?_); exact zc; conv => whnf)
 | ((with_reducible refine And.intro (Side.out ?_) ?_); rotate_left; (conv => whnf))
 | ((first | refine retM1 ?_ | refine retM2 ?_) <;> (conv => whnf) <;> repeat' (first
 | exact trivial
 | (with_reducible rfl)
 | ((with_reducible refine And.intro ?_ ?_) <;> conv => whnf)
 | omega
 | rfl
 | (refine congrArg (SV.arr _) ?_)
 | (refine congrArg (Value.int _) ?_)
 | (refine congrArg Value.bool ?_)))); all_goals (try unfold Side)
              all_goals try (repeat' (first | exact zb | with_reducible refine And.intro ?_ ?_))
              all_goals first | exact Path.imp_of qy | exact Path.imp_of ⟨Int.natCast_nonneg j, hjl⟩ | exact qy.1 | exact qy.2.1 | exact qy.2.2.1 | exact qy.2.2.2 | skip
              refine ⟨j + 1, ⟨by omega, by omega⟩, ?_⟩
              refine subF.ok ?_ <;> (conv => whnf) <;> repeat' (first
 | exact trivial
 | (with_reducible rfl)
 | ((with_reducible refine And.intro ?_ ?_) <;> conv => whnf)
 | omega
 | rfl
 | (refine congrArg (SV.arr _) ?_)
 | (refine congrArg (Value.int _) ?_)
 | (refine congrArg Value.bool ?_))
              all_goals skip
            · repeat' (first
 | refine W.seq ?_
 | refine W.block ?_
 | (refine W.region tys_ok [] ?_; conv => whnf)
 | (refine W.drawAll tys_ok [] mixed rfl ?_; conv => whnf)
 | (refine W.ret ?_; conv => whnf)
 | (refine W.skip ?_; conv => whnf)
 | (refine W.exit ?_; conv => whnf)
 | (refine W.cond rfl (fun hb => ?_) (fun hb => ?_) <;> (try simp only [zr, zd, zm, minL, maxL, pickB, zA] at hb) <;> (try (first | (cases hb; done) | exact absurd hb (by decide) | (exfalso; omega) | (omega))))
 | ((with_reducible refine And.intro ?_ ?_); exact zc; conv => whnf)
 | ((with_reducible refine And.intro (Side.out ?_) ?_); rotate_left; (conv => whnf))
 | ((first | refine retM1 ?_ | refine retM2 ?_) <;> (conv => whnf) <;> repeat' (first
 | exact trivial
 | (with_reducible rfl)
 | ((with_reducible refine And.intro ?_ ?_) <;> conv => whnf)
 | omega
 | rfl
 | (refine congrArg (SV.arr _) ?_)
 | (refine congrArg (Value.int _) ?_)
 | (refine congrArg Value.bool ?_)))); all_goals (try unfold Side)
              all_goals try (repeat' (first | exact zb | with_reducible refine And.intro ?_ ?_))
              refine ⟨(k + 1, addK N m m.length), ⟨⟨by dsimp only; omega, by dsimp only; omega, hm3⟩, by dsimp only; omega⟩, ?_⟩
              refine subF.ok ?_ <;> (conv => whnf) <;> repeat' (first
 | exact trivial
 | (with_reducible rfl)
 | ((with_reducible refine And.intro ?_ ?_) <;> conv => whnf)
 | omega
 | rfl
 | (refine congrArg (SV.arr _) ?_)
 | (refine congrArg (Value.int _) ?_)
 | (refine congrArg Value.bool ?_))
              all_goals (rw [show j = m.length by omega]; done)
end Go.Proofs.YtckmhlpngolbpaaDoor
namespace Go.Proofs
open Go.Shelf
def Tryd.lays240_ren : Go.Shelf.Ren := ⟨fun | 240 => 45 | 276 => 59 | 169 => 32 | n => n, fun | 0 => 0 | 3 => 3 | 4 => 4 | 5 => 5 | 9 => 9 | 20 => 20 | 37 => 23 | 70 => 102 | 72 => 104 | 164 => 134 | 127 => 119 | n => n, fun n => n⟩
theorem Tryd.lays240 : Go.Proofs.Lays.n240 Tryd.prog Tryd.lays240_ren := {
 mixed := by kernel_rfl
 f240 := Tryd.func45.trans (congrArg some (by kernel_rfl))
 f276 := Tryd.func59.trans (congrArg some (by kernel_rfl))
 t0 := Tryd.underlying0
 a0 := Tryd.isAgg0
 z0 := Tryd.sizeOf0
 v0 := Tryd.zeroValue0
 t4 := Tryd.underlying4
 a4 := Tryd.isAgg4
 z4 := Tryd.sizeOf4
 v4 := Tryd.zeroValue4
 t9 := Tryd.underlying9
 a9 := Tryd.isAgg9
 z9 := Tryd.sizeOf9
 v9 := Tryd.zeroValue9
 t20 := Tryd.underlying20
 a20 := Tryd.isAgg20
 z20 := Tryd.sizeOf20
 v20 := Tryd.zeroValue20
 t70 := Tryd.underlying102
 a70 := Tryd.isAgg102
 z70 := Tryd.sizeOf102
 v70 := Tryd.zeroValue102
 t72 := Tryd.underlying104
 a72 := Tryd.isAgg104
 z72 := Tryd.sizeOf104
 v72 := Tryd.zeroValue104
 t164 := Tryd.underlying134
 a164 := Tryd.isAgg134
 z164 := Tryd.sizeOf134
 v164 := Tryd.zeroValue134 }
def Tryd.lays169_ren : Go.Shelf.Ren := ⟨fun | 240 => 45 | 276 => 59 | 169 => 32 | n => n, fun | 0 => 0 | 3 => 3 | 4 => 4 | 5 => 5 | 9 => 9 | 20 => 20 | 37 => 23 | 70 => 102 | 72 => 104 | 164 => 134 | 127 => 119 | n => n, fun n => n⟩
theorem Tryd.lays169 : Go.Proofs.Lays.n169 Tryd.prog Tryd.lays169_ren := {
 mixed := by kernel_rfl
 f169 := Tryd.func32.trans (congrArg some (by kernel_rfl))
 t0 := Tryd.underlying0
 a0 := Tryd.isAgg0
 z0 := Tryd.sizeOf0
 v0 := Tryd.zeroValue0
 t3 := Tryd.underlying3
 a3 := Tryd.isAgg3
 z3 := Tryd.sizeOf3
 v3 := Tryd.zeroValue3
 t9 := Tryd.underlying9
 a9 := Tryd.isAgg9
 z9 := Tryd.sizeOf9
 v9 := Tryd.zeroValue9
 t37 := Tryd.underlying23
 a37 := Tryd.isAgg23
 z37 := Tryd.sizeOf23
 v37 := Tryd.zeroValue23
 t70 := Tryd.underlying102
 a70 := Tryd.isAgg102
 z70 := Tryd.sizeOf102
 v70 := Tryd.zeroValue102
 t72 := Tryd.underlying104
 a72 := Tryd.isAgg104
 z72 := Tryd.sizeOf104
 v72 := Tryd.zeroValue104
 t127 := Tryd.underlying119
 a127 := Tryd.isAgg119
 z127 := Tryd.sizeOf119
 v127 := Tryd.zeroValue119 }
theorem Tryd.builderX (n : Ren) (h1 : n.t 72 = 104) : Builder.X72 Tryd.prog n := {
 sizeBuilder := by rw [h1]; kernel_rfl
 liesBuilder := by rw [h1]; kernel_rfl }
open Go.Shelf Go.RowKit
variable {P : Program} {ρ : Ren}
set_option maxHeartbeats 1000000 in
set_option maxRecDepth 100000 in
theorem builderS_x (L : Lays.n169 P ρ) (t5 : P.underlying (ρ.t 5) = some (.int .u8)) (a5 : ∀ w, (isAgg (ρ.t 5)).run P w = .ok false w) (z5 : ∀ w, (Go.sizeOf (ρ.t 5)).run P w = .ok 1 w) (v5 : ∀ w, (zeroValue (ρ.t 5)).run P w = .ok (.int .u8 0) w) (hc5 : P.cellsOf (ρ.t 5) = 1)
  (b g cap : Nat) (l : List UInt8) (p : Value) (cur : Array Value) (w : World) (hbk : w.heap[b]? = some (.cells #[p, .slice (some ⟨g, 0, none⟩) l.length cap] (ρ.t 72) (0, 0)))
  (hg : w.heap[g]? = some (.cells cur (ρ.t 5) (0, 0))) (h0 : l ≠ []) (hnc : l.length ≤ cap) (hcm : cap ≤ maxLen) (hcs : cur.size = cap) (hcell : ∀ (j : Nat) (x : UInt8), l[j]? = some x → cur[j]? = some (.int .u8 x.toNat)) :
  Calls P (ρ.f 169) #[.pointer (some ⟨b, 0, none⟩)] w fun e w' => e = .returned (.string ⟨l.toArray⟩) ∧ w' = w.drew.freeze ⟨g, 0, none⟩ l.length := by
 have hl0 : l.length ≠ 0 := by simpa using h0
 have c1 : w.drew.cell? ⟨b, 1, none⟩ = some (.slice (some ⟨g, 0, none⟩) l.length cap) := by
  have : w.drew.heap[b]? = some (.cells #[p, .slice (some ⟨g, 0, none⟩) l.length cap] (ρ.t 72) (0, 0)) := hbk
  rw [Lib.cell_of_heap this]; rfl
 have hSD : (Builtin.unsafeSliceData_ #[(ρ.t 37)] (ρ.t 127) #[.slice (some ⟨g, 0, none⟩) l.length cap]).run P w.drew = .ok (.pointer (some ⟨g, 0, none⟩)) w.drew :=
  Lib.run_unsafeSliceData_row _ _ _ _ _ _ (by omega)
 have hUS : (Builtin.unsafeString_ #[(ρ.t 127), (ρ.t 3)] (ρ.t 9) #[.pointer (some ⟨g, 0, none⟩), .int .i64 l.length]).run P w.drew = .ok (.string ⟨l.toArray⟩) (w.drew.freeze ⟨g, 0, none⟩ l.length) := by
  have hg' : w.drew.heap[g]? = some (.cells cur (ρ.t 5) (0, 0)) := hg
  refine Lib.run_unsafeString_row w.drew (ρ.t 127) (ρ.t 3) (ρ.t 9) (ρ.t 5) L.t127 hc5 g cur.size (by simp [World.shape?, hg']) l h0 (by omega) (by unfold maxLen at hcm; omega) ?_
  intro j x hx
  have h1 : (⟨g, 0, none⟩ : Addr).add j = ⟨g, j, none⟩ := by
   unfold Addr.add
   split
   · rename_i h; rw [h]
   · simp
  rw [h1, Lib.cell_of_heap hg']
  exact hcell j x hx
 have mixed := L.mixed
 have t72 := L.t72; have a72 := L.a72; have z72 := L.z72; have v72 := L.v72; have u72 := run_underlying L.t72
 have t70 := L.t70; have a70 := L.a70; have z70 := L.z70; have v70 := L.v70; have u70 := run_underlying L.t70
 have t37 := L.t37; have a37 := L.a37; have z37 := L.z37; have v37 := L.v37; have u37 := run_underlying L.t37
 have t127 := L.t127; have a127 := L.a127; have z127 := L.z127; have v127 := L.v127; have u127 := run_underlying L.t127
 have t3 := L.t3; have a3 := L.a3; have z3 := L.z3; have v3 := L.v3; have u3 := run_underlying L.t3
 have t9 := L.t9; have a9 := L.a9; have z9 := L.z9; have v9 := L.v9; have u9 := run_underlying L.t9
 have u5 := run_underlying t5
 go_enter L.f169, Body.n169_ntmps ρ
 go_wp2
 go_region_o
 all_goals (go_wp2; go_ret; exact ⟨rfl, rfl⟩)
end Go.Proofs
namespace Go.Proofs.YtckmhlpngolbpaaDoor
open Int renaming reduceToNat → zr, reduceTDiv → zd, reduceTMod → zm
open Go Go.Vc Go.RowKit Go.Lib
theorem oset_congr {own own' : List (Nat × Ob)} (h : ∀ k, get? own k = get? own' k) : Oset own = Oset own' := by
 funext g b
 unfold Oset
 simp only [h]
theorem hp_congr {base : Nat} {O0 : Nat → Prop} {own own' : List (Nat × Ob)} {g : Nat → Value} {w : World} (h : ∀ k, get? own k = get? own' k) (hp : Hp base O0 own g w) : Hp base O0 own' g w :=
 ⟨fun k o hk => by rw [← oset_congr h]; exact hp.ok k o (by rw [h]; exact hk), fun k k' o o' b hk hk' => hp.inj k k' o o' b (by rw [h]; exact hk) (by rw [h]; exact hk')⟩
theorem copyCheck_m {A : AV} {l : List Int} (hA : A = .lit (.pointer none) ∨ A = .padr 1000000000 0) :
  FnM Tryd.prog 45 [.padr 1000000000 0] [(1000000000, .box [A, .own 5]), (5, .row 5 (.int .u8) true l)] (.tup []) [(1000000000, .box [.padr 1000000000 0, .own 5]), (5, .row 5 (.int .u8) true l)] := by
 refine ⟨⟨_, Tryd.func45, rfl, rfl⟩, fun w O vals g0 hO hp hvl hargs => ?_⟩
 match vals, hvl with
 | [v], _ =>
 have h0 := hargs 0 v _ rfl rfl
 obtain ⟨b, hgb, hvb⟩ := h0
 subst hvb
 obtain ⟨b', arr, e, h1, h2, h3, h4, h5⟩ := hp.ok 1000000000 _ rfl
 rw [hgb] at h1
 cases h1
 obtain ⟨x0, h6, h7, h8⟩ := h5 0 A rfl
 obtain ⟨x1, h9, h10, h11⟩ := h5 1 (.own 5) rfl
 have harr : arr = #[x0, x1] := by
  apply Array.ext'
  refine List.ext_getElem? fun i => ?_
  match i with
  | 0 => simpa using h6
  | 1 => simpa using h9
  | i + 2 => simp [h4]
 subst harr
 have he : e.1 = 104 := e.2 (by rcases hA with rfl | rfl <;> rfl)
 have X := Tryd.builderX Tryd.lays240_ren rfl
 rcases hA with rfl | rfl
 · have h8 : x0 = .pointer none ∧ _ := h8
   obtain ⟨rfl, _⟩ := h8
   refine (Any.Builder_copyCheck_fresh Tryd.lays240 X b w (by rw [Lib.cell_of_heap h3]; rfl) (by simp [World.shape?, h3, he]; rfl) (by simp [World.frozen?, h3])).mono ?_
   rintro e2 w' ⟨rfl, h12⟩
   let c : Cx := { w0 := w, n := 0, O0 := O, B := Oset [(1000000000, .box [.lit (.pointer none), .own 5]), (5, .row 5 (.int .u8) true l)] g0, kv := g0 }
   have hst : St c ⟨[], [(1000000000, .box [.lit (.pointer none), .own 5]), (5, .row 5 (.int .u8) true l)]⟩ g0 { tmps := #[], defers := [] } w :=
    ⟨rfl, rfl, (Keep.refl w).toB, hO, fun t A hA => (by cases hA), fun b x hb => (by cases hb), hp, fun b hb => .inr hb, fun _ _ => rfl⟩
   have hh : w'.heap[b]? = some (.cells (#[.pointer none, x1].setIfInBounds 0 (.pointer (some ⟨b, 0, none⟩))) e.1 (0, 0)) := by rw [h12]; simp [World.setCell, Array.getElem?_modify, h3]
   have ho : ∀ b1, b1 ≠ b → w'.heap[b1]? = w.heap[b1]? := by
    intro b1 hne
    rw [h12]
    simp [World.setCell, Array.getElem?_modify, Ne.symm hne]
   have h13 := hst.writeB (w' := w') (k := 1000000000) (v' := g0 1000000000) (o' := .box [.padr 1000000000 0, .own 5]) rfl (by rw [h12]; rfl) (by rw [h12]; rfl) (by rw [h12]; rfl) (by rw [h12]; simp [World.setCell])
    (fun b1 _ hb1 => ho b1 fun e1 => hb1 (by rw [hgb, e1]; exact .of rfl)) ⟨fun t A _ => by rw [updg_same]; exact Go.Vc.same_of fun _ _ => rfl, fun i o _ _ => by rw [updg_same]; exact Ob.same_of fun _ _ => rfl⟩ (fun b hb => .inl hb) (by
     rw [updg_same]
     refine ⟨b, _, ⟨e.1, fun _ => he⟩, hgb, Nat.zero_le _, hh, rfl, fun i B hB => ?_⟩
     match i with
     | 0 => cases hB; exact ⟨_, rfl, rfl, b, hgb, rfl⟩
     | 1 => cases hB; exact ⟨x1, rfl, h10, h11⟩
     | i + 2 => simp at hB) (.inr rfl)
   rw [updg_same] at h13
   have hcg : ∀ k, get? (set [(1000000000, Ob.box [.lit (.pointer none), .own 5]), (5, .row 5 (.int .u8) true l)] 1000000000 (.box [.padr 1000000000 0, .own 5])) k = get? [(1000000000, Ob.box [.padr 1000000000 0, .own 5]), (5, .row 5 (.int .u8) true l)] k := by
    intro k
    simp only [Go.Vc.set, get?]
    cases Nat.beq 1000000000 k <;> rfl
   refine ⟨_, g0, rfl, h13.keep, fun _ _ => rfl, fun b1 hb1 => (h13.low b1 (by rw [oset_congr hcg]; exact hb1)).symm, ⟨fun _ => undef, #[], rfl, rfl, fun i B hB => by simp at hB⟩, hp_congr hcg h13.hp⟩
 · obtain ⟨b2, h12, h13⟩ := h8
   rw [hgb] at h12
   cases h12
   subst h13
   refine (Any.Builder_copyCheck_used Tryd.lays240 X b w (by rw [Lib.cell_of_heap h3]; rfl)).mono ?_
   rintro e2 w' ⟨rfl, rfl⟩
   exact ⟨_, g0, rfl, (Keep.refl _).toB, fun _ _ => rfl, fun b1 hb1 => .inl hb1, ⟨fun _ => undef, #[], rfl, rfl, fun i B hB => by simp at hB⟩, hp⟩
def byI (l : List UInt8) : List Int := l.map fun x => (x.toNat : Int)
theorem string_m {A : AV} {l : List UInt8} (hA : A = .padr 1000000000 0) (h0 : l ≠ []) :
  FnM Tryd.prog 32 [.padr 1000000000 0] [(1000000000, .box [A, .own 5]), (5, .row 5 (.int .u8) true (byI l))] (.lit (.string ⟨⟨l⟩⟩)) [] := by
 refine ⟨⟨_, Tryd.func32, rfl, rfl⟩, fun w O vals g0 hO hp hvl hargs => ?_⟩
 match vals, hvl with
 | [v], _ =>
 have h1 := hargs 0 v _ rfl rfl
 obtain ⟨b, hgb, hvb⟩ := h1
 subst hvb
 obtain ⟨b', arr, e, h1, h2, h3, h4, h5⟩ := hp.ok 1000000000 _ rfl
 rw [hgb] at h1
 cases h1
 obtain ⟨x0, h6, h7, h8⟩ := h5 0 A rfl
 obtain ⟨x1, h9, h10, h11⟩ := h5 1 (.own 5) rfl
 have harr : arr = #[x0, x1] := by
  apply Array.ext'
  refine List.ext_getElem? fun i => ?_
  match i with
  | 0 => simpa using h6
  | 1 => simpa using h9
  | i + 2 => simp [h4]
 subst harr
 have he : e.1 = 104 := e.2 (by rw [hA]; rfl)
 have h11 : x1 = g0 5 := h11
 have hrow := hp.ok 5 _ rfl
 have hln : (byI l).length = l.length := by simp [byI]
 have hl0 : l.length ≠ 0 := by simpa using h0
 obtain ⟨g, n, cap, hg5⟩ : ∃ g n cap, g0 5 = .slice (some ⟨g, 0, none⟩) n cap := by
  obtain ⟨xs, ho, _⟩ := hrow
  rcases ho.2 with ⟨_, hz⟩ | ⟨g, cap, cur, hv, _⟩
  · exact absurd (hln.symm.trans hz) hl0
  · exact ⟨g, _, cap, hv⟩
 obtain ⟨cur, f, r1, r2, r3, r4, r5, r6, r7⟩ := ownRow hrow hg5
 have r2 : n = l.length := r2.trans hln
 subst r2
 subst h11
 rw [hg5] at h3
 have hb' : Oset [(1000000000, Ob.box [A, .own 5]), (5, .row 5 (.int .u8) true (byI l))] g0 g := ⟨5, _, rfl, by rw [hg5]; exact .of rfl⟩
 refine (builderS_x Tryd.lays169 Tryd.underlying5 Tryd.isAgg5 Tryd.sizeOf5 Tryd.zeroValue5 (by kernel_rfl) b g cap l x0 cur w (by rw [h3, he]; rfl) r1 h0 r3 r4 (by simpa [Ty.size] using r5) (fun j x hx => ?_)).mono ?_
 · have hj : j < (byI l).length := by rw [hln]; exact (List.getElem?_eq_some_iff.1 hx).1
   have hxj : (byI l)[j]? = some (x.toNat : Int) := by simp [byI, hx]
   have q1 := r7 j _ hxj
   have inv : ∀ {w : World} {Q : Nat → Prop} {v u : Value}, RpS w Q v (.lit u) → v = u := fun h => by cases h; rfl
   have q2 : f j = .int .u8 x.toNat := inv q1
   have q3 := (r6 j hj).2 0 (by decide)
   rw [q2] at q3
   exact (congrArg (fun z => cur[z]?) (show j = j * 1 + 0 by omega)).trans q3
 · rintro e2 w' ⟨rfl, rfl⟩
   have hfz : w.drew.freeze ⟨g, 0, none⟩ l.length = { w.drew with heap := w.drew.heap.modify g fun
    | .cells c elem (lo, hi) => .cells c elem (if lo == hi then (0, 0 + l.length) else (min lo 0, max hi (0 + l.length)))
    | o => o } := if_neg hl0
   rw [hfz]
   refine ⟨_, g0, rfl, ⟨rfl, rfl, rfl, ?_, fun b1 hb1 hn => ?_⟩, fun _ _ => rfl, fun b1 ⟨k, o, h, _⟩ => (by cases h), ⟨rfl, rfl⟩, ⟨fun k o h => (by cases h), fun k k' o o' b h => (by cases h)⟩⟩
   · show w.heap.size ≤ (w.heap.modify g _).size
     rw [Array.size_modify]
     exact Nat.le_refl _
   · have hne : g ≠ b1 := fun h => hn (h ▸ hb')
     show (w.heap.modify g _)[b1]? = w.heap[b1]?
     rw [Array.getElem?_modify, if_neg hne]
open Go Go.Vc Go.Rg
set_option maxHeartbeats 16000000 in
theorem write_m {A : AV} {l : List Int} {c : Int} (hA : A = .lit (.pointer none) ∨ A = .padr 1000000000 0) (hc : 0 ≤ c ∧ c ≤ 255) (hl : l.length ≤ 1000000) :
  FnM Tryd.prog 31 [.padr 1000000000 0, .lit (.int .u8 c)] ([(1000000000, .box [A, .own 5]), (5, .row 5 (.int .u8) true (l))]) (.lit .nilIface) ([(1000000000, .box [.padr 1000000000 0, .own 5]), (5, .row 5 (.int .u8) true (l ++ [c]))]) := by
 have c1 := copyCheck_m (A := A) (l := l) hA
 have h1 : l.length + 1 ≤ 4294967296 := by omega
 rcases hA with rfl | rfl
 · refine FnM.of_body tys_ok Tryd.func31 (by rfl) rfl Tryd.ntmps31 (by rw [Tryd.results31]) (by simp) ?_
   repeat' (first
 | refine W.seq ?_
 | refine W.block ?_
 | (refine W.regionM (id := 1) tys_ok [] [1] ?_; conv => whnf)
 | (refine W.region tys_ok [] ?_; conv => whnf)
 | (refine W.drawAll tys_ok [] mixed rfl ?_; conv => whnf)
 | (refine W.ret ?_; conv => whnf)
 | (refine W.skip ?_; conv => whnf)
 | (refine W.exit ?_; conv => whnf)
 | (refine callM_at (c1) ?_; conv => whnf)
 | (refine W.cond rfl (fun hb => ?_) (fun hb => ?_) <;> (try simp only [zr, zd, zm, minL, maxL, pickB, zA] at hb) <;> (try (first | (cases hb; done) | exact absurd hb (by decide) | (exfalso; omega) | (omega))))
 | (refine Or.inl (And.intro trivial ?_); (conv => whnf))
 | ((with_reducible refine And.intro ?_ ?_); exact zc; conv => whnf)
 | ((with_reducible refine And.intro (Side.out ?_) ?_); rotate_left; (conv => whnf))
 | ((first | refine retM1 ?_ | refine retM2 ?_) <;> (conv => whnf) <;> repeat' (first
 | exact trivial
 | (with_reducible rfl)
 | ((with_reducible refine And.intro ?_ ?_) <;> conv => whnf)
 | omega
 | rfl
 | (refine congrArg (SV.arr _) ?_)
 | (refine congrArg (Value.int _) ?_)
 | (refine congrArg Value.bool ?_)))); all_goals (try unfold Side)
   all_goals try refine subF.ok ?_ <;> (conv => whnf) <;> repeat' (first
 | exact trivial
 | (with_reducible rfl)
 | ((with_reducible refine And.intro ?_ ?_) <;> conv => whnf)
 | omega
 | rfl
 | (refine congrArg (SV.arr _) ?_)
 | (refine congrArg (Value.int _) ?_)
 | (refine congrArg Value.bool ?_))
   all_goals try (repeat' (first | exact zb | with_reducible refine And.intro ?_ ?_))
   all_goals first | exact Nat.le_of_ble_eq_true rfl | exact h1 | skip
 · refine FnM.of_body tys_ok Tryd.func31 (by rfl) rfl Tryd.ntmps31 (by rw [Tryd.results31]) (by simp) ?_
   repeat' (first
 | refine W.seq ?_
 | refine W.block ?_
 | (refine W.regionM (id := 1) tys_ok [] [1] ?_; conv => whnf)
 | (refine W.region tys_ok [] ?_; conv => whnf)
 | (refine W.drawAll tys_ok [] mixed rfl ?_; conv => whnf)
 | (refine W.ret ?_; conv => whnf)
 | (refine W.skip ?_; conv => whnf)
 | (refine W.exit ?_; conv => whnf)
 | (refine callM_at (c1) ?_; conv => whnf)
 | (refine W.cond rfl (fun hb => ?_) (fun hb => ?_) <;> (try simp only [zr, zd, zm, minL, maxL, pickB, zA] at hb) <;> (try (first | (cases hb; done) | exact absurd hb (by decide) | (exfalso; omega) | (omega))))
 | (refine Or.inl (And.intro trivial ?_); (conv => whnf))
 | ((with_reducible refine And.intro ?_ ?_); exact zc; conv => whnf)
 | ((with_reducible refine And.intro (Side.out ?_) ?_); rotate_left; (conv => whnf))
 | ((first | refine retM1 ?_ | refine retM2 ?_) <;> (conv => whnf) <;> repeat' (first
 | exact trivial
 | (with_reducible rfl)
 | ((with_reducible refine And.intro ?_ ?_) <;> conv => whnf)
 | omega
 | rfl
 | (refine congrArg (SV.arr _) ?_)
 | (refine congrArg (Value.int _) ?_)
 | (refine congrArg Value.bool ?_)))); all_goals (try unfold Side)
   all_goals try refine subF.ok ?_ <;> (conv => whnf) <;> repeat' (first
 | exact trivial
 | (with_reducible rfl)
 | ((with_reducible refine And.intro ?_ ?_) <;> conv => whnf)
 | omega
 | rfl
 | (refine congrArg (SV.arr _) ?_)
 | (refine congrArg (Value.int _) ?_)
 | (refine congrArg Value.bool ?_))
   all_goals try (repeat' (first | exact zb | with_reducible refine And.intro ?_ ?_))
   all_goals first | exact Nat.le_of_ble_eq_true rfl | exact h1 | skip
end Go.Proofs.YtckmhlpngolbpaaDoor
