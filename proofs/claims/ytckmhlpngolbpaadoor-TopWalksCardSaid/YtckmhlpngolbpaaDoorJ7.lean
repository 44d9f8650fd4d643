/- Joined of: W5 W6 Vc42 Vc43 Vc38 Vc44 C1. No condition. -/
import Derived.Test.YtckmhlpngolbpaaDoorJ6
import Derived.Test.YtckmhlpngolbpaaDoorJ5
import Derived.Test.YtckmhlpngolbpaaDoorJ4
import Derived.Shelf.Strings.SlTrimAscii
set_option linter.unusedVariables false
set_option linter.unusedSimpArgs false
namespace Go.Proofs.YtckmhlpngolbpaaDoor
open Int renaming reduceToNat → zr, reduceTDiv → zd, reduceTMod → zm
open Go Go.Vc Go.Rg
def inK (s : ByteArray) : Nat → List Int
 | 0 => []
 | k + 1 => inT s (inK s k) k
def moreK (n : List Int) : Nat → List Sp
 | 0 => []
 | k + 1 => moreT n (moreK n k) k
theorem moreK_len {n : List Int} : ∀ {k : Nat}, (moreK n k).length ≤ k
 | 0 => Nat.le_refl _
 | k + 1 => by
  rw [moreK, moreT]
  have := moreK_len (n := n) (k := k)
  split
  · rw [List.length_append]; simp; omega
  · omega
set_option maxHeartbeats 8000000 in
theorem cin_m {row : ByteArray} {w : Nat} {s : ByteArray} (hw : 1 ≤ w ∧ w ≤ 16) (hs : w ≤ s.data.toList.length) : FnM Tryd.prog 27 [.st true (.sadr (.agg [.arr (.sl .str) ([[row]] : List (List ByteArray)), .arr MT mvL, .arr KT jlL, I64 1, I64 (w : Int)])), .fn 39 [.st true (.sadr (.arr (.sl .str) ([[s]] : List (List ByteArray)))), .padr 1000000000 0]] [(1000000000, .box1 (.own 1000000001)), (1000000001, .mps (inK s 0))] (.tup []) [(1000000000, .box1 (.own 1000000001)), (1000000001, .mps (inK s w))] := by
 have hv : ∀ x, x < w → FnM Tryd.prog 39 [.strct [(.lit (.int .i64 (0 : Int))), (.lit (.int .i64 ((x : Int) : Int))), (.lit (.int .i64 (0 : Int)))], .st true (.sadr (.arr (.sl .str) ([[s]] : List (List ByteArray)))), .padr 1000000000 0] [(1000000000, .box1 (.own 1000000001)), (1000000001, .mps (inK s x))] (.tup []) [(1000000000, .box1 (.own 1000000001)), (1000000001, .mps (inK s (x + 1)))] := fun x hxw => in1_m (by omega) (by omega)
 refine FnM.of_body tys_ok Tryd.func27 (by rfl) rfl Tryd.ntmps27 (by rw [Tryd.results27]) (by simp) ?_
 repeat' (first
 | refine W.seq ?_
 | refine W.block ?_
 | (refine W.region tys_ok [] ?_; conv => whnf)
 | (refine W.drawAll tys_ok [] mixed rfl ?_; conv => whnf)
 | (refine W.ret ?_; conv => whnf)
 | (refine W.skip ?_; conv => whnf)
 | (refine W.exit ?_; conv => whnf)
 | (refine W.cond rfl (fun hb => ?_) (fun hb => ?_) <;> (try simp only [zr, zd, zm, minL, maxL, pickB, zA] at hb) <;> (try (first | (cases hb; done) | exact absurd hb (by decide) | (exfalso; omega) | (omega))))
 | ((with_reducible refine And.intro ?_ ?_); exact zc; conv => whnf)
 | ((with_reducible refine And.intro (Side.out ?_) ?_); rotate_left; (conv => whnf))
 | ((first | refine retM1 ?_ | refine retM2 ?_) <;> (conv => whnf) <;> repeat' (first
 | exact trivial
 | (with_reducible rfl)
 | ((with_reducible refine And.intro ?_ ?_) <;> conv => whnf)
 | omega
 | rfl
 | (refine congrArg (SV.arr _) ?_)
 | (refine congrArg (Value.int _) ?_)
 | (refine congrArg Value.bool ?_)))); all_goals (try unfold Side)
 all_goals try (repeat' (first | exact zb | with_reducible refine And.intro ?_ ?_))
 refine W.loop (fun p : Nat × Nat => ⟨[(0, .st true (.sadr (.agg [.arr (.sl .str) ([[row]] : List (List ByteArray)), .arr MT mvL, .arr KT jlL, I64 1, I64 (w : Int)]))), (1, .fn 39 [.st true (.sadr (.arr (.sl .str) ([[s]] : List (List ByteArray)))), .padr 1000000000 0]), (12, (.lit (.int .i64 (1 : Int)))), (13, (.lit (.int .i64 (p.1 : Int))))], [(1000000000, .box1 (.own 1000000001)), (1000000001, .mps (inK s p.2))]⟩) (fun p => ((p.1 = 0 ∧ p.2 = 0) ∨ (p.1 = 1 ∧ p.2 = w))) (fun p => 1 - p.1) ((0, 0)) ?_ ?_
 · refine ⟨.inl ⟨rfl, rfl⟩, ?_⟩
   refine subF.ok ?_ <;> (conv => whnf) <;> repeat' (first
 | exact trivial
 | (with_reducible rfl)
 | ((with_reducible refine And.intro ?_ ?_) <;> conv => whnf)
 | omega
 | rfl
 | (refine congrArg (SV.arr _) ?_)
 | (refine congrArg (Value.int _) ?_)
 | (refine congrArg Value.bool ?_))
 · rintro ⟨p, q⟩ hp
   dsimp only at hp ⊢
   by_cases hp0 : p = 0
   · have hq : q = 0 := by omega
     subst hp0; subst hq
     repeat' (first
 | refine W.seq ?_
 | refine W.block ?_
 | (refine W.region tys_ok [] ?_; conv => whnf)
 | (refine W.drawAll tys_ok [] mixed rfl ?_; conv => whnf)
 | (refine W.ret ?_; conv => whnf)
 | (refine W.skip ?_; conv => whnf)
 | (refine W.exit ?_; conv => whnf)
 | (refine W.cond rfl (fun hb => ?_) (fun hb => ?_) <;> (try simp only [zr, zd, zm, minL, maxL, pickB, zA] at hb) <;> (try (first | (cases hb; done) | exact absurd hb (by decide) | (exfalso; omega) | (omega))))
 | ((with_reducible refine And.intro ?_ ?_); exact zc; conv => whnf)
 | ((with_reducible refine And.intro (Side.out ?_) ?_); rotate_left; (conv => whnf))
 | ((first | refine retM1 ?_ | refine retM2 ?_) <;> (conv => whnf) <;> repeat' (first
 | exact trivial
 | (with_reducible rfl)
 | ((with_reducible refine And.intro ?_ ?_) <;> conv => whnf)
 | omega
 | rfl
 | (refine congrArg (SV.arr _) ?_)
 | (refine congrArg (Value.int _) ?_)
 | (refine congrArg Value.bool ?_)))); all_goals (try unfold Side)
     all_goals try (repeat' (first | exact zb | with_reducible refine And.intro ?_ ?_))
     refine W.loop (fun p : Nat × Nat => ⟨[(0, .st true (.sadr (.agg [.arr (.sl .str) ([[row]] : List (List ByteArray)), .arr MT mvL, .arr KT jlL, I64 1, I64 (w : Int)]))), (1, .fn 39 [.st true (.sadr (.arr (.sl .str) ([[s]] : List (List ByteArray)))), .padr 1000000000 0]), (4, (.lit (.int .i64 (0 : Int)))), (12, (.lit (.int .i64 (1 : Int)))), (13, (.lit (.int .i64 (0 : Int)))), (19, (.lit (.int .i64 (1 : Int)))), (20, (.lit (.int .i64 (p.1 : Int))))], [(1000000000, .box1 (.own 1000000001)), (1000000001, .mps (inK s p.2))]⟩) (fun p => ((p.1 = 0 ∧ p.2 = 0) ∨ (p.1 = 1 ∧ p.2 = w))) (fun p => 1 - p.1) ((0, 0)) ?_ ?_
     · refine ⟨.inl ⟨rfl, rfl⟩, ?_⟩
       refine subF.ok ?_ <;> (conv => whnf) <;> repeat' (first
 | exact trivial
 | (with_reducible rfl)
 | ((with_reducible refine And.intro ?_ ?_) <;> conv => whnf)
 | omega
 | rfl
 | (refine congrArg (SV.arr _) ?_)
 | (refine congrArg (Value.int _) ?_)
 | (refine congrArg Value.bool ?_))
     · rintro ⟨y, q⟩ hy
       dsimp only at hy ⊢
       by_cases hy0 : y = 0
       · have hq : q = 0 := by omega
         subst hy0; subst hq
         repeat' (first
 | refine W.seq ?_
 | refine W.block ?_
 | (refine W.region tys_ok [] ?_; conv => whnf)
 | (refine W.drawAll tys_ok [] mixed rfl ?_; conv => whnf)
 | (refine W.ret ?_; conv => whnf)
 | (refine W.skip ?_; conv => whnf)
 | (refine W.exit ?_; conv => whnf)
 | (refine W.cond rfl (fun hb => ?_) (fun hb => ?_) <;> (try simp only [zr, zd, zm, minL, maxL, pickB, zA] at hb) <;> (try (first | (cases hb; done) | exact absurd hb (by decide) | (exfalso; omega) | (omega))))
 | ((with_reducible refine And.intro ?_ ?_); exact zc; conv => whnf)
 | ((with_reducible refine And.intro (Side.out ?_) ?_); rotate_left; (conv => whnf))
 | ((first | refine retM1 ?_ | refine retM2 ?_) <;> (conv => whnf) <;> repeat' (first
 | exact trivial
 | (with_reducible rfl)
 | ((with_reducible refine And.intro ?_ ?_) <;> conv => whnf)
 | omega
 | rfl
 | (refine congrArg (SV.arr _) ?_)
 | (refine congrArg (Value.int _) ?_)
 | (refine congrArg Value.bool ?_)))); all_goals (try unfold Side)
         all_goals try (repeat' (first | exact zb | with_reducible refine And.intro ?_ ?_))
         refine W.loop (fun x : Nat => ⟨[(0, .st true (.sadr (.agg [.arr (.sl .str) ([[row]] : List (List ByteArray)), .arr MT mvL, .arr KT jlL, I64 1, I64 (w : Int)]))), (1, .fn 39 [.st true (.sadr (.arr (.sl .str) ([[s]] : List (List ByteArray)))), .padr 1000000000 0]), (4, (.lit (.int .i64 (0 : Int)))), (5, (.lit (.int .i64 (0 : Int)))), (12, (.lit (.int .i64 (1 : Int)))), (13, (.lit (.int .i64 (0 : Int)))), (19, (.lit (.int .i64 (1 : Int)))), (20, (.lit (.int .i64 (0 : Int)))), (26, (.lit (.int .i64 (w : Int)))), (27, (.lit (.int .i64 (x : Int))))], [(1000000000, .box1 (.own 1000000001)), (1000000001, .mps (inK s x))]⟩) (fun x => x ≤ w) (fun x => w - x) (0) ?_ ?_
         · refine ⟨Nat.zero_le _, ?_⟩
           refine subF.ok ?_ <;> (conv => whnf) <;> repeat' (first
 | exact trivial
 | (with_reducible rfl)
 | ((with_reducible refine And.intro ?_ ?_) <;> conv => whnf)
 | omega
 | rfl
 | (refine congrArg (SV.arr _) ?_)
 | (refine congrArg (Value.int _) ?_)
 | (refine congrArg Value.bool ?_))
         · intro x hx
           by_cases hxw : x < w
           · have c1 := hv x hxw
             repeat' (first
 | refine W.seq ?_
 | refine W.block ?_
 | (refine W.regionM (id := 9) tys_ok [] [5] ?_; conv => whnf)
 | (refine W.region tys_ok [] ?_; conv => whnf)
 | (refine W.drawAll tys_ok [] mixed rfl ?_; conv => whnf)
 | (refine W.ret ?_; conv => whnf)
 | (refine W.skip ?_; conv => whnf)
 | (refine W.exit ?_; conv => whnf)
 | (refine callM_at (c1) ?_; conv => whnf)
 | (refine W.cond rfl (fun hb => ?_) (fun hb => ?_) <;> (try simp only [zr, zd, zm, minL, maxL, pickB, zA] at hb) <;> (try (first | (cases hb; done) | exact absurd hb (by decide) | (exfalso; omega) | (omega))))
 | (refine Or.inl (And.intro trivial ?_); (conv => whnf))
 | ((with_reducible refine And.intro ?_ ?_); exact zc; conv => whnf)
 | ((with_reducible refine And.intro (Side.out ?_) ?_); rotate_left; (conv => whnf))
 | ((first | refine retM1 ?_ | refine retM2 ?_) <;> (conv => whnf) <;> repeat' (first
 | exact trivial
 | (with_reducible rfl)
 | ((with_reducible refine And.intro ?_ ?_) <;> conv => whnf)
 | omega
 | rfl
 | (refine congrArg (SV.arr _) ?_)
 | (refine congrArg (Value.int _) ?_)
 | (refine congrArg Value.bool ?_)))); all_goals (try unfold Side)
             all_goals try (repeat' (first | exact zb | with_reducible refine And.intro ?_ ?_))
             refine ⟨x + 1, ⟨by omega, by omega⟩, ?_⟩
             refine subF.ok ?_ <;> (conv => whnf) <;> repeat' (first
 | exact trivial
 | (with_reducible rfl)
 | ((with_reducible refine And.intro ?_ ?_) <;> conv => whnf)
 | omega
 | rfl
 | (refine congrArg (SV.arr _) ?_)
 | (refine congrArg (Value.int _) ?_)
 | (refine congrArg Value.bool ?_))
           · have hxe : x = w := by omega
             subst hxe
             repeat' (first
 | refine W.seq ?_
 | refine W.block ?_
 | (refine W.region tys_ok [] ?_; conv => whnf)
 | (refine W.drawAll tys_ok [] mixed rfl ?_; conv => whnf)
 | (refine W.ret ?_; conv => whnf)
 | (refine W.skip ?_; conv => whnf)
 | (refine W.exit ?_; conv => whnf)
 | (refine W.cond rfl (fun hb => ?_) (fun hb => ?_) <;> (try simp only [zr, zd, zm, minL, maxL, pickB, zA] at hb) <;> (try (first | (cases hb; done) | exact absurd hb (by decide) | (exfalso; omega) | (omega))))
 | ((with_reducible refine And.intro ?_ ?_); exact zc; conv => whnf)
 | ((with_reducible refine And.intro (Side.out ?_) ?_); rotate_left; (conv => whnf))
 | ((first | refine retM1 ?_ | refine retM2 ?_) <;> (conv => whnf) <;> repeat' (first
 | exact trivial
 | (with_reducible rfl)
 | ((with_reducible refine And.intro ?_ ?_) <;> conv => whnf)
 | omega
 | rfl
 | (refine congrArg (SV.arr _) ?_)
 | (refine congrArg (Value.int _) ?_)
 | (refine congrArg Value.bool ?_)))); all_goals (try unfold Side)
             all_goals try (repeat' (first | exact zb | with_reducible refine And.intro ?_ ?_))
             refine ⟨(1, x), ⟨.inr ⟨rfl, rfl⟩, by dsimp only; omega⟩, ?_⟩
             refine subF.ok ?_ <;> (conv => whnf) <;> repeat' (first
 | exact trivial
 | (with_reducible rfl)
 | ((with_reducible refine And.intro ?_ ?_) <;> conv => whnf)
 | omega
 | rfl
 | (refine congrArg (SV.arr _) ?_)
 | (refine congrArg (Value.int _) ?_)
 | (refine congrArg Value.bool ?_))
       · obtain ⟨rfl, rfl⟩ : y = 1 ∧ q = w := hy.resolve_left fun h => hy0 h.1
         repeat' (first
 | refine W.seq ?_
 | refine W.block ?_
 | (refine W.region tys_ok [] ?_; conv => whnf)
 | (refine W.drawAll tys_ok [] mixed rfl ?_; conv => whnf)
 | (refine W.ret ?_; conv => whnf)
 | (refine W.skip ?_; conv => whnf)
 | (refine W.exit ?_; conv => whnf)
 | (refine W.cond rfl (fun hb => ?_) (fun hb => ?_) <;> (try simp only [zr, zd, zm, minL, maxL, pickB, zA] at hb) <;> (try (first | (cases hb; done) | exact absurd hb (by decide) | (exfalso; omega) | (omega))))
 | ((with_reducible refine And.intro ?_ ?_); exact zc; conv => whnf)
 | ((with_reducible refine And.intro (Side.out ?_) ?_); rotate_left; (conv => whnf))
 | ((first | refine retM1 ?_ | refine retM2 ?_) <;> (conv => whnf) <;> repeat' (first
 | exact trivial
 | (with_reducible rfl)
 | ((with_reducible refine And.intro ?_ ?_) <;> conv => whnf)
 | omega
 | rfl
 | (refine congrArg (SV.arr _) ?_)
 | (refine congrArg (Value.int _) ?_)
 | (refine congrArg Value.bool ?_)))); all_goals (try unfold Side)
         all_goals try (repeat' (first | exact zb | with_reducible refine And.intro ?_ ?_))
         refine ⟨(1, q), ⟨.inr ⟨rfl, rfl⟩, by dsimp only; omega⟩, ?_⟩
         refine subF.ok ?_ <;> (conv => whnf) <;> repeat' (first
 | exact trivial
 | (with_reducible rfl)
 | ((with_reducible refine And.intro ?_ ?_) <;> conv => whnf)
 | omega
 | rfl
 | (refine congrArg (SV.arr _) ?_)
 | (refine congrArg (Value.int _) ?_)
 | (refine congrArg Value.bool ?_))
   · obtain ⟨rfl, rfl⟩ : p = 1 ∧ q = w := hp.resolve_left fun h => hp0 h.1
     repeat' (first
 | refine W.seq ?_
 | refine W.block ?_
 | (refine W.region tys_ok [] ?_; conv => whnf)
 | (refine W.drawAll tys_ok [] mixed rfl ?_; conv => whnf)
 | (refine W.ret ?_; conv => whnf)
 | (refine W.skip ?_; conv => whnf)
 | (refine W.exit ?_; conv => whnf)
 | (refine W.cond rfl (fun hb => ?_) (fun hb => ?_) <;> (try simp only [zr, zd, zm, minL, maxL, pickB, zA] at hb) <;> (try (first | (cases hb; done) | exact absurd hb (by decide) | (exfalso; omega) | (omega))))
 | ((with_reducible refine And.intro ?_ ?_); exact zc; conv => whnf)
 | ((with_reducible refine And.intro (Side.out ?_) ?_); rotate_left; (conv => whnf))
 | ((first | refine retM1 ?_ | refine retM2 ?_) <;> (conv => whnf) <;> repeat' (first
 | exact trivial
 | (with_reducible rfl)
 | ((with_reducible refine And.intro ?_ ?_) <;> conv => whnf)
 | omega
 | rfl
 | (refine congrArg (SV.arr _) ?_)
 | (refine congrArg (Value.int _) ?_)
 | (refine congrArg Value.bool ?_)))); all_goals (try unfold Side)
     all_goals try (repeat' (first | exact zb | with_reducible refine And.intro ?_ ?_))
set_option maxHeartbeats 8000000 in
theorem cker1_m {row : ByteArray} {w : Nat} {l : List Int} (hw : 1 ≤ w ∧ w ≤ 16) (hl : ∀ x : Nat, x < w → (x : Int) ∈ l) : FnM Tryd.prog 27 [.st true (.sadr (.agg [.arr (.sl .str) ([[row]] : List (List ByteArray)), .arr MT mvL, .arr KT jlL, I64 1, I64 (w : Int)])), .fn 42 [.padr 1000000000 0, .padr 1000000002 0]] [(1000000000, .box1 (.own 1000000001)), (1000000001, .mps l), (1000000002, .box1 (.own 1000000003)), (1000000003, .mps [])] (.tup []) [(1000000000, .box1 (.own 1000000001)), (1000000001, .mps l), (1000000002, .box1 (.own 1000000003)), (1000000003, .mps [])] := by
 have hv : ∀ x, x < w → FnM Tryd.prog 42 [.strct [(.lit (.int .i64 (0 : Int))), (.lit (.int .i64 ((x : Int) : Int))), (.lit (.int .i64 (0 : Int)))], .padr 1000000000 0, .padr 1000000002 0] [(1000000000, .box1 (.own 1000000001)), (1000000001, .mps l), (1000000002, .box1 (.own 1000000003)), (1000000003, .mps [])] (.tup []) [(1000000000, .box1 (.own 1000000001)), (1000000001, .mps l), (1000000002, .box1 (.own 1000000003)), (1000000003, .mps [])] := fun x hxw => ker1_m (by omega) (hl x hxw)
 refine FnM.of_body tys_ok Tryd.func27 (by rfl) rfl Tryd.ntmps27 (by rw [Tryd.results27]) (by simp) ?_
 repeat' (first
 | refine W.seq ?_
 | refine W.block ?_
 | (refine W.region tys_ok [] ?_; conv => whnf)
 | (refine W.drawAll tys_ok [] mixed rfl ?_; conv => whnf)
 | (refine W.ret ?_; conv => whnf)
 | (refine W.skip ?_; conv => whnf)
 | (refine W.exit ?_; conv => whnf)
 | (refine W.cond rfl (fun hb => ?_) (fun hb => ?_) <;> (try simp only [zr, zd, zm, minL, maxL, pickB, zA] at hb) <;> (try (first | (cases hb; done) | exact absurd hb (by decide) | (exfalso; omega) | (omega))))
 | ((with_reducible refine And.intro ?_ ?_); exact zc; conv => whnf)
 | ((with_reducible refine And.intro (Side.out ?_) ?_); rotate_left; (conv => whnf))
 | ((first | refine retM1 ?_ | refine retM2 ?_) <;> (conv => whnf) <;> repeat' (first
 | exact trivial
 | (with_reducible rfl)
 | ((with_reducible refine And.intro ?_ ?_) <;> conv => whnf)
 | omega
 | rfl
 | (refine congrArg (SV.arr _) ?_)
 | (refine congrArg (Value.int _) ?_)
 | (refine congrArg Value.bool ?_)))); all_goals (try unfold Side)
 all_goals try (repeat' (first | exact zb | with_reducible refine And.intro ?_ ?_))
 refine W.loop (fun p : Nat × Nat => ⟨[(0, .st true (.sadr (.agg [.arr (.sl .str) ([[row]] : List (List ByteArray)), .arr MT mvL, .arr KT jlL, I64 1, I64 (w : Int)]))), (1, .fn 42 [.padr 1000000000 0, .padr 1000000002 0]), (12, (.lit (.int .i64 (1 : Int)))), (13, (.lit (.int .i64 (p.1 : Int))))], [(1000000000, .box1 (.own 1000000001)), (1000000001, .mps l), (1000000002, .box1 (.own 1000000003)), (1000000003, .mps [])]⟩) (fun p => ((p.1 = 0 ∧ p.2 = 0) ∨ (p.1 = 1 ∧ p.2 = w))) (fun p => 1 - p.1) ((0, 0)) ?_ ?_
 · refine ⟨.inl ⟨rfl, rfl⟩, ?_⟩
   refine subF.ok ?_ <;> (conv => whnf) <;> repeat' (first
 | exact trivial
 | (with_reducible rfl)
 | ((with_reducible refine And.intro ?_ ?_) <;> conv => whnf)
 | omega
 | rfl
 | (refine congrArg (SV.arr _) ?_)
 | (refine congrArg (Value.int _) ?_)
 | (refine congrArg Value.bool ?_))
 · rintro ⟨p, q⟩ hp
   dsimp only at hp ⊢
   by_cases hp0 : p = 0
   · have hq : q = 0 := by omega
     subst hp0; subst hq
     repeat' (first
 | refine W.seq ?_
 | refine W.block ?_
 | (refine W.region tys_ok [] ?_; conv => whnf)
 | (refine W.drawAll tys_ok [] mixed rfl ?_; conv => whnf)
 | (refine W.ret ?_; conv => whnf)
 | (refine W.skip ?_; conv => whnf)
 | (refine W.exit ?_; conv => whnf)
 | (refine W.cond rfl (fun hb => ?_) (fun hb => ?_) <;> (try simp only [zr, zd, zm, minL, maxL, pickB, zA] at hb) <;> (try (first | (cases hb; done) | exact absurd hb (by decide) | (exfalso; omega) | (omega))))
 | ((with_reducible refine And.intro ?_ ?_); exact zc; conv => whnf)
 | ((with_reducible refine And.intro (Side.out ?_) ?_); rotate_left; (conv => whnf))
 | ((first | refine retM1 ?_ | refine retM2 ?_) <;> (conv => whnf) <;> repeat' (first
 | exact trivial
 | (with_reducible rfl)
 | ((with_reducible refine And.intro ?_ ?_) <;> conv => whnf)
 | omega
 | rfl
 | (refine congrArg (SV.arr _) ?_)
 | (refine congrArg (Value.int _) ?_)
 | (refine congrArg Value.bool ?_)))); all_goals (try unfold Side)
     all_goals try (repeat' (first | exact zb | with_reducible refine And.intro ?_ ?_))
     refine W.loop (fun p : Nat × Nat => ⟨[(0, .st true (.sadr (.agg [.arr (.sl .str) ([[row]] : List (List ByteArray)), .arr MT mvL, .arr KT jlL, I64 1, I64 (w : Int)]))), (1, .fn 42 [.padr 1000000000 0, .padr 1000000002 0]), (4, (.lit (.int .i64 (0 : Int)))), (12, (.lit (.int .i64 (1 : Int)))), (13, (.lit (.int .i64 (0 : Int)))), (19, (.lit (.int .i64 (1 : Int)))), (20, (.lit (.int .i64 (p.1 : Int))))], [(1000000000, .box1 (.own 1000000001)), (1000000001, .mps l), (1000000002, .box1 (.own 1000000003)), (1000000003, .mps [])]⟩) (fun p => ((p.1 = 0 ∧ p.2 = 0) ∨ (p.1 = 1 ∧ p.2 = w))) (fun p => 1 - p.1) ((0, 0)) ?_ ?_
     · refine ⟨.inl ⟨rfl, rfl⟩, ?_⟩
       refine subF.ok ?_ <;> (conv => whnf) <;> repeat' (first
 | exact trivial
 | (with_reducible rfl)
 | ((with_reducible refine And.intro ?_ ?_) <;> conv => whnf)
 | omega
 | rfl
 | (refine congrArg (SV.arr _) ?_)
 | (refine congrArg (Value.int _) ?_)
 | (refine congrArg Value.bool ?_))
     · rintro ⟨y, q⟩ hy
       dsimp only at hy ⊢
       by_cases hy0 : y = 0
       · have hq : q = 0 := by omega
         subst hy0; subst hq
         repeat' (first
 | refine W.seq ?_
 | refine W.block ?_
 | (refine W.region tys_ok [] ?_; conv => whnf)
 | (refine W.drawAll tys_ok [] mixed rfl ?_; conv => whnf)
 | (refine W.ret ?_; conv => whnf)
 | (refine W.skip ?_; conv => whnf)
 | (refine W.exit ?_; conv => whnf)
 | (refine W.cond rfl (fun hb => ?_) (fun hb => ?_) <;> (try simp only [zr, zd, zm, minL, maxL, pickB, zA] at hb) <;> (try (first | (cases hb; done) | exact absurd hb (by decide) | (exfalso; omega) | (omega))))
 | ((with_reducible refine And.intro ?_ ?_); exact zc; conv => whnf)
 | ((with_reducible refine And.intro (Side.out ?_) ?_); rotate_left; (conv => whnf))
 | ((first | refine retM1 ?_ | refine retM2 ?_) <;> (conv => whnf) <;> repeat' (first
 | exact trivial
 | (with_reducible rfl)
 | ((with_reducible refine And.intro ?_ ?_) <;> conv => whnf)
 | omega
 | rfl
 | (refine congrArg (SV.arr _) ?_)
 | (refine congrArg (Value.int _) ?_)
 | (refine congrArg Value.bool ?_)))); all_goals (try unfold Side)
         all_goals try (repeat' (first | exact zb | with_reducible refine And.intro ?_ ?_))
         refine W.loop (fun x : Nat => ⟨[(0, .st true (.sadr (.agg [.arr (.sl .str) ([[row]] : List (List ByteArray)), .arr MT mvL, .arr KT jlL, I64 1, I64 (w : Int)]))), (1, .fn 42 [.padr 1000000000 0, .padr 1000000002 0]), (4, (.lit (.int .i64 (0 : Int)))), (5, (.lit (.int .i64 (0 : Int)))), (12, (.lit (.int .i64 (1 : Int)))), (13, (.lit (.int .i64 (0 : Int)))), (19, (.lit (.int .i64 (1 : Int)))), (20, (.lit (.int .i64 (0 : Int)))), (26, (.lit (.int .i64 (w : Int)))), (27, (.lit (.int .i64 (x : Int))))], [(1000000000, .box1 (.own 1000000001)), (1000000001, .mps l), (1000000002, .box1 (.own 1000000003)), (1000000003, .mps [])]⟩) (fun x => x ≤ w) (fun x => w - x) (0) ?_ ?_
         · refine ⟨Nat.zero_le _, ?_⟩
           refine subF.ok ?_ <;> (conv => whnf) <;> repeat' (first
 | exact trivial
 | (with_reducible rfl)
 | ((with_reducible refine And.intro ?_ ?_) <;> conv => whnf)
 | omega
 | rfl
 | (refine congrArg (SV.arr _) ?_)
 | (refine congrArg (Value.int _) ?_)
 | (refine congrArg Value.bool ?_))
         · intro x hx
           by_cases hxw : x < w
           · have c1 := hv x hxw
             repeat' (first
 | refine W.seq ?_
 | refine W.block ?_
 | (refine W.regionM (id := 9) tys_ok [] [5] ?_; conv => whnf)
 | (refine W.region tys_ok [] ?_; conv => whnf)
 | (refine W.drawAll tys_ok [] mixed rfl ?_; conv => whnf)
 | (refine W.ret ?_; conv => whnf)
 | (refine W.skip ?_; conv => whnf)
 | (refine W.exit ?_; conv => whnf)
 | (refine callM_at (c1) ?_; conv => whnf)
 | (refine W.cond rfl (fun hb => ?_) (fun hb => ?_) <;> (try simp only [zr, zd, zm, minL, maxL, pickB, zA] at hb) <;> (try (first | (cases hb; done) | exact absurd hb (by decide) | (exfalso; omega) | (omega))))
 | (refine Or.inl (And.intro trivial ?_); (conv => whnf))
 | ((with_reducible refine And.intro ?_ ?_); exact zc; conv => whnf)
 | ((with_reducible refine And.intro (Side.out ?_) ?_); rotate_left; (conv => whnf))
 | ((first | refine retM1 ?_ | refine retM2 ?_) <;> (conv => whnf) <;> repeat' (first
 | exact trivial
 | (with_reducible rfl)
 | ((with_reducible refine And.intro ?_ ?_) <;> conv => whnf)
 | omega
 | rfl
 | (refine congrArg (SV.arr _) ?_)
 | (refine congrArg (Value.int _) ?_)
 | (refine congrArg Value.bool ?_)))); all_goals (try unfold Side)
             all_goals try (repeat' (first | exact zb | with_reducible refine And.intro ?_ ?_))
             refine ⟨x + 1, ⟨by omega, by omega⟩, ?_⟩
             refine subF.ok ?_ <;> (conv => whnf) <;> repeat' (first
 | exact trivial
 | (with_reducible rfl)
 | ((with_reducible refine And.intro ?_ ?_) <;> conv => whnf)
 | omega
 | rfl
 | (refine congrArg (SV.arr _) ?_)
 | (refine congrArg (Value.int _) ?_)
 | (refine congrArg Value.bool ?_))
           · have hxe : x = w := by omega
             subst hxe
             repeat' (first
 | refine W.seq ?_
 | refine W.block ?_
 | (refine W.region tys_ok [] ?_; conv => whnf)
 | (refine W.drawAll tys_ok [] mixed rfl ?_; conv => whnf)
 | (refine W.ret ?_; conv => whnf)
 | (refine W.skip ?_; conv => whnf)
 | (refine W.exit ?_; conv => whnf)
 | (refine W.cond rfl (fun hb => ?_) (fun hb => ?_) <;> (try simp only [zr, zd, zm, minL, maxL, pickB, zA] at hb) <;> (try (first | (cases hb; done) | exact absurd hb (by decide) | (exfalso; omega) | (omega))))
 | ((with_reducible refine And.intro ?_ ?_); exact zc; conv => whnf)
 | ((with_reducible refine And.intro (Side.out ?_) ?_); rotate_left; (conv => whnf))
 | ((first | refine retM1 ?_ | refine retM2 ?_) <;> (conv => whnf) <;> repeat' (first
 | exact trivial
 | (with_reducible rfl)
 | ((with_reducible refine And.intro ?_ ?_) <;> conv => whnf)
 | omega
 | rfl
 | (refine congrArg (SV.arr _) ?_)
 | (refine congrArg (Value.int _) ?_)
 | (refine congrArg Value.bool ?_)))); all_goals (try unfold Side)
             all_goals try (repeat' (first | exact zb | with_reducible refine And.intro ?_ ?_))
             refine ⟨(1, x), ⟨.inr ⟨rfl, rfl⟩, by dsimp only; omega⟩, ?_⟩
             refine subF.ok ?_ <;> (conv => whnf) <;> repeat' (first
 | exact trivial
 | (with_reducible rfl)
 | ((with_reducible refine And.intro ?_ ?_) <;> conv => whnf)
 | omega
 | rfl
 | (refine congrArg (SV.arr _) ?_)
 | (refine congrArg (Value.int _) ?_)
 | (refine congrArg Value.bool ?_))
       · obtain ⟨rfl, rfl⟩ : y = 1 ∧ q = w := hy.resolve_left fun h => hy0 h.1
         repeat' (first
 | refine W.seq ?_
 | refine W.block ?_
 | (refine W.region tys_ok [] ?_; conv => whnf)
 | (refine W.drawAll tys_ok [] mixed rfl ?_; conv => whnf)
 | (refine W.ret ?_; conv => whnf)
 | (refine W.skip ?_; conv => whnf)
 | (refine W.exit ?_; conv => whnf)
 | (refine W.cond rfl (fun hb => ?_) (fun hb => ?_) <;> (try simp only [zr, zd, zm, minL, maxL, pickB, zA] at hb) <;> (try (first | (cases hb; done) | exact absurd hb (by decide) | (exfalso; omega) | (omega))))
 | ((with_reducible refine And.intro ?_ ?_); exact zc; conv => whnf)
 | ((with_reducible refine And.intro (Side.out ?_) ?_); rotate_left; (conv => whnf))
 | ((first | refine retM1 ?_ | refine retM2 ?_) <;> (conv => whnf) <;> repeat' (first
 | exact trivial
 | (with_reducible rfl)
 | ((with_reducible refine And.intro ?_ ?_) <;> conv => whnf)
 | omega
 | rfl
 | (refine congrArg (SV.arr _) ?_)
 | (refine congrArg (Value.int _) ?_)
 | (refine congrArg Value.bool ?_)))); all_goals (try unfold Side)
         all_goals try (repeat' (first | exact zb | with_reducible refine And.intro ?_ ?_))
         refine ⟨(1, q), ⟨.inr ⟨rfl, rfl⟩, by dsimp only; omega⟩, ?_⟩
         refine subF.ok ?_ <;> (conv => whnf) <;> repeat' (first
 | exact trivial
 | (with_reducible rfl)
 | ((with_reducible refine And.intro ?_ ?_) <;> conv => whnf)
 | omega
 | rfl
 | (refine congrArg (SV.arr _) ?_)
 | (refine congrArg (Value.int _) ?_)
 | (refine congrArg Value.bool ?_))
   · obtain ⟨rfl, rfl⟩ : p = 1 ∧ q = w := hp.resolve_left fun h => hp0 h.1
     repeat' (first
 | refine W.seq ?_
 | refine W.block ?_
 | (refine W.region tys_ok [] ?_; conv => whnf)
 | (refine W.drawAll tys_ok [] mixed rfl ?_; conv => whnf)
 | (refine W.ret ?_; conv => whnf)
 | (refine W.skip ?_; conv => whnf)
 | (refine W.exit ?_; conv => whnf)
 | (refine W.cond rfl (fun hb => ?_) (fun hb => ?_) <;> (try simp only [zr, zd, zm, minL, maxL, pickB, zA] at hb) <;> (try (first | (cases hb; done) | exact absurd hb (by decide) | (exfalso; omega) | (omega))))
 | ((with_reducible refine And.intro ?_ ?_); exact zc; conv => whnf)
 | ((with_reducible refine And.intro (Side.out ?_) ?_); rotate_left; (conv => whnf))
 | ((first | refine retM1 ?_ | refine retM2 ?_) <;> (conv => whnf) <;> repeat' (first
 | exact trivial
 | (with_reducible rfl)
 | ((with_reducible refine And.intro ?_ ?_) <;> conv => whnf)
 | omega
 | rfl
 | (refine congrArg (SV.arr _) ?_)
 | (refine congrArg (Value.int _) ?_)
 | (refine congrArg Value.bool ?_)))); all_goals (try unfold Side)
     all_goals try (repeat' (first | exact zb | with_reducible refine And.intro ?_ ?_))
set_option maxHeartbeats 8000000 in
theorem cker2_m {row : ByteArray} {w : Nat} {l : List Int} (hw : 1 ≤ w ∧ w ≤ 16) (hl : ∀ x : Nat, x < w → (x : Int) ∈ l) : FnM Tryd.prog 27 [.st true (.sadr (.agg [.arr (.sl .str) ([[row]] : List (List ByteArray)), .arr MT mvL, .arr KT jlL, I64 1, I64 (w : Int)])), .fn 43 [.padr 1000000000 0, .st true (.sadr (.sadr (.agg [.arr (.sl .str) ([[row]] : List (List ByteArray)), .arr MT mvL, .arr KT jlL, I64 1, I64 (w : Int)]))), .padr 1000000002 0]] [(1000000000, .box1 (.own 1000000001)), (1000000001, .mps l), (1000000002, .box1 (.lit (.slice none 0 0)))] (.tup []) [(1000000000, .box1 (.own 1000000001)), (1000000001, .mps l), (1000000002, .box1 (.lit (.slice none 0 0)))] := by
 have hv : ∀ x, x < w → FnM Tryd.prog 43 [.strct [(.lit (.int .i64 (0 : Int))), (.lit (.int .i64 ((x : Int) : Int))), (.lit (.int .i64 (0 : Int)))], .padr 1000000000 0, .st true (.sadr (.sadr (.agg [.arr (.sl .str) ([[row]] : List (List ByteArray)), .arr MT mvL, .arr KT jlL, I64 1, I64 (w : Int)]))), .padr 1000000002 0] [(1000000000, .box1 (.own 1000000001)), (1000000001, .mps l), (1000000002, .box1 (.lit (.slice none 0 0)))] (.tup []) [(1000000000, .box1 (.own 1000000001)), (1000000001, .mps l), (1000000002, .box1 (.lit (.slice none 0 0)))] := fun x hxw => ker2_m (by omega) (hl x hxw)
 refine FnM.of_body tys_ok Tryd.func27 (by rfl) rfl Tryd.ntmps27 (by rw [Tryd.results27]) (by simp) ?_
 repeat' (first
 | refine W.seq ?_
 | refine W.block ?_
 | (refine W.region tys_ok [] ?_; conv => whnf)
 | (refine W.drawAll tys_ok [] mixed rfl ?_; conv => whnf)
 | (refine W.ret ?_; conv => whnf)
 | (refine W.skip ?_; conv => whnf)
 | (refine W.exit ?_; conv => whnf)
 | (refine W.cond rfl (fun hb => ?_) (fun hb => ?_) <;> (try simp only [zr, zd, zm, minL, maxL, pickB, zA] at hb) <;> (try (first | (cases hb; done) | exact absurd hb (by decide) | (exfalso; omega) | (omega))))
 | ((with_reducible refine And.intro ?_ ?_); exact zc; conv => whnf)
 | ((with_reducible refine And.intro (Side.out ?_) ?_); rotate_left; (conv => whnf))
 | ((first | refine retM1 ?_ | refine retM2 ?_) <;> (conv => whnf) <;> repeat' (first
 | exact trivial
 | (with_reducible rfl)
 | ((with_reducible refine And.intro ?_ ?_) <;> conv => whnf)
 | omega
 | rfl
 | (refine congrArg (SV.arr _) ?_)
 | (refine congrArg (Value.int _) ?_)
 | (refine congrArg Value.bool ?_)))); all_goals (try unfold Side)
 all_goals try (repeat' (first | exact zb | with_reducible refine And.intro ?_ ?_))
 refine W.loop (fun p : Nat × Nat => ⟨[(0, .st true (.sadr (.agg [.arr (.sl .str) ([[row]] : List (List ByteArray)), .arr MT mvL, .arr KT jlL, I64 1, I64 (w : Int)]))), (1, .fn 43 [.padr 1000000000 0, .st true (.sadr (.sadr (.agg [.arr (.sl .str) ([[row]] : List (List ByteArray)), .arr MT mvL, .arr KT jlL, I64 1, I64 (w : Int)]))), .padr 1000000002 0]), (12, (.lit (.int .i64 (1 : Int)))), (13, (.lit (.int .i64 (p.1 : Int))))], [(1000000000, .box1 (.own 1000000001)), (1000000001, .mps l), (1000000002, .box1 (.lit (.slice none 0 0)))]⟩) (fun p => ((p.1 = 0 ∧ p.2 = 0) ∨ (p.1 = 1 ∧ p.2 = w))) (fun p => 1 - p.1) ((0, 0)) ?_ ?_
 · refine ⟨.inl ⟨rfl, rfl⟩, ?_⟩
   refine subF.ok ?_ <;> (conv => whnf) <;> repeat' (first
 | exact trivial
 | (with_reducible rfl)
 | ((with_reducible refine And.intro ?_ ?_) <;> conv => whnf)
 | omega
 | rfl
 | (refine congrArg (SV.arr _) ?_)
 | (refine congrArg (Value.int _) ?_)
 | (refine congrArg Value.bool ?_))
 · rintro ⟨p, q⟩ hp
   dsimp only at hp ⊢
   by_cases hp0 : p = 0
   · have hq : q = 0 := by omega
     subst hp0; subst hq
     repeat' (first
 | refine W.seq ?_
 | refine W.block ?_
 | (refine W.region tys_ok [] ?_; conv => whnf)
 | (refine W.drawAll tys_ok [] mixed rfl ?_; conv => whnf)
 | (refine W.ret ?_; conv => whnf)
 | (refine W.skip ?_; conv => whnf)
 | (refine W.exit ?_; conv => whnf)
 | (refine W.cond rfl (fun hb => ?_) (fun hb => ?_) <;> (try simp only [zr, zd, zm, minL, maxL, pickB, zA] at hb) <;> (try (first | (cases hb; done) | exact absurd hb (by decide) | (exfalso; omega) | (omega))))
 | ((with_reducible refine And.intro ?_ ?_); exact zc; conv => whnf)
 | ((with_reducible refine And.intro (Side.out ?_) ?_); rotate_left; (conv => whnf))
 | ((first | refine retM1 ?_ | refine retM2 ?_) <;> (conv => whnf) <;> repeat' (first
 | exact trivial
 | (with_reducible rfl)
 | ((with_reducible refine And.intro ?_ ?_) <;> conv => whnf)
 | omega
 | rfl
 | (refine congrArg (SV.arr _) ?_)
 | (refine congrArg (Value.int _) ?_)
 | (refine congrArg Value.bool ?_)))); all_goals (try unfold Side)
     all_goals try (repeat' (first | exact zb | with_reducible refine And.intro ?_ ?_))
     refine W.loop (fun p : Nat × Nat => ⟨[(0, .st true (.sadr (.agg [.arr (.sl .str) ([[row]] : List (List ByteArray)), .arr MT mvL, .arr KT jlL, I64 1, I64 (w : Int)]))), (1, .fn 43 [.padr 1000000000 0, .st true (.sadr (.sadr (.agg [.arr (.sl .str) ([[row]] : List (List ByteArray)), .arr MT mvL, .arr KT jlL, I64 1, I64 (w : Int)]))), .padr 1000000002 0]), (4, (.lit (.int .i64 (0 : Int)))), (12, (.lit (.int .i64 (1 : Int)))), (13, (.lit (.int .i64 (0 : Int)))), (19, (.lit (.int .i64 (1 : Int)))), (20, (.lit (.int .i64 (p.1 : Int))))], [(1000000000, .box1 (.own 1000000001)), (1000000001, .mps l), (1000000002, .box1 (.lit (.slice none 0 0)))]⟩) (fun p => ((p.1 = 0 ∧ p.2 = 0) ∨ (p.1 = 1 ∧ p.2 = w))) (fun p => 1 - p.1) ((0, 0)) ?_ ?_
     · refine ⟨.inl ⟨rfl, rfl⟩, ?_⟩
       refine subF.ok ?_ <;> (conv => whnf) <;> repeat' (first
 | exact trivial
 | (with_reducible rfl)
 | ((with_reducible refine And.intro ?_ ?_) <;> conv => whnf)
 | omega
 | rfl
 | (refine congrArg (SV.arr _) ?_)
 | (refine congrArg (Value.int _) ?_)
 | (refine congrArg Value.bool ?_))
     · rintro ⟨y, q⟩ hy
       dsimp only at hy ⊢
       by_cases hy0 : y = 0
       · have hq : q = 0 := by omega
         subst hy0; subst hq
         repeat' (first
 | refine W.seq ?_
 | refine W.block ?_
 | (refine W.region tys_ok [] ?_; conv => whnf)
 | (refine W.drawAll tys_ok [] mixed rfl ?_; conv => whnf)
 | (refine W.ret ?_; conv => whnf)
 | (refine W.skip ?_; conv => whnf)
 | (refine W.exit ?_; conv => whnf)
 | (refine W.cond rfl (fun hb => ?_) (fun hb => ?_) <;> (try simp only [zr, zd, zm, minL, maxL, pickB, zA] at hb) <;> (try (first | (cases hb; done) | exact absurd hb (by decide) | (exfalso; omega) | (omega))))
 | ((with_reducible refine And.intro ?_ ?_); exact zc; conv => whnf)
 | ((with_reducible refine And.intro (Side.out ?_) ?_); rotate_left; (conv => whnf))
 | ((first | refine retM1 ?_ | refine retM2 ?_) <;> (conv => whnf) <;> repeat' (first
 | exact trivial
 | (with_reducible rfl)
 | ((with_reducible refine And.intro ?_ ?_) <;> conv => whnf)
 | omega
 | rfl
 | (refine congrArg (SV.arr _) ?_)
 | (refine congrArg (Value.int _) ?_)
 | (refine congrArg Value.bool ?_)))); all_goals (try unfold Side)
         all_goals try (repeat' (first | exact zb | with_reducible refine And.intro ?_ ?_))
         refine W.loop (fun x : Nat => ⟨[(0, .st true (.sadr (.agg [.arr (.sl .str) ([[row]] : List (List ByteArray)), .arr MT mvL, .arr KT jlL, I64 1, I64 (w : Int)]))), (1, .fn 43 [.padr 1000000000 0, .st true (.sadr (.sadr (.agg [.arr (.sl .str) ([[row]] : List (List ByteArray)), .arr MT mvL, .arr KT jlL, I64 1, I64 (w : Int)]))), .padr 1000000002 0]), (4, (.lit (.int .i64 (0 : Int)))), (5, (.lit (.int .i64 (0 : Int)))), (12, (.lit (.int .i64 (1 : Int)))), (13, (.lit (.int .i64 (0 : Int)))), (19, (.lit (.int .i64 (1 : Int)))), (20, (.lit (.int .i64 (0 : Int)))), (26, (.lit (.int .i64 (w : Int)))), (27, (.lit (.int .i64 (x : Int))))], [(1000000000, .box1 (.own 1000000001)), (1000000001, .mps l), (1000000002, .box1 (.lit (.slice none 0 0)))]⟩) (fun x => x ≤ w) (fun x => w - x) (0) ?_ ?_
         · refine ⟨Nat.zero_le _, ?_⟩
           refine subF.ok ?_ <;> (conv => whnf) <;> repeat' (first
 | exact trivial
 | (with_reducible rfl)
 | ((with_reducible refine And.intro ?_ ?_) <;> conv => whnf)
 | omega
 | rfl
 | (refine congrArg (SV.arr _) ?_)
 | (refine congrArg (Value.int _) ?_)
 | (refine congrArg Value.bool ?_))
         · intro x hx
           by_cases hxw : x < w
           · have c1 := hv x hxw
             repeat' (first
 | refine W.seq ?_
 | refine W.block ?_
 | (refine W.regionM (id := 9) tys_ok [] [5] ?_; conv => whnf)
 | (refine W.region tys_ok [] ?_; conv => whnf)
 | (refine W.drawAll tys_ok [] mixed rfl ?_; conv => whnf)
 | (refine W.ret ?_; conv => whnf)
 | (refine W.skip ?_; conv => whnf)
 | (refine W.exit ?_; conv => whnf)
 | (refine callM_at (c1) ?_; conv => whnf)
 | (refine W.cond rfl (fun hb => ?_) (fun hb => ?_) <;> (try simp only [zr, zd, zm, minL, maxL, pickB, zA] at hb) <;> (try (first | (cases hb; done) | exact absurd hb (by decide) | (exfalso; omega) | (omega))))
 | (refine Or.inl (And.intro trivial ?_); (conv => whnf))
 | ((with_reducible refine And.intro ?_ ?_); exact zc; conv => whnf)
 | ((with_reducible refine And.intro (Side.out ?_) ?_); rotate_left; (conv => whnf))
 | ((first | refine retM1 ?_ | refine retM2 ?_) <;> (conv => whnf) <;> repeat' (first
 | exact trivial
 | (with_reducible rfl)
 | ((with_reducible refine And.intro ?_ ?_) <;> conv => whnf)
 | omega
 | rfl
 | (refine congrArg (SV.arr _) ?_)
 | (refine congrArg (Value.int _) ?_)
 | (refine congrArg Value.bool ?_)))); all_goals (try unfold Side)
             all_goals try (repeat' (first | exact zb | with_reducible refine And.intro ?_ ?_))
             refine ⟨x + 1, ⟨by omega, by omega⟩, ?_⟩
             refine subF.ok ?_ <;> (conv => whnf) <;> repeat' (first
 | exact trivial
 | (with_reducible rfl)
 | ((with_reducible refine And.intro ?_ ?_) <;> conv => whnf)
 | omega
 | rfl
 | (refine congrArg (SV.arr _) ?_)
 | (refine congrArg (Value.int _) ?_)
 | (refine congrArg Value.bool ?_))
           · have hxe : x = w := by omega
             subst hxe
             repeat' (first
 | refine W.seq ?_
 | refine W.block ?_
 | (refine W.region tys_ok [] ?_; conv => whnf)
 | (refine W.drawAll tys_ok [] mixed rfl ?_; conv => whnf)
 | (refine W.ret ?_; conv => whnf)
 | (refine W.skip ?_; conv => whnf)
 | (refine W.exit ?_; conv => whnf)
 | (refine W.cond rfl (fun hb => ?_) (fun hb => ?_) <;> (try simp only [zr, zd, zm, minL, maxL, pickB, zA] at hb) <;> (try (first | (cases hb; done) | exact absurd hb (by decide) | (exfalso; omega) | (omega))))
 | ((with_reducible refine And.intro ?_ ?_); exact zc; conv => whnf)
 | ((with_reducible refine And.intro (Side.out ?_) ?_); rotate_left; (conv => whnf))
 | ((first | refine retM1 ?_ | refine retM2 ?_) <;> (conv => whnf) <;> repeat' (first
 | exact trivial
 | (with_reducible rfl)
 | ((with_reducible refine And.intro ?_ ?_) <;> conv => whnf)
 | omega
 | rfl
 | (refine congrArg (SV.arr _) ?_)
 | (refine congrArg (Value.int _) ?_)
 | (refine congrArg Value.bool ?_)))); all_goals (try unfold Side)
             all_goals try (repeat' (first | exact zb | with_reducible refine And.intro ?_ ?_))
             refine ⟨(1, x), ⟨.inr ⟨rfl, rfl⟩, by dsimp only; omega⟩, ?_⟩
             refine subF.ok ?_ <;> (conv => whnf) <;> repeat' (first
 | exact trivial
 | (with_reducible rfl)
 | ((with_reducible refine And.intro ?_ ?_) <;> conv => whnf)
 | omega
 | rfl
 | (refine congrArg (SV.arr _) ?_)
 | (refine congrArg (Value.int _) ?_)
 | (refine congrArg Value.bool ?_))
       · obtain ⟨rfl, rfl⟩ : y = 1 ∧ q = w := hy.resolve_left fun h => hy0 h.1
         repeat' (first
 | refine W.seq ?_
 | refine W.block ?_
 | (refine W.region tys_ok [] ?_; conv => whnf)
 | (refine W.drawAll tys_ok [] mixed rfl ?_; conv => whnf)
 | (refine W.ret ?_; conv => whnf)
 | (refine W.skip ?_; conv => whnf)
 | (refine W.exit ?_; conv => whnf)
 | (refine W.cond rfl (fun hb => ?_) (fun hb => ?_) <;> (try simp only [zr, zd, zm, minL, maxL, pickB, zA] at hb) <;> (try (first | (cases hb; done) | exact absurd hb (by decide) | (exfalso; omega) | (omega))))
 | ((with_reducible refine And.intro ?_ ?_); exact zc; conv => whnf)
 | ((with_reducible refine And.intro (Side.out ?_) ?_); rotate_left; (conv => whnf))
 | ((first | refine retM1 ?_ | refine retM2 ?_) <;> (conv => whnf) <;> repeat' (first
 | exact trivial
 | (with_reducible rfl)
 | ((with_reducible refine And.intro ?_ ?_) <;> conv => whnf)
 | omega
 | rfl
 | (refine congrArg (SV.arr _) ?_)
 | (refine congrArg (Value.int _) ?_)
 | (refine congrArg Value.bool ?_)))); all_goals (try unfold Side)
         all_goals try (repeat' (first | exact zb | with_reducible refine And.intro ?_ ?_))
         refine ⟨(1, q), ⟨.inr ⟨rfl, rfl⟩, by dsimp only; omega⟩, ?_⟩
         refine subF.ok ?_ <;> (conv => whnf) <;> repeat' (first
 | exact trivial
 | (with_reducible rfl)
 | ((with_reducible refine And.intro ?_ ?_) <;> conv => whnf)
 | omega
 | rfl
 | (refine congrArg (SV.arr _) ?_)
 | (refine congrArg (Value.int _) ?_)
 | (refine congrArg Value.bool ?_))
   · obtain ⟨rfl, rfl⟩ : p = 1 ∧ q = w := hp.resolve_left fun h => hp0 h.1
     repeat' (first
 | refine W.seq ?_
 | refine W.block ?_
 | (refine W.region tys_ok [] ?_; conv => whnf)
 | (refine W.drawAll tys_ok [] mixed rfl ?_; conv => whnf)
 | (refine W.ret ?_; conv => whnf)
 | (refine W.skip ?_; conv => whnf)
 | (refine W.exit ?_; conv => whnf)
 | (refine W.cond rfl (fun hb => ?_) (fun hb => ?_) <;> (try simp only [zr, zd, zm, minL, maxL, pickB, zA] at hb) <;> (try (first | (cases hb; done) | exact absurd hb (by decide) | (exfalso; omega) | (omega))))
 | ((with_reducible refine And.intro ?_ ?_); exact zc; conv => whnf)
 | ((with_reducible refine And.intro (Side.out ?_) ?_); rotate_left; (conv => whnf))
 | ((first | refine retM1 ?_ | refine retM2 ?_) <;> (conv => whnf) <;> repeat' (first
 | exact trivial
 | (with_reducible rfl)
 | ((with_reducible refine And.intro ?_ ?_) <;> conv => whnf)
 | omega
 | rfl
 | (refine congrArg (SV.arr _) ?_)
 | (refine congrArg (Value.int _) ?_)
 | (refine congrArg Value.bool ?_)))); all_goals (try unfold Side)
     all_goals try (repeat' (first | exact zb | with_reducible refine And.intro ?_ ?_))
set_option maxHeartbeats 8000000 in
theorem crea2_m {row : ByteArray} {w : Nat} {a n : List Int} (hw : 1 ≤ w ∧ w ≤ 16) (ha : ∀ x : Nat, x < w → (x : Int) ∈ a) : FnM Tryd.prog 27 [.st true (.sadr (.agg [.arr (.sl .str) ([[row]] : List (List ByteArray)), .arr MT mvL, .arr KT jlL, I64 1, I64 (w : Int)])), .fn 28 [.padr 1000000000 0, .padr 1000000002 0, .st true (.sadr (.sadr (.agg [.arr (.sl .str) ([[row]] : List (List ByteArray)), .arr MT mvL, .arr KT jlL, I64 1, I64 (w : Int)]))), .padr 1000000004 0, .padr 1000000005 0]] [(1000000000, .box1 (.own 1000000001)), (1000000001, .mps a), (1000000002, .box1 (.own 1000000003)), (1000000003, .mps n), (1000000004, .box1 (.fn 25 [.padr 1000000002 0])), (1000000005, .box1 (.own 0)), (0, .row 84 S3 true (moreK n 0))] (.tup []) [(1000000000, .box1 (.own 1000000001)), (1000000001, .mps a), (1000000002, .box1 (.own 1000000003)), (1000000003, .mps n), (1000000004, .box1 (.fn 25 [.padr 1000000002 0])), (1000000005, .box1 (.own 0)), (0, .row 84 S3 true (moreK n w))] := by
 have hv : ∀ x, x < w → FnM Tryd.prog 28 [.strct [(.lit (.int .i64 (0 : Int))), (.lit (.int .i64 ((x : Int) : Int))), (.lit (.int .i64 (0 : Int)))], .padr 1000000000 0, .padr 1000000002 0, .st true (.sadr (.sadr (.agg [.arr (.sl .str) ([[row]] : List (List ByteArray)), .arr MT mvL, .arr KT jlL, I64 1, I64 (w : Int)]))), .padr 1000000004 0, .padr 1000000005 0] [(1000000000, .box1 (.own 1000000001)), (1000000001, .mps a), (1000000002, .box1 (.own 1000000003)), (1000000003, .mps n), (1000000004, .box1 (.fn 25 [.padr 1000000002 0])), (1000000005, .box1 (.own 0)), (0, .row 84 S3 true (moreK n x))] (.tup []) [(1000000000, .box1 (.own 1000000001)), (1000000001, .mps a), (1000000002, .box1 (.own 1000000003)), (1000000003, .mps n), (1000000004, .box1 (.fn 25 [.padr 1000000002 0])), (1000000005, .box1 (.own 0)), (0, .row 84 S3 true (moreK n (x + 1)))] := fun x hxw => rea2_m (by omega) (ha x hxw) (Nat.le_trans moreK_len (by omega))
 refine FnM.of_body tys_ok Tryd.func27 (by rfl) rfl Tryd.ntmps27 (by rw [Tryd.results27]) (by simp) ?_
 repeat' (first
 | refine W.seq ?_
 | refine W.block ?_
 | (refine W.region tys_ok [] ?_; conv => whnf)
 | (refine W.drawAll tys_ok [] mixed rfl ?_; conv => whnf)
 | (refine W.ret ?_; conv => whnf)
 | (refine W.skip ?_; conv => whnf)
 | (refine W.exit ?_; conv => whnf)
 | (refine W.cond rfl (fun hb => ?_) (fun hb => ?_) <;> (try simp only [zr, zd, zm, minL, maxL, pickB, zA] at hb) <;> (try (first | (cases hb; done) | exact absurd hb (by decide) | (exfalso; omega) | (omega))))
 | ((with_reducible refine And.intro ?_ ?_); exact zc; conv => whnf)
 | ((with_reducible refine And.intro (Side.out ?_) ?_); rotate_left; (conv => whnf))
 | ((first | refine retM1 ?_ | refine retM2 ?_) <;> (conv => whnf) <;> repeat' (first
 | exact trivial
 | (with_reducible rfl)
 | ((with_reducible refine And.intro ?_ ?_) <;> conv => whnf)
 | omega
 | rfl
 | (refine congrArg (SV.arr _) ?_)
 | (refine congrArg (Value.int _) ?_)
 | (refine congrArg Value.bool ?_)))); all_goals (try unfold Side)
 all_goals try (repeat' (first | exact zb | with_reducible refine And.intro ?_ ?_))
 refine W.loop (fun p : Nat × Nat => ⟨[(0, .st true (.sadr (.agg [.arr (.sl .str) ([[row]] : List (List ByteArray)), .arr MT mvL, .arr KT jlL, I64 1, I64 (w : Int)]))), (1, .fn 28 [.padr 1000000000 0, .padr 1000000002 0, .st true (.sadr (.sadr (.agg [.arr (.sl .str) ([[row]] : List (List ByteArray)), .arr MT mvL, .arr KT jlL, I64 1, I64 (w : Int)]))), .padr 1000000004 0, .padr 1000000005 0]), (12, (.lit (.int .i64 (1 : Int)))), (13, (.lit (.int .i64 (p.1 : Int))))], [(1000000000, .box1 (.own 1000000001)), (1000000001, .mps a), (1000000002, .box1 (.own 1000000003)), (1000000003, .mps n), (1000000004, .box1 (.fn 25 [.padr 1000000002 0])), (1000000005, .box1 (.own 0)), (0, .row 84 S3 true (moreK n p.2))]⟩) (fun p => ((p.1 = 0 ∧ p.2 = 0) ∨ (p.1 = 1 ∧ p.2 = w))) (fun p => 1 - p.1) ((0, 0)) ?_ ?_
 · refine ⟨.inl ⟨rfl, rfl⟩, ?_⟩
   refine subF.ok ?_ <;> (conv => whnf) <;> repeat' (first
 | exact trivial
 | (with_reducible rfl)
 | ((with_reducible refine And.intro ?_ ?_) <;> conv => whnf)
 | omega
 | rfl
 | (refine congrArg (SV.arr _) ?_)
 | (refine congrArg (Value.int _) ?_)
 | (refine congrArg Value.bool ?_))
 · rintro ⟨p, q⟩ hp
   dsimp only at hp ⊢
   by_cases hp0 : p = 0
   · have hq : q = 0 := by omega
     subst hp0; subst hq
     repeat' (first
 | refine W.seq ?_
 | refine W.block ?_
 | (refine W.region tys_ok [] ?_; conv => whnf)
 | (refine W.drawAll tys_ok [] mixed rfl ?_; conv => whnf)
 | (refine W.ret ?_; conv => whnf)
 | (refine W.skip ?_; conv => whnf)
 | (refine W.exit ?_; conv => whnf)
 | (refine W.cond rfl (fun hb => ?_) (fun hb => ?_) <;> (try simp only [zr, zd, zm, minL, maxL, pickB, zA] at hb) <;> (try (first | (cases hb; done) | exact absurd hb (by decide) | (exfalso; omega) | (omega))))
 | ((with_reducible refine And.intro ?_ ?_); exact zc; conv => whnf)
 | ((with_reducible refine And.intro (Side.out ?_) ?_); rotate_left; (conv => whnf))
 | ((first | refine retM1 ?_ | refine retM2 ?_) <;> (conv => whnf) <;> repeat' (first
 | exact trivial
 | (with_reducible rfl)
 | ((with_reducible refine And.intro ?_ ?_) <;> conv => whnf)
 | omega
 | rfl
 | (refine congrArg (SV.arr _) ?_)
 | (refine congrArg (Value.int _) ?_)
 | (refine congrArg Value.bool ?_)))); all_goals (try unfold Side)
     all_goals try (repeat' (first | exact zb | with_reducible refine And.intro ?_ ?_))
     refine W.loop (fun p : Nat × Nat => ⟨[(0, .st true (.sadr (.agg [.arr (.sl .str) ([[row]] : List (List ByteArray)), .arr MT mvL, .arr KT jlL, I64 1, I64 (w : Int)]))), (1, .fn 28 [.padr 1000000000 0, .padr 1000000002 0, .st true (.sadr (.sadr (.agg [.arr (.sl .str) ([[row]] : List (List ByteArray)), .arr MT mvL, .arr KT jlL, I64 1, I64 (w : Int)]))), .padr 1000000004 0, .padr 1000000005 0]), (4, (.lit (.int .i64 (0 : Int)))), (12, (.lit (.int .i64 (1 : Int)))), (13, (.lit (.int .i64 (0 : Int)))), (19, (.lit (.int .i64 (1 : Int)))), (20, (.lit (.int .i64 (p.1 : Int))))], [(1000000000, .box1 (.own 1000000001)), (1000000001, .mps a), (1000000002, .box1 (.own 1000000003)), (1000000003, .mps n), (1000000004, .box1 (.fn 25 [.padr 1000000002 0])), (1000000005, .box1 (.own 0)), (0, .row 84 S3 true (moreK n p.2))]⟩) (fun p => ((p.1 = 0 ∧ p.2 = 0) ∨ (p.1 = 1 ∧ p.2 = w))) (fun p => 1 - p.1) ((0, 0)) ?_ ?_
     · refine ⟨.inl ⟨rfl, rfl⟩, ?_⟩
       refine subF.ok ?_ <;> (conv => whnf) <;> repeat' (first
 | exact trivial
 | (with_reducible rfl)
 | ((with_reducible refine And.intro ?_ ?_) <;> conv => whnf)
 | omega
 | rfl
 | (refine congrArg (SV.arr _) ?_)
 | (refine congrArg (Value.int _) ?_)
 | (refine congrArg Value.bool ?_))
     · rintro ⟨y, q⟩ hy
       dsimp only at hy ⊢
       by_cases hy0 : y = 0
       · have hq : q = 0 := by omega
         subst hy0; subst hq
         repeat' (first
 | refine W.seq ?_
 | refine W.block ?_
 | (refine W.region tys_ok [] ?_; conv => whnf)
 | (refine W.drawAll tys_ok [] mixed rfl ?_; conv => whnf)
 | (refine W.ret ?_; conv => whnf)
 | (refine W.skip ?_; conv => whnf)
 | (refine W.exit ?_; conv => whnf)
 | (refine W.cond rfl (fun hb => ?_) (fun hb => ?_) <;> (try simp only [zr, zd, zm, minL, maxL, pickB, zA] at hb) <;> (try (first | (cases hb; done) | exact absurd hb (by decide) | (exfalso; omega) | (omega))))
 | ((with_reducible refine And.intro ?_ ?_); exact zc; conv => whnf)
 | ((with_reducible refine And.intro (Side.out ?_) ?_); rotate_left; (conv => whnf))
 | ((first | refine retM1 ?_ | refine retM2 ?_) <;> (conv => whnf) <;> repeat' (first
 | exact trivial
 | (with_reducible rfl)
 | ((with_reducible refine And.intro ?_ ?_) <;> conv => whnf)
 | omega
 | rfl
 | (refine congrArg (SV.arr _) ?_)
 | (refine congrArg (Value.int _) ?_)
 | (refine congrArg Value.bool ?_)))); all_goals (try unfold Side)
         all_goals try (repeat' (first | exact zb | with_reducible refine And.intro ?_ ?_))
         refine W.loop (fun x : Nat => ⟨[(0, .st true (.sadr (.agg [.arr (.sl .str) ([[row]] : List (List ByteArray)), .arr MT mvL, .arr KT jlL, I64 1, I64 (w : Int)]))), (1, .fn 28 [.padr 1000000000 0, .padr 1000000002 0, .st true (.sadr (.sadr (.agg [.arr (.sl .str) ([[row]] : List (List ByteArray)), .arr MT mvL, .arr KT jlL, I64 1, I64 (w : Int)]))), .padr 1000000004 0, .padr 1000000005 0]), (4, (.lit (.int .i64 (0 : Int)))), (5, (.lit (.int .i64 (0 : Int)))), (12, (.lit (.int .i64 (1 : Int)))), (13, (.lit (.int .i64 (0 : Int)))), (19, (.lit (.int .i64 (1 : Int)))), (20, (.lit (.int .i64 (0 : Int)))), (26, (.lit (.int .i64 (w : Int)))), (27, (.lit (.int .i64 (x : Int))))], [(1000000000, .box1 (.own 1000000001)), (1000000001, .mps a), (1000000002, .box1 (.own 1000000003)), (1000000003, .mps n), (1000000004, .box1 (.fn 25 [.padr 1000000002 0])), (1000000005, .box1 (.own 0)), (0, .row 84 S3 true (moreK n x))]⟩) (fun x => x ≤ w) (fun x => w - x) (0) ?_ ?_
         · refine ⟨Nat.zero_le _, ?_⟩
           refine subF.ok ?_ <;> (conv => whnf) <;> repeat' (first
 | exact trivial
 | (with_reducible rfl)
 | ((with_reducible refine And.intro ?_ ?_) <;> conv => whnf)
 | omega
 | rfl
 | (refine congrArg (SV.arr _) ?_)
 | (refine congrArg (Value.int _) ?_)
 | (refine congrArg Value.bool ?_))
         · intro x hx
           by_cases hxw : x < w
           · have c1 := hv x hxw
             repeat' (first
 | refine W.seq ?_
 | refine W.block ?_
 | (refine W.regionM (id := 9) tys_ok [] [5] ?_; conv => whnf)
 | (refine W.region tys_ok [] ?_; conv => whnf)
 | (refine W.drawAll tys_ok [] mixed rfl ?_; conv => whnf)
 | (refine W.ret ?_; conv => whnf)
 | (refine W.skip ?_; conv => whnf)
 | (refine W.exit ?_; conv => whnf)
 | (refine callM_at (c1) ?_; conv => whnf)
 | (refine W.cond rfl (fun hb => ?_) (fun hb => ?_) <;> (try simp only [zr, zd, zm, minL, maxL, pickB, zA] at hb) <;> (try (first | (cases hb; done) | exact absurd hb (by decide) | (exfalso; omega) | (omega))))
 | (refine Or.inl (And.intro trivial ?_); (conv => whnf))
 | ((with_reducible refine And.intro ?_ ?_); exact zc; conv => whnf)
 | ((with_reducible refine And.intro (Side.out ?_) ?_); rotate_left; (conv => whnf))
 | ((first | refine retM1 ?_ | refine retM2 ?_) <;> (conv => whnf) <;> repeat' (first
 | exact trivial
 | (with_reducible rfl)
 | ((with_reducible refine And.intro ?_ ?_) <;> conv => whnf)
 | omega
 | rfl
 | (refine congrArg (SV.arr _) ?_)
 | (refine congrArg (Value.int _) ?_)
 | (refine congrArg Value.bool ?_)))); all_goals (try unfold Side)
             all_goals try (repeat' (first | exact zb | with_reducible refine And.intro ?_ ?_))
             refine ⟨x + 1, ⟨by omega, by omega⟩, ?_⟩
             refine subF.ok ?_ <;> (conv => whnf) <;> repeat' (first
 | exact trivial
 | (with_reducible rfl)
 | ((with_reducible refine And.intro ?_ ?_) <;> conv => whnf)
 | omega
 | rfl
 | (refine congrArg (SV.arr _) ?_)
 | (refine congrArg (Value.int _) ?_)
 | (refine congrArg Value.bool ?_))
           · have hxe : x = w := by omega
             subst hxe
             repeat' (first
 | refine W.seq ?_
 | refine W.block ?_
 | (refine W.region tys_ok [] ?_; conv => whnf)
 | (refine W.drawAll tys_ok [] mixed rfl ?_; conv => whnf)
 | (refine W.ret ?_; conv => whnf)
 | (refine W.skip ?_; conv => whnf)
 | (refine W.exit ?_; conv => whnf)
 | (refine W.cond rfl (fun hb => ?_) (fun hb => ?_) <;> (try simp only [zr, zd, zm, minL, maxL, pickB, zA] at hb) <;> (try (first | (cases hb; done) | exact absurd hb (by decide) | (exfalso; omega) | (omega))))
 | ((with_reducible refine And.intro ?_ ?_); exact zc; conv => whnf)
 | ((with_reducible refine And.intro (Side.out ?_) ?_); rotate_left; (conv => whnf))
 | ((first | refine retM1 ?_ | refine retM2 ?_) <;> (conv => whnf) <;> repeat' (first
 | exact trivial
 | (with_reducible rfl)
 | ((with_reducible refine And.intro ?_ ?_) <;> conv => whnf)
 | omega
 | rfl
 | (refine congrArg (SV.arr _) ?_)
 | (refine congrArg (Value.int _) ?_)
 | (refine congrArg Value.bool ?_)))); all_goals (try unfold Side)
             all_goals try (repeat' (first | exact zb | with_reducible refine And.intro ?_ ?_))
             refine ⟨(1, x), ⟨.inr ⟨rfl, rfl⟩, by dsimp only; omega⟩, ?_⟩
             refine subF.ok ?_ <;> (conv => whnf) <;> repeat' (first
 | exact trivial
 | (with_reducible rfl)
 | ((with_reducible refine And.intro ?_ ?_) <;> conv => whnf)
 | omega
 | rfl
 | (refine congrArg (SV.arr _) ?_)
 | (refine congrArg (Value.int _) ?_)
 | (refine congrArg Value.bool ?_))
       · obtain ⟨rfl, rfl⟩ : y = 1 ∧ q = w := hy.resolve_left fun h => hy0 h.1
         repeat' (first
 | refine W.seq ?_
 | refine W.block ?_
 | (refine W.region tys_ok [] ?_; conv => whnf)
 | (refine W.drawAll tys_ok [] mixed rfl ?_; conv => whnf)
 | (refine W.ret ?_; conv => whnf)
 | (refine W.skip ?_; conv => whnf)
 | (refine W.exit ?_; conv => whnf)
 | (refine W.cond rfl (fun hb => ?_) (fun hb => ?_) <;> (try simp only [zr, zd, zm, minL, maxL, pickB, zA] at hb) <;> (try (first | (cases hb; done) | exact absurd hb (by decide) | (exfalso; omega) | (omega))))
 | ((with_reducible refine And.intro ?_ ?_); exact zc; conv => whnf)
 | ((with_reducible refine And.intro (Side.out ?_) ?_); rotate_left; (conv => whnf))
 | ((first | refine retM1 ?_ | refine retM2 ?_) <;> (conv => whnf) <;> repeat' (first
 | exact trivial
 | (with_reducible rfl)
 | ((with_reducible refine And.intro ?_ ?_) <;> conv => whnf)
 | omega
 | rfl
 | (refine congrArg (SV.arr _) ?_)
 | (refine congrArg (Value.int _) ?_)
 | (refine congrArg Value.bool ?_)))); all_goals (try unfold Side)
         all_goals try (repeat' (first | exact zb | with_reducible refine And.intro ?_ ?_))
         refine ⟨(1, q), ⟨.inr ⟨rfl, rfl⟩, by dsimp only; omega⟩, ?_⟩
         refine subF.ok ?_ <;> (conv => whnf) <;> repeat' (first
 | exact trivial
 | (with_reducible rfl)
 | ((with_reducible refine And.intro ?_ ?_) <;> conv => whnf)
 | omega
 | rfl
 | (refine congrArg (SV.arr _) ?_)
 | (refine congrArg (Value.int _) ?_)
 | (refine congrArg Value.bool ?_))
   · obtain ⟨rfl, rfl⟩ : p = 1 ∧ q = w := hp.resolve_left fun h => hp0 h.1
     repeat' (first
 | refine W.seq ?_
 | refine W.block ?_
 | (refine W.region tys_ok [] ?_; conv => whnf)
 | (refine W.drawAll tys_ok [] mixed rfl ?_; conv => whnf)
 | (refine W.ret ?_; conv => whnf)
 | (refine W.skip ?_; conv => whnf)
 | (refine W.exit ?_; conv => whnf)
 | (refine W.cond rfl (fun hb => ?_) (fun hb => ?_) <;> (try simp only [zr, zd, zm, minL, maxL, pickB, zA] at hb) <;> (try (first | (cases hb; done) | exact absurd hb (by decide) | (exfalso; omega) | (omega))))
 | ((with_reducible refine And.intro ?_ ?_); exact zc; conv => whnf)
 | ((with_reducible refine And.intro (Side.out ?_) ?_); rotate_left; (conv => whnf))
 | ((first | refine retM1 ?_ | refine retM2 ?_) <;> (conv => whnf) <;> repeat' (first
 | exact trivial
 | (with_reducible rfl)
 | ((with_reducible refine And.intro ?_ ?_) <;> conv => whnf)
 | omega
 | rfl
 | (refine congrArg (SV.arr _) ?_)
 | (refine congrArg (Value.int _) ?_)
 | (refine congrArg Value.bool ?_)))); all_goals (try unfold Side)
     all_goals try (repeat' (first | exact zb | with_reducible refine And.intro ?_ ?_))
open Go Go.Vc Go.Rg
set_option maxHeartbeats 4000000 in
theorem in_m {row s : ByteArray} {w : Nat} (hw : 1 ≤ w ∧ w ≤ 16) (hs : w ≤ s.data.toList.length) : FnM Tryd.prog 24 [.st true (.sadr (.agg [.arr (.sl .str) ([[row]] : List (List ByteArray)), .arr MT mvL, .arr KT jlL, I64 1, I64 (w : Int)])), .st true (.arr (.sl .str) ([[s]] : List (List ByteArray)))] [] (.own 0) [(0, .mps (inK s w))] := by
 have c1 := cin_m (row := row) (s := s) hw hs
 obtain ⟨L, hL⟩ : ∃ L, L = inK s w := ⟨_, rfl⟩
 rw [← hL] at c1 ⊢
 refine FnM.of_body tys_ok Tryd.func24 (by rfl) rfl Tryd.ntmps24 (by rw [Tryd.results24]) (by simp) ?_
 repeat' (first
 | refine W.seq ?_
 | refine W.block ?_
 | (refine W.resub (x := Code.region 2 _ _) (Γ' := ⟨[(0, .st true (.sadr (.agg [.arr (.sl .str) ([[row]] : List (List ByteArray)), .arr MT mvL, .arr KT jlL, I64 1, I64 (w : Int)]))), (3, .st true (.sadr (.arr (.sl .str) ([[s]] : List (List ByteArray))))), (5, .padr 6000 0)], [(6000, .box1 (.own 6001)), (6001, .mps [])]⟩) ?_ (W.regionM tys_ok [] [2] ?_); rotate_left; (conv => whnf))
 | (refine W.region tys_ok [] ?_; conv => whnf)
 | (refine W.drawAll tys_ok [] mixed rfl ?_; conv => whnf)
 | (refine W.ret ?_; conv => whnf)
 | (refine W.skip ?_; conv => whnf)
 | (refine W.exit ?_; conv => whnf)
 | (refine callM_at (c1) ?_; conv => whnf)
 | (refine W.cond rfl (fun hb => ?_) (fun hb => ?_) <;> (try simp only [zr, zd, zm, minL, maxL, pickB, zA] at hb) <;> (try (first | (cases hb; done) | exact absurd hb (by decide) | (exfalso; omega) | (omega))))
 | (refine Or.inl (And.intro trivial ?_); (conv => whnf))
 | ((with_reducible refine And.intro ?_ ?_); exact zc; conv => whnf)
 | ((with_reducible refine And.intro (Side.out ?_) ?_); rotate_left; (conv => whnf))
 | ((first | refine retM1 ?_ | refine retM2 ?_) <;> (conv => whnf) <;> repeat' (first
 | exact trivial
 | (with_reducible rfl)
 | ((with_reducible refine And.intro ?_ ?_) <;> conv => whnf)
 | omega
 | rfl
 | (refine congrArg (SV.arr _) ?_)
 | (refine congrArg (Value.int _) ?_)
 | (refine congrArg Value.bool ?_)))); all_goals (try unfold Side)
 all_goals try refine subF.ok ?_ <;> (conv => whnf) <;> repeat' (first
 | exact trivial
 | (with_reducible rfl)
 | ((with_reducible refine And.intro ?_ ?_) <;> conv => whnf)
 | omega
 | rfl
 | (refine congrArg (SV.arr _) ?_)
 | (refine congrArg (Value.int _) ?_)
 | (refine congrArg Value.bool ?_))
 all_goals try (repeat' (first | exact zb | with_reducible refine And.intro ?_ ?_))
set_option maxHeartbeats 8000000 in
theorem kernel_m {row : ByteArray} {w : Nat} {L : List Int} (hw : 1 ≤ w ∧ w ≤ 16) (hs : w ≤ row.data.toList.length) (hL : inK row w = L) (hl : ∀ x : Nat, x < w → (x : Int) ∈ L) : FnM Tryd.prog 30 [.st true (.sadr (.agg [.arr (.sl .str) ([[row]] : List (List ByteArray)), .arr MT mvL, .arr KT jlL, I64 1, I64 (w : Int)]))] [] (.tup [.own 0, .own 1]) [(0, .mps L), (1, .mps [])] := by
 have c1 := in_m (row := row) (s := row) hw hs
 rw [hL] at c1
 have c2 := cker1_m (row := row) hw hl
 have c3 := cker2_m (row := row) hw hl
 refine FnM.of_body tys_ok Tryd.func30 (by rfl) rfl Tryd.ntmps30 (by rw [Tryd.results30]) (by simp) ?_
 repeat' (first
 | refine W.seq ?_
 | refine W.block ?_
 | (refine W.resub (x := Code.region 1 _ _) (Γ' := ⟨[(1, .st true (.sadr (.sadr (.agg [.arr (.sl .str) ([[row]] : List (List ByteArray)), .arr MT mvL, .arr KT jlL, I64 1, I64 (w : Int)]))))], []⟩) ?_ ?_; rotate_left; refine W.drawMTo (id := 1) tys_ok [] [6] mixed [0, 0, 2, 4, 8, 16, 33, 0, 0, 0, 895, 2047] [([0, 1, 2, 3, 4, 5], 5, 2047), ([], 1, 4095)] ⟨[(1, .st true (.sadr (.sadr (.agg [.arr (.sl .str) ([[row]] : List (List ByteArray)), .arr MT mvL, .arr KT jlL, I64 1, I64 (w : Int)])))), (4, .padr 5000 0), (5, .padr 6000 0)], [(5000, .box1 (.own 5001)), (5001, .mps L), (6000, .box1 (.own 6001)), (6001, .mps [])]⟩ (by decide +kernel) ?_ ?_; (conv => whnf); rotate_left; (conv => whnf))
 | (refine W.regionM (id := 2) tys_ok [] [2] ?_; conv => whnf)
 | (refine W.region tys_ok [] ?_; conv => whnf)
 | (refine W.drawAll tys_ok [] mixed rfl ?_; conv => whnf)
 | (refine W.ret ?_; conv => whnf)
 | (refine W.skip ?_; conv => whnf)
 | (refine W.exit ?_; conv => whnf)
 | (refine callM_at (c1) ?_; conv => whnf)
 | (refine callM_at (c2) ?_; conv => whnf)
 | (refine Both.mk ?_ ?_ <;> (conv => whnf))
 | (refine W.cond rfl (fun hb => ?_) (fun hb => ?_) <;> (try simp only [zr, zd, zm, minL, maxL, pickB, zA] at hb) <;> (try (first | (cases hb; done) | exact absurd hb (by decide) | (exfalso; omega) | (omega))))
 | (refine Or.inl (And.intro trivial ?_); (conv => whnf))
 | ((with_reducible refine And.intro ?_ ?_); exact zc; conv => whnf)
 | ((with_reducible refine And.intro (Side.out ?_) ?_); rotate_left; (conv => whnf))
 | ((first | refine retM1 ?_ | refine retM2 ?_ | refine subF.leaf ?_ | refine subF.side ?_) <;> (conv => whnf) <;> repeat' (first
 | exact trivial
 | (with_reducible rfl)
 | ((with_reducible refine And.intro ?_ ?_) <;> conv => whnf)
 | omega
 | rfl
 | (refine congrArg (SV.arr _) ?_)
 | (refine congrArg (Value.int _) ?_)
 | (refine congrArg Value.bool ?_)))); all_goals (try unfold Side)
 all_goals try refine subF.ok ?_ <;> (conv => whnf) <;> repeat' (first
 | exact trivial
 | (with_reducible rfl)
 | ((with_reducible refine And.intro ?_ ?_) <;> conv => whnf)
 | omega
 | rfl
 | (refine congrArg (SV.arr _) ?_)
 | (refine congrArg (Value.int _) ?_)
 | (refine congrArg Value.bool ?_))
 all_goals try (repeat' (first | exact zb | with_reducible refine And.intro ?_ ?_))
 refine W.loop (fun i : Nat => ⟨[(1, .st true (.sadr (.sadr (.agg [.arr (.sl .str) ([[row]] : List (List ByteArray)), .arr MT mvL, .arr KT jlL, I64 1, I64 (w : Int)])))), (4, .padr 5000 0), (5, .padr 6000 0)], [(5000, .box1 (.own 5001)), (5001, .mps L), (6000, .box1 (.own 6001)), (6001, .mps [])]⟩) (fun i => True) (fun i => i) (0) ?_ ?_
 · refine ⟨trivial, ?_⟩
   refine subF.ok ?_ <;> (conv => whnf) <;> repeat' (first
 | exact trivial
 | (with_reducible rfl)
 | ((with_reducible refine And.intro ?_ ?_) <;> conv => whnf)
 | omega
 | rfl
 | (refine congrArg (SV.arr _) ?_)
 | (refine congrArg (Value.int _) ?_)
 | (refine congrArg Value.bool ?_))
 · rintro i _
   repeat' (first
 | refine W.seq ?_
 | refine W.block ?_
 | (refine W.regionM (id := 6) tys_ok [] [2] ?_; conv => whnf)
 | (refine W.drawM (id := 8) tys_ok [] [] mixed [0, 0, 1, 7] [([], 3, 7), ([3], 0, 15)] (by decide +kernel) ?_; conv => whnf)
 | (refine W.region tys_ok [] ?_; conv => whnf)
 | (refine W.drawAll tys_ok [] mixed rfl ?_; conv => whnf)
 | (refine W.ret ?_; conv => whnf)
 | (refine W.skip ?_; conv => whnf)
 | (refine W.exit ?_; conv => whnf)
 | (refine callM_at (c3) ?_; conv => whnf)
 | (refine Both.mk ?_ ?_ <;> (conv => whnf))
 | (refine W.cond rfl (fun hb => ?_) (fun hb => ?_) <;> (try simp only [zr, zd, zm, minL, maxL, pickB, zA] at hb) <;> (try (first | (cases hb; done) | exact absurd hb (by decide) | (exfalso; omega) | (omega))))
 | (refine Or.inl (And.intro trivial ?_); (conv => whnf))
 | ((with_reducible refine And.intro ?_ ?_); exact zc; conv => whnf)
 | ((with_reducible refine And.intro (Side.out ?_) ?_); rotate_left; (conv => whnf))
 | ((first | refine retM1 ?_ | refine retM2 ?_ | refine subF.leaf ?_ | refine subF.side ?_) <;> (conv => whnf) <;> repeat' (first
 | exact trivial
 | (with_reducible rfl)
 | ((with_reducible refine And.intro ?_ ?_) <;> conv => whnf)
 | omega
 | rfl
 | (refine congrArg (SV.arr _) ?_)
 | (refine congrArg (Value.int _) ?_)
 | (refine congrArg Value.bool ?_)))); all_goals (try unfold Side)
   all_goals try (repeat' (first | exact zb | with_reducible refine And.intro ?_ ?_))
end Go.Proofs.YtckmhlpngolbpaaDoor
namespace Go.Vc
def litsOf : List AV → Option (List SV)
 | [] => some []
 | .lit v :: r => match litsOf r with
  | some l => some (.lit v :: l)
  | none => none
 | _ :: _ => none
theorem litsOf_len : ∀ {l : List AV} {s : List SV}, litsOf l = some s → s.length = l.length
 | [], s, h => by cases h; rfl
 | A :: r, s, h => by
  cases A <;> simp only [litsOf] at h <;> first | (cases h; done) | skip
  split at h
  · rename_i l hl
    cases h
    rw [List.length_cons, List.length_cons, litsOf_len hl]
  · cases h
theorem litsOf_get : ∀ {l : List AV} {s : List SV} {i : Nat} {B : SV}, litsOf l = some s → s[i]? = some B → ∃ v, B = .lit v ∧ l[i]? = some (.lit v)
 | [], s, i, B, h, hi => by cases h; simp at hi
 | A :: r, s, i, B, h, hi => by
  cases A <;> simp only [litsOf] at h <;> first | (cases h; done) | skip
  rename_i v
  split at h
  · rename_i l hl
    cases h
    cases i with
    | zero => simp at hi; subst hi; exact ⟨v, rfl, rfl⟩
    | succ i =>
     obtain ⟨u, h1, h2⟩ := litsOf_get (l := r) (i := i) (B := B) hl (by simpa using hi)
     exact ⟨u, h1, by simpa using h2⟩
  · cases h
def Sy.frz (Γ : Sy) (t k : Nat) (s : List SV) : Sy := ⟨(t, .st false (.sadr (.agg s))) :: (Γ.drop k).tmps, (Γ.drop k).own⟩
theorem St.frzBox {c : Cx} {Γ : Sy} {g : Nat → Value} {a : Act} {w : World} (h : St c Γ g a w) {t k : Nat} {l : List AV} {s : List SV} (ht : get? Γ.tmps t = some (.padr k 0)) (hk : get? Γ.own k = some (.box l)) (hs : litsOf l = some s) : St c (Γ.frz t k s) g a w := by
 have hd := h.drop k
 obtain ⟨b, hg, hv⟩ := h.tmps t _ ht
 obtain ⟨b', arr, e, hg', hb1, hb2, hsz, hc⟩ := h.hp.ok k _ hk
 have eb : b' = b := by rw [hg] at hg'; cases hg'; rfl
 subst eb
 have hn : ¬ Oset (Γ.drop k).own g b' := by
  rintro ⟨j, o, h1, h2⟩
  simp only [Sy.drop, get?_mapv, get?_del] at h1
  split at h1
  · cases h1
  · rename_i hne
    obtain ⟨o', h3, _⟩ := Option.map_eq_some_iff.1 h1
    have hb : Blk (g k) b' := Blk.of (by rw [hg]; rfl)
    exact hne (h.hp.inj j k o' _ b' h3 hk h2 hb)
 have key : RpS w (Av (Oset (Γ.drop k).own g) c.O0 false) (.pointer (some ⟨b', 0, none⟩)) (.sadr (.agg s)) := by
  refine RpS.sadr b' 0 _ (.agg arr) arr e (0, 0) hb2 (fun hO => ?_) (fun j hj => ?_) ?_
  · rcases hO with hO | ⟨hO, _⟩
    · exact hn hO
    · cases hO
  · rw [Nat.zero_add]; rfl
  · refine RpS.agg arr s (fun i => arr.getD i undef) (by rw [hsz, litsOf_len hs]) (fun i hi => ?_) (fun i B hB => ?_)
    · obtain ⟨v, _, hl⟩ := litsOf_get hs (List.getElem?_eq_getElem hi) (B := s[i])
      obtain ⟨x, h1, h2, _⟩ := hc i _ hl
      rw [Array.getD_eq_getD_getElem?, h1]
      exact ⟨rfl, h2⟩
    · obtain ⟨v, rfl, hl⟩ := litsOf_get hs hB
      obtain ⟨x, h1, h2, h3⟩ := hc i _ hl
      rw [Array.getD_eq_getD_getElem?, h1]
      have h4 : x = v ∧ v.oneCell' = true := h3
      obtain ⟨rfl, _⟩ := h4
      exact RpS.lit _ h2
 refine ⟨hd.defers, hd.size, hd.keep, hd.o0, fun t' A hA => ?_, hd.kept, hd.hp, hd.low, hd.pin⟩
 have hA : get? ((t, .st false (.sadr (.agg s))) :: (Γ.drop k).tmps) t' = some A := hA
 simp only [get?] at hA
 split at hA
 · rename_i he
   have he := Nat.eq_of_beq_eq_true he
   cases hA
   subst he
   rw [hv]
   exact key
 · exact hd.tmps t' A hA
theorem W.frz {P : Program} {n : Nat} {Q : Exit → Sy → Prop} {Γ : Sy} {x : Code} {t k : Nat} {l : List AV} {s : List SV} (ht : get? Γ.tmps t = some (.padr k 0)) (hk : get? Γ.own k = some (.box l)) (hs : litsOf l = some s) (h : W P n x (Γ.frz t k s) Q) : W P n x Γ Q :=
 ⟨fun c g a w hn hst => h.out c g a w hn (hst.frzBox ht hk hs)⟩
theorem RegW.frz {P : Program} {n : Nat} {Q : Exit → Sy → Prop} {Γ : Sy} {ops : Array Oper} {i t k : Nat} {l : List AV} {s : List SV} (ht : get? Γ.tmps t = some (.padr k 0)) (hk : get? Γ.own k = some (.box l)) (hs : litsOf l = some s) (h : RegW P n ops i (Γ.frz t k s) Q) : RegW P n ops i Γ Q :=
 fun c g a w hn hst => h c g a w hn (hst.frzBox ht hk hs)
end Go.Vc
namespace Go.Proofs
open Go.Shelf
def Tryd.lays160_ren : Go.Shelf.Ren := ⟨fun | 160 => 36 | 232 => 52 | 231 => 51 | 227 => 53 | 234 => 55 | 233 => 54 | 236 => 57 | 235 => 56 | 228 => 62 | 271 => 65 | 151 => 64 | 197 => 63 | 120 => 69 | 152 => 68 | 260 => 67 | 137 => 70 | 119 => 71 | 224 => 72 | 225 => 73 | 217 => 74 | 266 => 75 | n => n, fun | 9 => 9 | 4 => 4 | 3 => 3 | 5 => 5 | 117 => 129 | 116 => 128 | 0 => 0 | 124 => 132 | 21 => 21 | 105 => 139 | 46 => 145 | 119 => 144 | 139 => 148 | 138 => 147 | n => n, fun | 3 => 0 | 4 => 1 | n => n⟩
theorem Tryd.lays160 : Go.Proofs.Lays.n160 Tryd.prog Tryd.lays160_ren := {
 mixed := by kernel_rfl
 f119 := Tryd.func71.trans (congrArg some (by kernel_rfl))
 f120 := Tryd.func69.trans (congrArg some (by kernel_rfl))
 f137 := Tryd.func70.trans (congrArg some (by kernel_rfl))
 f151 := Tryd.func64.trans (congrArg some (by kernel_rfl))
 f152 := Tryd.func68.trans (congrArg some (by kernel_rfl))
 f160 := Tryd.func36.trans (congrArg some (by kernel_rfl))
 f197 := Tryd.func63.trans (congrArg some (by kernel_rfl))
 f217 := Tryd.func74.trans (congrArg some (by kernel_rfl))
 f224 := Tryd.func72.trans (congrArg some (by kernel_rfl))
 f225 := Tryd.func73.trans (congrArg some (by kernel_rfl))
 f227 := Tryd.func53.trans (congrArg some (by kernel_rfl))
 f228 := Tryd.func62.trans (congrArg some (by kernel_rfl))
 f231 := Tryd.func51.trans (congrArg some (by kernel_rfl))
 f232 := Tryd.func52.trans (congrArg some (by kernel_rfl))
 f233 := Tryd.func54.trans (congrArg some (by kernel_rfl))
 f234 := Tryd.func55.trans (congrArg some (by kernel_rfl))
 f235 := Tryd.func56.trans (congrArg some (by kernel_rfl))
 f236 := Tryd.func57.trans (congrArg some (by kernel_rfl))
 f260 := Tryd.func67.trans (congrArg some (by kernel_rfl))
 f266 := Tryd.func75.trans (congrArg some (by kernel_rfl))
 f271 := Tryd.func65.trans (congrArg some (by kernel_rfl))
 t0 := Tryd.underlying0
 a0 := Tryd.isAgg0
 z0 := Tryd.sizeOf0
 v0 := Tryd.zeroValue0
 t3 := Tryd.underlying3
 a3 := Tryd.isAgg3
 z3 := Tryd.sizeOf3
 v3 := Tryd.zeroValue3
 t4 := Tryd.underlying4
 a4 := Tryd.isAgg4
 z4 := Tryd.sizeOf4
 v4 := Tryd.zeroValue4
 t5 := Tryd.underlying5
 a5 := Tryd.isAgg5
 z5 := Tryd.sizeOf5
 v5 := Tryd.zeroValue5
 t9 := Tryd.underlying9
 a9 := Tryd.isAgg9
 z9 := Tryd.sizeOf9
 v9 := Tryd.zeroValue9
 t21 := Tryd.underlying21
 a21 := Tryd.isAgg21
 z21 := Tryd.sizeOf21
 v21 := Tryd.zeroValue21
 t46 := Tryd.underlying145
 a46 := Tryd.isAgg145
 z46 := Tryd.sizeOf145
 v46 := Tryd.zeroValue145
 t105 := Tryd.underlying139
 a105 := Tryd.isAgg139
 z105 := Tryd.sizeOf139
 v105 := Tryd.zeroValue139
 t116 := Tryd.underlying128
 a116 := Tryd.isAgg128
 z116 := Tryd.sizeOf128
 t117 := Tryd.underlying129
 a117 := Tryd.isAgg129
 z117 := Tryd.sizeOf129
 v117 := Tryd.zeroValue129
 t119 := Tryd.underlying144
 a119 := Tryd.isAgg144
 z119 := Tryd.sizeOf144
 t124 := Tryd.underlying132
 a124 := Tryd.isAgg132
 z124 := Tryd.sizeOf132
 v124 := Tryd.zeroValue132
 t138 := Tryd.underlying147
 a138 := Tryd.isAgg147
 z138 := Tryd.sizeOf147
 v138 := Tryd.zeroValue147
 t139 := Tryd.underlying148
 a139 := Tryd.isAgg148
 z139 := Tryd.sizeOf148
 v139 := Tryd.zeroValue148
 g3 := by kernel_rfl
 g4 := by kernel_rfl }
end Go.Proofs
namespace Go.Proofs.YtckmhlpngolbpaaDoor
open Int renaming reduceToNat → zr, reduceTDiv → zd, reduceTMod → zm
open Go Go.Vc Go.RowKit Go.Lib
theorem trim_at {s cut : ByteArray} {r : List UInt8} (hs : s.size ≤ 9223372036854775807) (hc : cut.size < 4294967281) (ha : ∀ (j : Nat) b, cut.data.toList[j]? = some b → b.toNat < 128) (hr : r = Lib.trimS s.data.toList cut.data.toList) :
  FnAt Tryd.prog false 36 [.lit (.string s), .lit (.string cut)] (.lit (.string ⟨⟨r⟩⟩)) [] := by
 refine ⟨⟨_, Tryd.func36, rfl, rfl⟩, fun w O vals hO hv => ?_⟩
 have hl := hv.1
 match vals, hl with
 | [u, v], _ =>
  have h0 : RpS w _ u (.lit (.string s)) := hv.2 0 u _ rfl rfl
  have h1 : RpS w _ v (.lit (.string cut)) := hv.2 1 v _ rfl rfl
  cases h0
  cases h1
  refine (Any.strings_Trim_laid Tryd.lays160 (by kernel_rfl) s cut w hs hc ha).mono ?_
  rintro e w' ⟨rfl, h2⟩
  refine ⟨_, rfl, ⟨h2.os, h2.tape, h2.output, h2.size, fun b hb _ => h2.block b hb⟩, fun _ => undef, ⟨?_, rfl⟩, ⟨fun k o hk => (by cases hk), fun k k' o o' b h3 => (by cases h3)⟩⟩
  rw [hr]
theorem trim_all {l cs : List UInt8} (h : ∀ x ∈ l, x ∈ cs) : Lib.trimS l cs = [] := by
 have h1 : ∀ m : List UInt8, (∀ x ∈ m, x ∈ cs) → m.dropWhile (cs.contains ·) = [] := by
  intro m
  induction m with
  | nil => intro _; rfl
  | cons a r ih =>
   intro hm
   have : cs.contains a = true := by simpa using hm a (by simp)
   rw [List.dropWhile_cons, if_pos this]
   exact ih fun x hx => hm x (by simp [hx])
 unfold Lib.trimS Lib.trimRightS Lib.trimLeftS
 rw [h1 l.reverse (by simpa using h)]
 rfl
end Go.Proofs.YtckmhlpngolbpaaDoor
