/- Joined of: D5 D6 D7 Ha13 Ha14 Ha15 Ha17 Ha21 Tp6 H2. No condition. -/
import Derived.Test.YtckmhlpngolbpaaJ6
import Derived.Test.YtckmhlpngolbpaaJ5
set_option linter.unusedVariables false
set_option linter.unusedSimpArgs false
namespace Go.Proofs.Ytckmhlpngolbpaa
open Int renaming reduceToNat → zr, reduceTDiv → zd, reduceTMod → zm
open Go Go.Vc Go.Sh Go.Tp
set_option maxHeartbeats 4000000 in
theorem yieldY_at {C : List (List Int)} {n : Nat} {S : List Nat} (h : CO C n) (hS : ∀ i, i ∈ S → i < n) (hSl : S.length ≤ 100) (hd : dfc (alC C) n S = true) : FnM Try.prog 22 [.st true (.narr (.int .i64) (zN S : List Int)), .padr 1000000000 0, .padr 1000000001 0, .padr 1000000002 0] [(1000000000, .box1 (.st true (.arr (.sl (.int .i64)) (C : List (List Int))))), (1000000001, .box1 (.lit (.int .i64 (0 : Int)))), (1000000002, .box1 (.lit (.slice none 0 0)))] (.lit (.bool false)) [(1000000000, .box1 (.st true (.arr (.sl (.int .i64)) (C : List (List Int))))), (1000000001, .box1 (.lit (.int .i64 (0 : Int)))), (1000000002, .box1 (.st true (.narr (.int .i64) (zN S : List Int))))] := by
 have hl : @List.length (Ty.int .i64).T (zN S) = S.length := zN_len
 have hl2 : (zN S).length = S.length := zN_len
 have hlc : @List.length (Ty.sl (.int .i64)).T C = n := h.len
 have hn6 := h.n6
 have hdd : hdl (alC C) S n < S.length := of_decide_eq_true hd
 have hem : (zN S).isEmpty = false := by
  cases e : zN S with
  | nil => rw [e] at hl2; simp at hl2; omega
  | cons => rfl
 have hhl : ∀ k, k ≤ n → hdl (alC C) S k ≤ k := fun k _ => by
  have := sumN_le (f := fun j => if S.any (fun i => alC C i j) = true then 1 else 0) (B := 1) (fun j => by split <;> omega) k
  unfold hdl; omega
 refine FnM.of_body tys_ok Try.func22 (by rfl) rfl Try.ntmps22 (by rw [Try.results22]) (by simp) ?_
 repeat' (first
 | refine W.seq ?_
 | refine W.block ?_
 | (refine W.region tys_ok [] ?_; conv => whnf)
 | (refine W.drawAll tys_ok [] mixed rfl ?_; conv => whnf)
 | (refine W.ret ?_; conv => whnf)
 | (refine W.skip ?_; conv => whnf)
 | (refine W.exit ?_; conv => whnf)
 | (refine W.cond rfl (fun hb => ?_) (fun hb => ?_) <;> (try simp only [zr, zd, zm, minL, maxL, pickB, zA] at hb) <;> (try (first | (cases hb; done) | exact absurd hb (by decide) | (exfalso; omega) | (omega))))
 | ((with_reducible refine And.intro ?_ ?_); exact zc; conv => whnf)
 | ((with_reducible refine And.intro (Side.out ?_) ?_); rotate_left; (conv => whnf))
 | ((first | refine retM1 ?_ | refine retM2 ?_) <;> (conv => whnf) <;> repeat' (first
 | exact trivial
 | (with_reducible rfl)
 | ((with_reducible refine And.intro ?_ ?_) <;> conv => whnf)
 | omega
 | rfl
 | (refine congrArg (SV.arr _) ?_)
 | (refine congrArg (Value.int _) ?_)
 | (refine congrArg Value.bool ?_)))); all_goals (try unfold Side)
 all_goals try (repeat' (first | exact zb | with_reducible refine And.intro ?_ ?_))
 refine W.loop (fun k : Nat => ⟨[(0, .st true (.narr (.int .i64) (zN S : List Int))), (1, .padr 1000000000 0), (2, .padr 1000000001 0), (3, .padr 1000000002 0), (6, (.lit (.int .i64 ((hdl (alC C) S k : Nat) : Int)))), (9, (.lit (.int .i64 (n : Int)))), (10, (.lit (.int .i64 (k : Int))))], [(1000000000, .box1 (.st true (.arr (.sl (.int .i64)) (C : List (List Int))))), (1000000001, .box1 (.lit (.int .i64 (0 : Int)))), (1000000002, .box1 (.lit (.slice none 0 0)))]⟩) (fun k => k ≤ n) (fun k => n - k) (0) ?_ ?_
 · refine ⟨Nat.zero_le _, ?_⟩
   refine subF.ok ?_ <;> (conv => whnf) <;> repeat' (first
 | exact trivial
 | (with_reducible rfl)
 | ((with_reducible refine And.intro ?_ ?_) <;> conv => whnf)
 | omega
 | rfl
 | (refine congrArg (SV.arr _) ?_)
 | (refine congrArg (Value.int _) ?_)
 | (refine congrArg Value.bool ?_))
   all_goals first | exact congrArg Nat.cast hlc | skip
 · rintro k hk
   by_cases hkn : k < n
   · have c1 := anyC_at h hkn hS hSl
     obtain ⟨b, hbd⟩ : ∃ b, b = S.any fun i => alC C i k := ⟨_, rfl⟩
     rw [← hbd] at c1
     have hst : hdl (alC C) S (k + 1) = hdl (alC C) S k + if b = true then 1 else 0 := by rw [hbd]; rfl
     have hb1 := hhl k (by omega)
     cases b with
     | true =>
      repeat' (first
 | refine W.seq ?_
 | refine W.block ?_
 | (refine W.region tys_ok [] ?_; conv => whnf)
 | (refine W.drawAll tys_ok [] mixed rfl ?_; conv => whnf)
 | (refine W.ret ?_; conv => whnf)
 | (refine W.skip ?_; conv => whnf)
 | (refine W.exit ?_; conv => whnf)
 | (refine call_at (al := false) (c1) rfl rfl rfl rfl ?_; conv => whnf)
 | (refine W.cond rfl (fun hb => ?_) (fun hb => ?_) <;> (try simp only [zr, zd, zm, minL, maxL, pickB, zA] at hb) <;> (try (first | (cases hb; done) | exact absurd hb (by decide) | (exfalso; omega) | (omega))))
 | ((with_reducible refine And.intro ?_ ?_); exact zc; conv => whnf)
 | ((with_reducible refine And.intro (Side.out ?_) ?_); rotate_left; (conv => whnf))
 | ((first | refine retM1 ?_ | refine retM2 ?_) <;> (conv => whnf) <;> repeat' (first
 | exact trivial
 | (with_reducible rfl)
 | ((with_reducible refine And.intro ?_ ?_) <;> conv => whnf)
 | omega
 | rfl
 | (refine congrArg (SV.arr _) ?_)
 | (refine congrArg (Value.int _) ?_)
 | (refine congrArg Value.bool ?_)))); all_goals (try unfold Side)
      all_goals try (repeat' (first | exact zb | with_reducible refine And.intro ?_ ?_))
      refine ⟨k + 1, ⟨by omega, by omega⟩, ?_⟩
      rw [hst]
      refine subF.ok ?_ <;> (conv => whnf) <;> repeat' (first
 | exact trivial
 | (with_reducible rfl)
 | ((with_reducible refine And.intro ?_ ?_) <;> conv => whnf)
 | omega
 | rfl
 | (refine congrArg (SV.arr _) ?_)
 | (refine congrArg (Value.int _) ?_)
 | (refine congrArg Value.bool ?_))
     | false =>
      repeat' (first
 | refine W.seq ?_
 | refine W.block ?_
 | (refine W.region tys_ok [] ?_; conv => whnf)
 | (refine W.drawAll tys_ok [] mixed rfl ?_; conv => whnf)
 | (refine W.ret ?_; conv => whnf)
 | (refine W.skip ?_; conv => whnf)
 | (refine W.exit ?_; conv => whnf)
 | (refine call_at (al := false) (c1) rfl rfl rfl rfl ?_; conv => whnf)
 | (refine W.cond rfl (fun hb => ?_) (fun hb => ?_) <;> (try simp only [zr, zd, zm, minL, maxL, pickB, zA] at hb) <;> (try (first | (cases hb; done) | exact absurd hb (by decide) | (exfalso; omega) | (omega))))
 | ((with_reducible refine And.intro ?_ ?_); exact zc; conv => whnf)
 | ((with_reducible refine And.intro (Side.out ?_) ?_); rotate_left; (conv => whnf))
 | ((first | refine retM1 ?_ | refine retM2 ?_) <;> (conv => whnf) <;> repeat' (first
 | exact trivial
 | (with_reducible rfl)
 | ((with_reducible refine And.intro ?_ ?_) <;> conv => whnf)
 | omega
 | rfl
 | (refine congrArg (SV.arr _) ?_)
 | (refine congrArg (Value.int _) ?_)
 | (refine congrArg Value.bool ?_)))); all_goals (try unfold Side)
      all_goals try (repeat' (first | exact zb | with_reducible refine And.intro ?_ ?_))
      refine ⟨k + 1, ⟨by omega, by omega⟩, ?_⟩
      rw [hst]
      refine subF.ok ?_ <;> (conv => whnf) <;> repeat' (first
 | exact trivial
 | (with_reducible rfl)
 | ((with_reducible refine And.intro ?_ ?_) <;> conv => whnf)
 | omega
 | rfl
 | (refine congrArg (SV.arr _) ?_)
 | (refine congrArg (Value.int _) ?_)
 | (refine congrArg Value.bool ?_))
   · have hke : k = n := by omega
     rw [← hke] at hdd
     repeat' (first
 | refine W.seq ?_
 | refine W.block ?_
 | (refine W.region tys_ok [] ?_; conv => whnf)
 | (refine W.drawAll tys_ok [] mixed rfl ?_; conv => whnf)
 | (refine W.ret ?_; conv => whnf)
 | (refine W.skip ?_; conv => whnf)
 | (refine W.exit ?_; conv => whnf)
 | (refine W.cond rfl (fun hb => ?_) (fun hb => ?_) <;> (try simp only [zr, zd, zm, minL, maxL, pickB, zA] at hb) <;> (try (first | (cases hb; done) | exact absurd hb (by decide) | (exfalso; omega) | (omega))))
 | ((with_reducible refine And.intro ?_ ?_); exact zc; conv => whnf)
 | ((with_reducible refine And.intro (Side.out ?_) ?_); rotate_left; (conv => whnf))
 | ((first | refine retM1 ?_ | refine retM2 ?_) <;> (conv => whnf) <;> repeat' (first
 | exact trivial
 | (with_reducible rfl)
 | ((with_reducible refine And.intro ?_ ?_) <;> conv => whnf)
 | omega
 | rfl
 | (refine congrArg (SV.arr _) ?_)
 | (refine congrArg (Value.int _) ?_)
 | (refine congrArg Value.bool ?_)))); all_goals (try unfold Side)
     all_goals try (repeat' (first | exact zb | with_reducible refine And.intro ?_ ?_))
     all_goals first | exact hem | skip
set_option maxHeartbeats 4000000 in
theorem grow0_at' {C : List (List Int)} {n : Nat} {S : List Nat} {a : Nat} (h : CO C n) (hS : ∀ i, i ∈ S → i < n) (hSl : S.length ≤ 100) : (Tp.growS (alC C) n 0 S a = none → FnM Try.prog 46 [.st true (.narr (.int .i64) (zN S : List Int)), (.lit (.int .i64 (a : Int))), (.lit (.int .i64 ((0 : Nat) : Int))), .padr 1000000003 0, .padr 1000000004 0, .padr 1000000005 0] [(1000000000, .box1 (.st true (.arr (.sl (.int .i64)) (C : List (List Int))))), (1000000001, .box1 (.lit (.int .i64 (0 : Int)))), (1000000002, .box1 (.lit (.slice none 0 0))), (1000000003, .box1 (.fn 22 [.padr 1000000000 0, .padr 1000000001 0, .padr 1000000002 0])), (1000000004, .box1 (.lit (.int .i64 (n : Int)))), (1000000005, .box1 (.fn 46 [.padr 1000000003 0, .padr 1000000004 0, .padr 1000000005 0]))] (.lit (.bool true)) [(1000000000, .box1 (.st true (.arr (.sl (.int .i64)) (C : List (List Int))))), (1000000001, .box1 (.lit (.int .i64 (0 : Int)))), (1000000002, .box1 (.lit (.slice none 0 0))), (1000000003, .box1 (.fn 22 [.padr 1000000000 0, .padr 1000000001 0, .padr 1000000002 0])), (1000000004, .box1 (.lit (.int .i64 (n : Int)))), (1000000005, .box1 (.fn 46 [.padr 1000000003 0, .padr 1000000004 0, .padr 1000000005 0]))]) ∧ ∀ S', Tp.growS (alC C) n 0 S a = some S' → FnM Try.prog 46 [.st true (.narr (.int .i64) (zN S : List Int)), (.lit (.int .i64 (a : Int))), (.lit (.int .i64 ((0 : Nat) : Int))), .padr 1000000003 0, .padr 1000000004 0, .padr 1000000005 0] [(1000000000, .box1 (.st true (.arr (.sl (.int .i64)) (C : List (List Int))))), (1000000001, .box1 (.lit (.int .i64 (0 : Int)))), (1000000002, .box1 (.lit (.slice none 0 0))), (1000000003, .box1 (.fn 22 [.padr 1000000000 0, .padr 1000000001 0, .padr 1000000002 0])), (1000000004, .box1 (.lit (.int .i64 (n : Int)))), (1000000005, .box1 (.fn 46 [.padr 1000000003 0, .padr 1000000004 0, .padr 1000000005 0]))] (.lit (.bool false)) [(1000000000, .box1 (.st true (.arr (.sl (.int .i64)) (C : List (List Int))))), (1000000001, .box1 (.lit (.int .i64 (0 : Int)))), (1000000002, .box1 (.st true (.narr (.int .i64) (zN S' : List Int)))), (1000000003, .box1 (.fn 22 [.padr 1000000000 0, .padr 1000000001 0, .padr 1000000002 0])), (1000000004, .box1 (.lit (.int .i64 (n : Int)))), (1000000005, .box1 (.fn 46 [.padr 1000000003 0, .padr 1000000004 0, .padr 1000000005 0]))] := by
 refine ⟨fun e => ?_, fun S' e => ?_⟩
 · rw [Tp.growS] at e
   split at e
   · cases e
   · rename_i hd
     have c1 := yieldN_at h hS hSl (by simpa using hd)
     refine FnM.of_body tys_ok Try.func46 (by rfl) rfl Try.ntmps46 (by rw [Try.results46]) (by simp) ?_
     repeat' (first
 | refine W.seq ?_
 | refine W.block ?_
 | (refine W.regionM (id := 2) tys_ok [] [2] ?_; conv => whnf)
 | (refine W.region tys_ok [] ?_; conv => whnf)
 | (refine W.drawAll tys_ok [] mixed rfl ?_; conv => whnf)
 | (refine W.ret ?_; conv => whnf)
 | (refine W.skip ?_; conv => whnf)
 | (refine W.exit ?_; conv => whnf)
 | (refine callM_at (c1) ?_; conv => whnf)
 | (refine W.cond rfl (fun hb => ?_) (fun hb => ?_) <;> (try simp only [zr, zd, zm, minL, maxL, pickB, zA] at hb) <;> (try (first | (cases hb; done) | exact absurd hb (by decide) | (exfalso; omega) | (omega))))
 | (refine Or.inl (And.intro trivial ?_); (conv => whnf))
 | ((with_reducible refine And.intro ?_ ?_); exact zc; conv => whnf)
 | ((with_reducible refine And.intro (Side.out ?_) ?_); rotate_left; (conv => whnf))
 | ((first | refine retM1 ?_ | refine retM2 ?_) <;> (conv => whnf) <;> repeat' (first
 | exact trivial
 | (with_reducible rfl)
 | ((with_reducible refine And.intro ?_ ?_) <;> conv => whnf)
 | omega
 | rfl
 | (refine congrArg (SV.arr _) ?_)
 | (refine congrArg (Value.int _) ?_)
 | (refine congrArg Value.bool ?_)))); all_goals (try unfold Side)
     all_goals try (repeat' (first | exact zb | with_reducible refine And.intro ?_ ?_))
 · rw [Tp.growS] at e
   split at e
   · rename_i hd
     injection e with e
     subst e
     have c1 := yieldY_at h hS hSl hd
     refine FnM.of_body tys_ok Try.func46 (by rfl) rfl Try.ntmps46 (by rw [Try.results46]) (by simp) ?_
     repeat' (first
 | refine W.seq ?_
 | refine W.block ?_
 | (refine W.regionM (id := 2) tys_ok [] [2] ?_; conv => whnf)
 | (refine W.region tys_ok [] ?_; conv => whnf)
 | (refine W.drawAll tys_ok [] mixed rfl ?_; conv => whnf)
 | (refine W.ret ?_; conv => whnf)
 | (refine W.skip ?_; conv => whnf)
 | (refine W.exit ?_; conv => whnf)
 | (refine callM_at (c1) ?_; conv => whnf)
 | (refine W.cond rfl (fun hb => ?_) (fun hb => ?_) <;> (try simp only [zr, zd, zm, minL, maxL, pickB, zA] at hb) <;> (try (first | (cases hb; done) | exact absurd hb (by decide) | (exfalso; omega) | (omega))))
 | (refine Or.inl (And.intro trivial ?_); (conv => whnf))
 | ((with_reducible refine And.intro ?_ ?_); exact zc; conv => whnf)
 | ((with_reducible refine And.intro (Side.out ?_) ?_); rotate_left; (conv => whnf))
 | ((first | refine retM1 ?_ | refine retM2 ?_) <;> (conv => whnf) <;> repeat' (first
 | exact trivial
 | (with_reducible rfl)
 | ((with_reducible refine And.intro ?_ ?_) <;> conv => whnf)
 | omega
 | rfl
 | (refine congrArg (SV.arr _) ?_)
 | (refine congrArg (Value.int _) ?_)
 | (refine congrArg Value.bool ?_)))); all_goals (try unfold Side)
     all_goals try (repeat' (first | exact zb | with_reducible refine And.intro ?_ ?_))
   · cases e
theorem zN_app' {a : List Nat} {j : Nat} : zN a ++ [(j : Int)] = zN (a ++ [j]) := by unfold zN; rw [List.map_append]; rfl
set_option maxHeartbeats 16000000 in
theorem growF_at' {C : List (List Int)} {n f : Nat} {S : List Nat} {a : Nat} (h : CO C n) (hSl : S.length + (f + 1) ≤ 100) (hf : f < 100)
  (ih : ∀ d, d < n - f - a → (Tp.growS (alC C) n f (S ++ [a + d]) (a + d + 1) = none → FnM Try.prog 46 [.st true (.narr (.int .i64) (zN (S ++ [a + d]) : List Int)), (.lit (.int .i64 ((a + d + 1 : Nat) : Int))), (.lit (.int .i64 ((f : Nat) : Int))), .padr 1000000003 0, .padr 1000000004 0, .padr 1000000005 0] [(1000000000, .box1 (.st true (.arr (.sl (.int .i64)) (C : List (List Int))))), (1000000001, .box1 (.lit (.int .i64 (0 : Int)))), (1000000002, .box1 (.lit (.slice none 0 0))), (1000000003, .box1 (.fn 22 [.padr 1000000000 0, .padr 1000000001 0, .padr 1000000002 0])), (1000000004, .box1 (.lit (.int .i64 (n : Int)))), (1000000005, .box1 (.fn 46 [.padr 1000000003 0, .padr 1000000004 0, .padr 1000000005 0]))] (.lit (.bool true)) [(1000000000, .box1 (.st true (.arr (.sl (.int .i64)) (C : List (List Int))))), (1000000001, .box1 (.lit (.int .i64 (0 : Int)))), (1000000002, .box1 (.lit (.slice none 0 0))), (1000000003, .box1 (.fn 22 [.padr 1000000000 0, .padr 1000000001 0, .padr 1000000002 0])), (1000000004, .box1 (.lit (.int .i64 (n : Int)))), (1000000005, .box1 (.fn 46 [.padr 1000000003 0, .padr 1000000004 0, .padr 1000000005 0]))]) ∧ ∀ S', Tp.growS (alC C) n f (S ++ [a + d]) (a + d + 1) = some S' → FnM Try.prog 46 [.st true (.narr (.int .i64) (zN (S ++ [a + d]) : List Int)), (.lit (.int .i64 ((a + d + 1 : Nat) : Int))), (.lit (.int .i64 ((f : Nat) : Int))), .padr 1000000003 0, .padr 1000000004 0, .padr 1000000005 0] [(1000000000, .box1 (.st true (.arr (.sl (.int .i64)) (C : List (List Int))))), (1000000001, .box1 (.lit (.int .i64 (0 : Int)))), (1000000002, .box1 (.lit (.slice none 0 0))), (1000000003, .box1 (.fn 22 [.padr 1000000000 0, .padr 1000000001 0, .padr 1000000002 0])), (1000000004, .box1 (.lit (.int .i64 (n : Int)))), (1000000005, .box1 (.fn 46 [.padr 1000000003 0, .padr 1000000004 0, .padr 1000000005 0]))] (.lit (.bool false)) [(1000000000, .box1 (.st true (.arr (.sl (.int .i64)) (C : List (List Int))))), (1000000001, .box1 (.lit (.int .i64 (0 : Int)))), (1000000002, .box1 (.st true (.narr (.int .i64) (zN S' : List Int)))), (1000000003, .box1 (.fn 22 [.padr 1000000000 0, .padr 1000000001 0, .padr 1000000002 0])), (1000000004, .box1 (.lit (.int .i64 (n : Int)))), (1000000005, .box1 (.fn 46 [.padr 1000000003 0, .padr 1000000004 0, .padr 1000000005 0]))]) (ha : a ≤ 100) :
  (Tp.growS (alC C) n (f + 1) S a = none → FnM Try.prog 46 [.st true (.narr (.int .i64) (zN S : List Int)), (.lit (.int .i64 (a : Int))), (.lit (.int .i64 ((f + 1 : Nat) : Int))), .padr 1000000003 0, .padr 1000000004 0, .padr 1000000005 0] [(1000000000, .box1 (.st true (.arr (.sl (.int .i64)) (C : List (List Int))))), (1000000001, .box1 (.lit (.int .i64 (0 : Int)))), (1000000002, .box1 (.lit (.slice none 0 0))), (1000000003, .box1 (.fn 22 [.padr 1000000000 0, .padr 1000000001 0, .padr 1000000002 0])), (1000000004, .box1 (.lit (.int .i64 (n : Int)))), (1000000005, .box1 (.fn 46 [.padr 1000000003 0, .padr 1000000004 0, .padr 1000000005 0]))] (.lit (.bool true)) [(1000000000, .box1 (.st true (.arr (.sl (.int .i64)) (C : List (List Int))))), (1000000001, .box1 (.lit (.int .i64 (0 : Int)))), (1000000002, .box1 (.lit (.slice none 0 0))), (1000000003, .box1 (.fn 22 [.padr 1000000000 0, .padr 1000000001 0, .padr 1000000002 0])), (1000000004, .box1 (.lit (.int .i64 (n : Int)))), (1000000005, .box1 (.fn 46 [.padr 1000000003 0, .padr 1000000004 0, .padr 1000000005 0]))]) ∧ ∀ S', Tp.growS (alC C) n (f + 1) S a = some S' → FnM Try.prog 46 [.st true (.narr (.int .i64) (zN S : List Int)), (.lit (.int .i64 (a : Int))), (.lit (.int .i64 ((f + 1 : Nat) : Int))), .padr 1000000003 0, .padr 1000000004 0, .padr 1000000005 0] [(1000000000, .box1 (.st true (.arr (.sl (.int .i64)) (C : List (List Int))))), (1000000001, .box1 (.lit (.int .i64 (0 : Int)))), (1000000002, .box1 (.lit (.slice none 0 0))), (1000000003, .box1 (.fn 22 [.padr 1000000000 0, .padr 1000000001 0, .padr 1000000002 0])), (1000000004, .box1 (.lit (.int .i64 (n : Int)))), (1000000005, .box1 (.fn 46 [.padr 1000000003 0, .padr 1000000004 0, .padr 1000000005 0]))] (.lit (.bool false)) [(1000000000, .box1 (.st true (.arr (.sl (.int .i64)) (C : List (List Int))))), (1000000001, .box1 (.lit (.int .i64 (0 : Int)))), (1000000002, .box1 (.st true (.narr (.int .i64) (zN S' : List Int)))), (1000000003, .box1 (.fn 22 [.padr 1000000000 0, .padr 1000000001 0, .padr 1000000002 0])), (1000000004, .box1 (.lit (.int .i64 (n : Int)))), (1000000005, .box1 (.fn 46 [.padr 1000000003 0, .padr 1000000004 0, .padr 1000000005 0]))] := by
 have hn6 := h.n6
 have hl2 : (zN S).length = S.length := zN_len
 have hl : @List.length (Ty.int .i64).T (zN S) = S.length := zN_len
 have c1 := cloneI_at (l := zN S) (by omega)
 obtain ⟨G, hG⟩ : ∃ G : Nat → Option (List Nat), G = fun d => Tp.growS (alC C) n f (S ++ [a + d]) (a + d + 1) := ⟨_, rfl⟩
 have hg : Tp.growS (alC C) n (f + 1) S a = firstK G (n - f - a) := by rw [hG]; rfl
 have ih' : ∀ d, d < n - f - a → (G d = none → FnM Try.prog 46 [.st true (.narr (.int .i64) (zN (S ++ [a + d]) : List Int)), (.lit (.int .i64 ((a + d + 1 : Nat) : Int))), (.lit (.int .i64 ((f : Nat) : Int))), .padr 1000000003 0, .padr 1000000004 0, .padr 1000000005 0] [(1000000000, .box1 (.st true (.arr (.sl (.int .i64)) (C : List (List Int))))), (1000000001, .box1 (.lit (.int .i64 (0 : Int)))), (1000000002, .box1 (.lit (.slice none 0 0))), (1000000003, .box1 (.fn 22 [.padr 1000000000 0, .padr 1000000001 0, .padr 1000000002 0])), (1000000004, .box1 (.lit (.int .i64 (n : Int)))), (1000000005, .box1 (.fn 46 [.padr 1000000003 0, .padr 1000000004 0, .padr 1000000005 0]))] (.lit (.bool true)) [(1000000000, .box1 (.st true (.arr (.sl (.int .i64)) (C : List (List Int))))), (1000000001, .box1 (.lit (.int .i64 (0 : Int)))), (1000000002, .box1 (.lit (.slice none 0 0))), (1000000003, .box1 (.fn 22 [.padr 1000000000 0, .padr 1000000001 0, .padr 1000000002 0])), (1000000004, .box1 (.lit (.int .i64 (n : Int)))), (1000000005, .box1 (.fn 46 [.padr 1000000003 0, .padr 1000000004 0, .padr 1000000005 0]))]) ∧ ∀ S', G d = some S' → FnM Try.prog 46 [.st true (.narr (.int .i64) (zN (S ++ [a + d]) : List Int)), (.lit (.int .i64 ((a + d + 1 : Nat) : Int))), (.lit (.int .i64 ((f : Nat) : Int))), .padr 1000000003 0, .padr 1000000004 0, .padr 1000000005 0] [(1000000000, .box1 (.st true (.arr (.sl (.int .i64)) (C : List (List Int))))), (1000000001, .box1 (.lit (.int .i64 (0 : Int)))), (1000000002, .box1 (.lit (.slice none 0 0))), (1000000003, .box1 (.fn 22 [.padr 1000000000 0, .padr 1000000001 0, .padr 1000000002 0])), (1000000004, .box1 (.lit (.int .i64 (n : Int)))), (1000000005, .box1 (.fn 46 [.padr 1000000003 0, .padr 1000000004 0, .padr 1000000005 0]))] (.lit (.bool false)) [(1000000000, .box1 (.st true (.arr (.sl (.int .i64)) (C : List (List Int))))), (1000000001, .box1 (.lit (.int .i64 (0 : Int)))), (1000000002, .box1 (.st true (.narr (.int .i64) (zN S' : List Int)))), (1000000003, .box1 (.fn 22 [.padr 1000000000 0, .padr 1000000001 0, .padr 1000000002 0])), (1000000004, .box1 (.lit (.int .i64 (n : Int)))), (1000000005, .box1 (.fn 46 [.padr 1000000003 0, .padr 1000000004 0, .padr 1000000005 0]))] := by rw [hG]; exact ih
 clear ih
 rw [hg]
 obtain ⟨m, hm⟩ : ∃ m, m = n - f - a := ⟨_, rfl⟩
 rw [← hm] at ih' ⊢
 refine ⟨fun hno => ?_, fun S' hyes => ?_⟩
 · have hno := firstK_none hno
   refine FnM.of_body tys_ok Try.func46 (by rfl) rfl Try.ntmps46 (by rw [Try.results46]) (by simp) ?_
   repeat' (first
 | refine W.seq ?_
 | refine W.block ?_
 | (refine W.region tys_ok [] ?_; conv => whnf)
 | (refine W.drawAll tys_ok [] mixed rfl ?_; conv => whnf)
 | (refine W.ret ?_; conv => whnf)
 | (refine W.skip ?_; conv => whnf)
 | (refine W.exit ?_; conv => whnf)
 | (refine W.cond rfl (fun hb => ?_) (fun hb => ?_) <;> (try simp only [zr, zd, zm, minL, maxL, pickB, zA] at hb) <;> (try (first | (cases hb; done) | exact absurd hb (by decide) | (exfalso; omega) | (omega))))
 | ((with_reducible refine And.intro ?_ ?_); exact zc; conv => whnf)
 | ((with_reducible refine And.intro (Side.out ?_) ?_); rotate_left; (conv => whnf))
 | ((first | refine retM1 ?_ | refine retM2 ?_) <;> (conv => whnf) <;> repeat' (first
 | exact trivial
 | (with_reducible rfl)
 | ((with_reducible refine And.intro ?_ ?_) <;> conv => whnf)
 | omega
 | rfl
 | (refine congrArg (SV.arr _) ?_)
 | (refine congrArg (Value.int _) ?_)
 | (refine congrArg Value.bool ?_)))); all_goals (try unfold Side)
   all_goals try (repeat' (first | exact zb | with_reducible refine And.intro ?_ ?_))
   refine W.loop (fun d : Nat => ⟨[(0, .st true (.narr (.int .i64) (zN S : List Int))), (2, (.lit (.int .i64 ((f + 1 : Nat) : Int)))), (3, .padr 1000000003 0), (4, .padr 1000000004 0), (5, .padr 1000000005 0), (10, (.lit (.int .i64 ((a + d : Nat) : Int))))], [(1000000000, .box1 (.st true (.arr (.sl (.int .i64)) (C : List (List Int))))), (1000000001, .box1 (.lit (.int .i64 (0 : Int)))), (1000000002, .box1 (.lit (.slice none 0 0))), (1000000003, .box1 (.fn 22 [.padr 1000000000 0, .padr 1000000001 0, .padr 1000000002 0])), (1000000004, .box1 (.lit (.int .i64 (n : Int)))), (1000000005, .box1 (.fn 46 [.padr 1000000003 0, .padr 1000000004 0, .padr 1000000005 0]))]⟩) (fun d => d ≤ m) (fun d => m - d) (0) ?_ ?_
   · refine ⟨Nat.zero_le _, ?_⟩
     refine subF.ok ?_ <;> (conv => whnf) <;> repeat' (first
 | exact trivial
 | (with_reducible rfl)
 | ((with_reducible refine And.intro ?_ ?_) <;> conv => whnf)
 | omega
 | rfl
 | (refine congrArg (SV.arr _) ?_)
 | (refine congrArg (Value.int _) ?_)
 | (refine congrArg Value.bool ?_))
   · rintro d hd
     by_cases hdm : d < m
     · have hap := zN_app' (a := S) (j := a + d)
       have hne : zN (S ++ [a + d]) ≠ [] := fun e => by have := congrArg List.length e; rw [zN_len] at this; simp at this
       have c2 := (ih' d hdm).1 (hno d hdm)
       repeat' (first
 | refine W.seq ?_
 | refine W.block ?_
 | (refine W.drawCD (id := 6) tys_ok [] [10] mixed [0, 0, 2, 0, 8, 20, 0, 64, 0, 256, 673, 1024] [([1, 3, 6, 7, 8, 9], 4, 1023), ([], 1, 2047), ([11], 0, 4095)] [some ⟨[(0, .st true (.narr (.int .i64) (zN S : List Int))), (2, (.lit (.int .i64 ((f + 1 : Nat) : Int)))), (3, .padr 1000000003 0), (4, .padr 1000000004 0), (5, .padr 1000000005 0), (10, (.lit (.int .i64 ((a + d : Nat) : Int)))), (24, .fn 46 [.padr 1000000003 0, .padr 1000000004 0, .padr 1000000005 0]), (29, .st true (.arr (.int .i64) (zN (S ++ [a + d]) : List Int))), (31, (.lit (.int .i64 ((a + d + 1 : Nat) : Int)))), (33, (.lit (.int .i64 ((f : Nat) : Int))))], [(1000000000, .box1 (.st true (.arr (.sl (.int .i64)) (C : List (List Int))))), (1000000001, .box1 (.lit (.int .i64 (0 : Int)))), (1000000002, .box1 (.lit (.slice none 0 0))), (1000000003, .box1 (.fn 22 [.padr 1000000000 0, .padr 1000000001 0, .padr 1000000002 0])), (1000000004, .box1 (.lit (.int .i64 (n : Int)))), (1000000005, .box1 (.fn 46 [.padr 1000000003 0, .padr 1000000004 0, .padr 1000000005 0]))]⟩, none, none] (by decide +kernel) ?_; conv => whnf)
 | (refine W.region tys_ok [] ?_; conv => whnf)
 | (refine W.drawAll tys_ok [] mixed rfl ?_; conv => whnf)
 | (refine W.ret ?_; conv => whnf)
 | (refine W.skip ?_; conv => whnf)
 | (refine W.exit ?_; conv => whnf)
 | (refine call_at (al := false) (c1) rfl rfl rfl rfl ?_; conv => whnf)
 | (refine callM_at (c2) ?_; conv => whnf)
 | (refine Both.mk ?_ ?_ <;> (conv => whnf))
 | (refine W.cond rfl (fun hb => ?_) (fun hb => ?_) <;> (try simp only [zr, zd, zm, minL, maxL, pickB, zA] at hb) <;> (try (first | (cases hb; done) | exact absurd hb (by decide) | (exfalso; omega) | (omega))))
 | (refine Or.inl (And.intro trivial ?_); (conv => whnf))
 | ((with_reducible refine And.intro ?_ ?_); exact zc; conv => whnf)
 | ((with_reducible refine And.intro (Side.out ?_) ?_); rotate_left; (conv => whnf))
 | ((first | refine retM1 ?_ | refine retM2 ?_ | refine subF.leaf ?_ | refine subF.side ?_) <;> (conv => whnf) <;> repeat' (first
 | exact trivial
 | (with_reducible rfl)
 | ((with_reducible refine And.intro ?_ ?_) <;> conv => whnf)
 | omega
 | rfl
 | (refine congrArg (SV.arr _) ?_)
 | (refine congrArg (Value.int _) ?_)
 | (refine congrArg Value.bool ?_)))); all_goals (try unfold Side)
       all_goals try refine subF.ok ?_ <;> (conv => whnf) <;> repeat' (first
 | exact trivial
 | (with_reducible rfl)
 | ((with_reducible refine And.intro ?_ ?_) <;> conv => whnf)
 | omega
 | rfl
 | (refine congrArg (SV.arr _) ?_)
 | (refine congrArg (Value.int _) ?_)
 | (refine congrArg Value.bool ?_))
       all_goals try (repeat' (first | exact zb | with_reducible refine And.intro ?_ ?_))
       all_goals first | exact hap | exact hne | skip
       all_goals
        refine ⟨d + 1, ⟨by omega, by omega⟩, ?_⟩
        refine subF.ok ?_ <;> (conv => whnf) <;> repeat' (first
 | exact trivial
 | (with_reducible rfl)
 | ((with_reducible refine And.intro ?_ ?_) <;> conv => whnf)
 | omega
 | rfl
 | (refine congrArg (SV.arr _) ?_)
 | (refine congrArg (Value.int _) ?_)
 | (refine congrArg Value.bool ?_))
        all_goals first | omega | skip
     · repeat' (first
 | refine W.seq ?_
 | refine W.block ?_
 | (refine W.region tys_ok [] ?_; conv => whnf)
 | (refine W.drawAll tys_ok [] mixed rfl ?_; conv => whnf)
 | (refine W.ret ?_; conv => whnf)
 | (refine W.skip ?_; conv => whnf)
 | (refine W.exit ?_; conv => whnf)
 | (refine W.cond rfl (fun hb => ?_) (fun hb => ?_) <;> (try simp only [zr, zd, zm, minL, maxL, pickB, zA] at hb) <;> (try (first | (cases hb; done) | exact absurd hb (by decide) | (exfalso; omega) | (omega))))
 | ((with_reducible refine And.intro ?_ ?_); exact zc; conv => whnf)
 | ((with_reducible refine And.intro (Side.out ?_) ?_); rotate_left; (conv => whnf))
 | ((first | refine retM1 ?_ | refine retM2 ?_) <;> (conv => whnf) <;> repeat' (first
 | exact trivial
 | (with_reducible rfl)
 | ((with_reducible refine And.intro ?_ ?_) <;> conv => whnf)
 | omega
 | rfl
 | (refine congrArg (SV.arr _) ?_)
 | (refine congrArg (Value.int _) ?_)
 | (refine congrArg Value.bool ?_)))); all_goals (try unfold Side)
       all_goals try (repeat' (first | exact zb | with_reducible refine And.intro ?_ ?_))
 · obtain ⟨d0, hd0, he, hno⟩ := firstK_some hyes
   refine FnM.of_body tys_ok Try.func46 (by rfl) rfl Try.ntmps46 (by rw [Try.results46]) (by simp) ?_
   repeat' (first
 | refine W.seq ?_
 | refine W.block ?_
 | (refine W.region tys_ok [] ?_; conv => whnf)
 | (refine W.drawAll tys_ok [] mixed rfl ?_; conv => whnf)
 | (refine W.ret ?_; conv => whnf)
 | (refine W.skip ?_; conv => whnf)
 | (refine W.exit ?_; conv => whnf)
 | (refine W.cond rfl (fun hb => ?_) (fun hb => ?_) <;> (try simp only [zr, zd, zm, minL, maxL, pickB, zA] at hb) <;> (try (first | (cases hb; done) | exact absurd hb (by decide) | (exfalso; omega) | (omega))))
 | ((with_reducible refine And.intro ?_ ?_); exact zc; conv => whnf)
 | ((with_reducible refine And.intro (Side.out ?_) ?_); rotate_left; (conv => whnf))
 | ((first | refine retM1 ?_ | refine retM2 ?_) <;> (conv => whnf) <;> repeat' (first
 | exact trivial
 | (with_reducible rfl)
 | ((with_reducible refine And.intro ?_ ?_) <;> conv => whnf)
 | omega
 | rfl
 | (refine congrArg (SV.arr _) ?_)
 | (refine congrArg (Value.int _) ?_)
 | (refine congrArg Value.bool ?_)))); all_goals (try unfold Side)
   all_goals try (repeat' (first | exact zb | with_reducible refine And.intro ?_ ?_))
   refine W.loop (fun d : Nat => ⟨[(0, .st true (.narr (.int .i64) (zN S : List Int))), (2, (.lit (.int .i64 ((f + 1 : Nat) : Int)))), (3, .padr 1000000003 0), (4, .padr 1000000004 0), (5, .padr 1000000005 0), (10, (.lit (.int .i64 ((a + d : Nat) : Int))))], [(1000000000, .box1 (.st true (.arr (.sl (.int .i64)) (C : List (List Int))))), (1000000001, .box1 (.lit (.int .i64 (0 : Int)))), (1000000002, .box1 (.lit (.slice none 0 0))), (1000000003, .box1 (.fn 22 [.padr 1000000000 0, .padr 1000000001 0, .padr 1000000002 0])), (1000000004, .box1 (.lit (.int .i64 (n : Int)))), (1000000005, .box1 (.fn 46 [.padr 1000000003 0, .padr 1000000004 0, .padr 1000000005 0]))]⟩) (fun d => d ≤ d0) (fun d => d0 - d) (0) ?_ ?_
   · refine ⟨Nat.zero_le _, ?_⟩
     refine subF.ok ?_ <;> (conv => whnf) <;> repeat' (first
 | exact trivial
 | (with_reducible rfl)
 | ((with_reducible refine And.intro ?_ ?_) <;> conv => whnf)
 | omega
 | rfl
 | (refine congrArg (SV.arr _) ?_)
 | (refine congrArg (Value.int _) ?_)
 | (refine congrArg Value.bool ?_))
   · rintro d hd
     have hap := zN_app' (a := S) (j := a + d)
     have hne : zN (S ++ [a + d]) ≠ [] := fun e => by have := congrArg List.length e; rw [zN_len] at this; simp at this
     by_cases hdm : d < d0
     · have c2 := (ih' d (by omega)).1 (hno d hdm)
       repeat' (first
 | refine W.seq ?_
 | refine W.block ?_
 | (refine W.drawCD (id := 6) tys_ok [] [10] mixed [0, 0, 2, 0, 8, 20, 0, 64, 0, 256, 673, 1024] [([1, 3, 6, 7, 8, 9], 4, 1023), ([], 1, 2047), ([11], 0, 4095)] [some ⟨[(0, .st true (.narr (.int .i64) (zN S : List Int))), (2, (.lit (.int .i64 ((f + 1 : Nat) : Int)))), (3, .padr 1000000003 0), (4, .padr 1000000004 0), (5, .padr 1000000005 0), (10, (.lit (.int .i64 ((a + d : Nat) : Int)))), (24, .fn 46 [.padr 1000000003 0, .padr 1000000004 0, .padr 1000000005 0]), (29, .st true (.arr (.int .i64) (zN (S ++ [a + d]) : List Int))), (31, (.lit (.int .i64 ((a + d + 1 : Nat) : Int)))), (33, (.lit (.int .i64 ((f : Nat) : Int))))], [(1000000000, .box1 (.st true (.arr (.sl (.int .i64)) (C : List (List Int))))), (1000000001, .box1 (.lit (.int .i64 (0 : Int)))), (1000000002, .box1 (.lit (.slice none 0 0))), (1000000003, .box1 (.fn 22 [.padr 1000000000 0, .padr 1000000001 0, .padr 1000000002 0])), (1000000004, .box1 (.lit (.int .i64 (n : Int)))), (1000000005, .box1 (.fn 46 [.padr 1000000003 0, .padr 1000000004 0, .padr 1000000005 0]))]⟩, none, none] (by decide +kernel) ?_; conv => whnf)
 | (refine W.region tys_ok [] ?_; conv => whnf)
 | (refine W.drawAll tys_ok [] mixed rfl ?_; conv => whnf)
 | (refine W.ret ?_; conv => whnf)
 | (refine W.skip ?_; conv => whnf)
 | (refine W.exit ?_; conv => whnf)
 | (refine call_at (al := false) (c1) rfl rfl rfl rfl ?_; conv => whnf)
 | (refine callM_at (c2) ?_; conv => whnf)
 | (refine Both.mk ?_ ?_ <;> (conv => whnf))
 | (refine W.cond rfl (fun hb => ?_) (fun hb => ?_) <;> (try simp only [zr, zd, zm, minL, maxL, pickB, zA] at hb) <;> (try (first | (cases hb; done) | exact absurd hb (by decide) | (exfalso; omega) | (omega))))
 | (refine Or.inl (And.intro trivial ?_); (conv => whnf))
 | ((with_reducible refine And.intro ?_ ?_); exact zc; conv => whnf)
 | ((with_reducible refine And.intro (Side.out ?_) ?_); rotate_left; (conv => whnf))
 | ((first | refine retM1 ?_ | refine retM2 ?_ | refine subF.leaf ?_ | refine subF.side ?_) <;> (conv => whnf) <;> repeat' (first
 | exact trivial
 | (with_reducible rfl)
 | ((with_reducible refine And.intro ?_ ?_) <;> conv => whnf)
 | omega
 | rfl
 | (refine congrArg (SV.arr _) ?_)
 | (refine congrArg (Value.int _) ?_)
 | (refine congrArg Value.bool ?_)))); all_goals (try unfold Side)
       all_goals try refine subF.ok ?_ <;> (conv => whnf) <;> repeat' (first
 | exact trivial
 | (with_reducible rfl)
 | ((with_reducible refine And.intro ?_ ?_) <;> conv => whnf)
 | omega
 | rfl
 | (refine congrArg (SV.arr _) ?_)
 | (refine congrArg (Value.int _) ?_)
 | (refine congrArg Value.bool ?_))
       all_goals try (repeat' (first | exact zb | with_reducible refine And.intro ?_ ?_))
       all_goals first | exact hap | exact hne | skip
       all_goals
        refine ⟨d + 1, ⟨by omega, by omega⟩, ?_⟩
        refine subF.ok ?_ <;> (conv => whnf) <;> repeat' (first
 | exact trivial
 | (with_reducible rfl)
 | ((with_reducible refine And.intro ?_ ?_) <;> conv => whnf)
 | omega
 | rfl
 | (refine congrArg (SV.arr _) ?_)
 | (refine congrArg (Value.int _) ?_)
 | (refine congrArg Value.bool ?_))
        all_goals first | omega | skip
     · have hdd : d = d0 := by omega
       have c2 := (ih' d (by omega)).2 S' (by rw [hdd]; exact he)
       repeat' (first
 | refine W.seq ?_
 | refine W.block ?_
 | (refine W.drawCD (id := 6) tys_ok [] [10] mixed [0, 0, 2, 0, 8, 20, 0, 64, 0, 256, 673, 1024] [([1, 3, 6, 7, 8, 9], 4, 1023), ([], 1, 2047), ([11], 0, 4095)] [some ⟨[(0, .st true (.narr (.int .i64) (zN S : List Int))), (2, (.lit (.int .i64 ((f + 1 : Nat) : Int)))), (3, .padr 1000000003 0), (4, .padr 1000000004 0), (5, .padr 1000000005 0), (10, (.lit (.int .i64 ((a + d : Nat) : Int)))), (24, .fn 46 [.padr 1000000003 0, .padr 1000000004 0, .padr 1000000005 0]), (29, .st true (.arr (.int .i64) (zN (S ++ [a + d]) : List Int))), (31, (.lit (.int .i64 ((a + d + 1 : Nat) : Int)))), (33, (.lit (.int .i64 ((f : Nat) : Int))))], [(1000000000, .box1 (.st true (.arr (.sl (.int .i64)) (C : List (List Int))))), (1000000001, .box1 (.lit (.int .i64 (0 : Int)))), (1000000002, .box1 (.lit (.slice none 0 0))), (1000000003, .box1 (.fn 22 [.padr 1000000000 0, .padr 1000000001 0, .padr 1000000002 0])), (1000000004, .box1 (.lit (.int .i64 (n : Int)))), (1000000005, .box1 (.fn 46 [.padr 1000000003 0, .padr 1000000004 0, .padr 1000000005 0]))]⟩, none, none] (by decide +kernel) ?_; conv => whnf)
 | (refine W.region tys_ok [] ?_; conv => whnf)
 | (refine W.drawAll tys_ok [] mixed rfl ?_; conv => whnf)
 | (refine W.ret ?_; conv => whnf)
 | (refine W.skip ?_; conv => whnf)
 | (refine W.exit ?_; conv => whnf)
 | (refine call_at (al := false) (c1) rfl rfl rfl rfl ?_; conv => whnf)
 | (refine callM_at (c2) ?_; conv => whnf)
 | (refine Both.mk ?_ ?_ <;> (conv => whnf))
 | (refine W.cond rfl (fun hb => ?_) (fun hb => ?_) <;> (try simp only [zr, zd, zm, minL, maxL, pickB, zA] at hb) <;> (try (first | (cases hb; done) | exact absurd hb (by decide) | (exfalso; omega) | (omega))))
 | (refine Or.inl (And.intro trivial ?_); (conv => whnf))
 | ((with_reducible refine And.intro ?_ ?_); exact zc; conv => whnf)
 | ((with_reducible refine And.intro (Side.out ?_) ?_); rotate_left; (conv => whnf))
 | ((first | refine retM1 ?_ | refine retM2 ?_ | refine subF.leaf ?_ | refine subF.side ?_) <;> (conv => whnf) <;> repeat' (first
 | exact trivial
 | (with_reducible rfl)
 | ((with_reducible refine And.intro ?_ ?_) <;> conv => whnf)
 | omega
 | rfl
 | (refine congrArg (SV.arr _) ?_)
 | (refine congrArg (Value.int _) ?_)
 | (refine congrArg Value.bool ?_)))); all_goals (try unfold Side)
       all_goals try refine subF.ok ?_ <;> (conv => whnf) <;> repeat' (first
 | exact trivial
 | (with_reducible rfl)
 | ((with_reducible refine And.intro ?_ ?_) <;> conv => whnf)
 | omega
 | rfl
 | (refine congrArg (SV.arr _) ?_)
 | (refine congrArg (Value.int _) ?_)
 | (refine congrArg Value.bool ?_))
       all_goals try (repeat' (first | exact zb | with_reducible refine And.intro ?_ ?_))
       all_goals first | exact hap | exact hne | skip
open Go Go.Vc Go.Sh Go.Tp
theorem grow_at' {C : List (List Int)} {n : Nat} (h : CO C n) : ∀ (f : Nat) (S : List Nat) (a : Nat), (∀ i, i ∈ S → i < n) → S.length + f ≤ 90 → a ≤ n → (Tp.growS (alC C) n f S a = none → FnM Try.prog 46 [.st true (.narr (.int .i64) (zN S : List Int)), (.lit (.int .i64 (a : Int))), (.lit (.int .i64 ((f : Nat) : Int))), .padr 1000000003 0, .padr 1000000004 0, .padr 1000000005 0] [(1000000000, .box1 (.st true (.arr (.sl (.int .i64)) (C : List (List Int))))), (1000000001, .box1 (.lit (.int .i64 (0 : Int)))), (1000000002, .box1 (.lit (.slice none 0 0))), (1000000003, .box1 (.fn 22 [.padr 1000000000 0, .padr 1000000001 0, .padr 1000000002 0])), (1000000004, .box1 (.lit (.int .i64 (n : Int)))), (1000000005, .box1 (.fn 46 [.padr 1000000003 0, .padr 1000000004 0, .padr 1000000005 0]))] (.lit (.bool true)) [(1000000000, .box1 (.st true (.arr (.sl (.int .i64)) (C : List (List Int))))), (1000000001, .box1 (.lit (.int .i64 (0 : Int)))), (1000000002, .box1 (.lit (.slice none 0 0))), (1000000003, .box1 (.fn 22 [.padr 1000000000 0, .padr 1000000001 0, .padr 1000000002 0])), (1000000004, .box1 (.lit (.int .i64 (n : Int)))), (1000000005, .box1 (.fn 46 [.padr 1000000003 0, .padr 1000000004 0, .padr 1000000005 0]))]) ∧ ∀ S', Tp.growS (alC C) n f S a = some S' → FnM Try.prog 46 [.st true (.narr (.int .i64) (zN S : List Int)), (.lit (.int .i64 (a : Int))), (.lit (.int .i64 ((f : Nat) : Int))), .padr 1000000003 0, .padr 1000000004 0, .padr 1000000005 0] [(1000000000, .box1 (.st true (.arr (.sl (.int .i64)) (C : List (List Int))))), (1000000001, .box1 (.lit (.int .i64 (0 : Int)))), (1000000002, .box1 (.lit (.slice none 0 0))), (1000000003, .box1 (.fn 22 [.padr 1000000000 0, .padr 1000000001 0, .padr 1000000002 0])), (1000000004, .box1 (.lit (.int .i64 (n : Int)))), (1000000005, .box1 (.fn 46 [.padr 1000000003 0, .padr 1000000004 0, .padr 1000000005 0]))] (.lit (.bool false)) [(1000000000, .box1 (.st true (.arr (.sl (.int .i64)) (C : List (List Int))))), (1000000001, .box1 (.lit (.int .i64 (0 : Int)))), (1000000002, .box1 (.st true (.narr (.int .i64) (zN S' : List Int)))), (1000000003, .box1 (.fn 22 [.padr 1000000000 0, .padr 1000000001 0, .padr 1000000002 0])), (1000000004, .box1 (.lit (.int .i64 (n : Int)))), (1000000005, .box1 (.fn 46 [.padr 1000000003 0, .padr 1000000004 0, .padr 1000000005 0]))]
  | 0, S, a, hS, hl, ha => grow0_at' h hS (by omega)
  | f + 1, S, a, hS, hl, ha => growF_at' h (by omega) (by omega) (fun d hd => grow_at' h f (S ++ [a + d]) (a + d + 1) (fun i hi => by
      rcases List.mem_append.1 hi with hi | hi
      · exact hS i hi
      · rw [List.mem_singleton] at hi; omega) (by rw [List.length_append, List.length_singleton]; omega) (by omega)) (by have := h.n6; omega)
set_option maxHeartbeats 4000000 in
theorem setsN_at {C : List (List Int)} {n : Nat} (h : CO C n) (hno : lackT (alC C) n = none) : FnM Try.prog 21 [(.lit (.int .i64 (n : Int))), .fn 22 [.padr 1000000000 0, .padr 1000000001 0, .padr 1000000002 0]] [(1000000000, .box1 (.st true (.arr (.sl (.int .i64)) (C : List (List Int))))), (1000000001, .box1 (.lit (.int .i64 (0 : Int)))), (1000000002, .box1 (.lit (.slice none 0 0)))] (.tup []) [(1000000000, .box1 (.st true (.arr (.sl (.int .i64)) (C : List (List Int))))), (1000000001, .box1 (.lit (.int .i64 (0 : Int)))), (1000000002, .box1 (.lit (.slice none 0 0)))] := by
 have hn6 := h.n6
 have hno := firstK_none hno
 refine FnM.of_body tys_ok Try.func21 (by rfl) rfl Try.ntmps21 (by rw [Try.results21]) (by simp) ?_
 repeat' (first
 | refine W.seq ?_
 | refine W.block ?_
 | (refine W.region tys_ok [] ?_; conv => whnf)
 | (refine W.drawAll tys_ok [] mixed rfl ?_; conv => whnf)
 | (refine W.ret ?_; conv => whnf)
 | (refine W.skip ?_; conv => whnf)
 | (refine W.exit ?_; conv => whnf)
 | (refine W.cond rfl (fun hb => ?_) (fun hb => ?_) <;> (try simp only [zr, zd, zm, minL, maxL, pickB, zA] at hb) <;> (try (first | (cases hb; done) | exact absurd hb (by decide) | (exfalso; omega) | (omega))))
 | ((with_reducible refine And.intro ?_ ?_); exact zc; conv => whnf)
 | ((with_reducible refine And.intro (Side.out ?_) ?_); rotate_left; (conv => whnf))
 | ((first | refine retM1 ?_ | refine retM2 ?_) <;> (conv => whnf) <;> repeat' (first
 | exact trivial
 | (with_reducible rfl)
 | ((with_reducible refine And.intro ?_ ?_) <;> conv => whnf)
 | omega
 | rfl
 | (refine congrArg (SV.arr _) ?_)
 | (refine congrArg (Value.int _) ?_)
 | (refine congrArg Value.bool ?_)))); all_goals (try unfold Side)
 all_goals try (repeat' (first | exact zb | with_reducible refine And.intro ?_ ?_))
 refine W.loop (fun d : Nat => ⟨[(2, .padr 2 0), (3, .padr 3 0), (4, .padr 4 0), (5, (.lit (.int .i64 ((d + 1 : Nat) : Int))))], [(1000000000, .box1 (.st true (.arr (.sl (.int .i64)) (C : List (List Int))))), (1000000001, .box1 (.lit (.int .i64 (0 : Int)))), (1000000002, .box1 (.lit (.slice none 0 0))), (2, .box1 (.lit (.int .i64 (n : Int)))), (3, .box1 (.fn 22 [.padr 1000000000 0, .padr 1000000001 0, .padr 1000000002 0])), (4, .box1 (.fn 46 [.padr 3 0, .padr 2 0, .padr 4 0]))]⟩) (fun d => d ≤ n) (fun d => n - d) (0) ?_ ?_
 · refine ⟨Nat.zero_le _, ?_⟩
   refine subF.ok ?_ <;> (conv => whnf) <;> repeat' (first
 | exact trivial
 | (with_reducible rfl)
 | ((with_reducible refine And.intro ?_ ?_) <;> conv => whnf)
 | omega
 | rfl
 | (refine congrArg (SV.arr _) ?_)
 | (refine congrArg (Value.int _) ?_)
 | (refine congrArg Value.bool ?_))
 · rintro d hd
   by_cases hdm : d < n
   · have c2 := (grow_at' h (d + 1) [] 0 (fun i hi => by simp at hi) (by simp; omega) (by omega)).1 (hno d hdm)
     repeat' (first
 | refine W.seq ?_
 | refine W.block ?_
 | (refine W.regionM (id := 6) tys_ok [] [2] ?_; conv => whnf)
 | (refine W.region tys_ok [] ?_; conv => whnf)
 | (refine W.drawAll tys_ok [] mixed rfl ?_; conv => whnf)
 | (refine W.ret ?_; conv => whnf)
 | (refine W.skip ?_; conv => whnf)
 | (refine W.exit ?_; conv => whnf)
 | (refine callM_at (c2) ?_; conv => whnf)
 | (refine W.cond rfl (fun hb => ?_) (fun hb => ?_) <;> (try simp only [zr, zd, zm, minL, maxL, pickB, zA] at hb) <;> (try (first | (cases hb; done) | exact absurd hb (by decide) | (exfalso; omega) | (omega))))
 | (refine Or.inl (And.intro trivial ?_); (conv => whnf))
 | ((with_reducible refine And.intro ?_ ?_); exact zc; conv => whnf)
 | ((with_reducible refine And.intro (Side.out ?_) ?_); rotate_left; (conv => whnf))
 | ((first | refine retM1 ?_ | refine retM2 ?_) <;> (conv => whnf) <;> repeat' (first
 | exact trivial
 | (with_reducible rfl)
 | ((with_reducible refine And.intro ?_ ?_) <;> conv => whnf)
 | omega
 | rfl
 | (refine congrArg (SV.arr _) ?_)
 | (refine congrArg (Value.int _) ?_)
 | (refine congrArg Value.bool ?_)))); all_goals (try unfold Side)
     all_goals try refine subF.ok ?_ <;> (conv => whnf) <;> repeat' (first
 | exact trivial
 | (with_reducible rfl)
 | ((with_reducible refine And.intro ?_ ?_) <;> conv => whnf)
 | omega
 | rfl
 | (refine congrArg (SV.arr _) ?_)
 | (refine congrArg (Value.int _) ?_)
 | (refine congrArg Value.bool ?_))
     all_goals try (repeat' (first | exact zb | with_reducible refine And.intro ?_ ?_))
     all_goals
      refine ⟨d + 1, ⟨by omega, by omega⟩, ?_⟩
      refine subF.ok ?_ <;> (conv => whnf) <;> repeat' (first
 | exact trivial
 | (with_reducible rfl)
 | ((with_reducible refine And.intro ?_ ?_) <;> conv => whnf)
 | omega
 | rfl
 | (refine congrArg (SV.arr _) ?_)
 | (refine congrArg (Value.int _) ?_)
 | (refine congrArg Value.bool ?_))
      all_goals first | omega | skip
   · repeat' (first
 | refine W.seq ?_
 | refine W.block ?_
 | (refine W.region tys_ok [] ?_; conv => whnf)
 | (refine W.drawAll tys_ok [] mixed rfl ?_; conv => whnf)
 | (refine W.ret ?_; conv => whnf)
 | (refine W.skip ?_; conv => whnf)
 | (refine W.exit ?_; conv => whnf)
 | (refine W.cond rfl (fun hb => ?_) (fun hb => ?_) <;> (try simp only [zr, zd, zm, minL, maxL, pickB, zA] at hb) <;> (try (first | (cases hb; done) | exact absurd hb (by decide) | (exfalso; omega) | (omega))))
 | ((with_reducible refine And.intro ?_ ?_); exact zc; conv => whnf)
 | ((with_reducible refine And.intro (Side.out ?_) ?_); rotate_left; (conv => whnf))
 | ((first | refine retM1 ?_ | refine retM2 ?_) <;> (conv => whnf) <;> repeat' (first
 | exact trivial
 | (with_reducible rfl)
 | ((with_reducible refine And.intro ?_ ?_) <;> conv => whnf)
 | omega
 | rfl
 | (refine congrArg (SV.arr _) ?_)
 | (refine congrArg (Value.int _) ?_)
 | (refine congrArg Value.bool ?_)))); all_goals (try unfold Side)
     all_goals try (repeat' (first | exact zb | with_reducible refine And.intro ?_ ?_))
set_option maxHeartbeats 4000000 in
theorem setsY_at {C : List (List Int)} {n : Nat} {S : List Nat} (h : CO C n) (hyes : lackT (alC C) n = some S) : FnM Try.prog 21 [(.lit (.int .i64 (n : Int))), .fn 22 [.padr 1000000000 0, .padr 1000000001 0, .padr 1000000002 0]] [(1000000000, .box1 (.st true (.arr (.sl (.int .i64)) (C : List (List Int))))), (1000000001, .box1 (.lit (.int .i64 (0 : Int)))), (1000000002, .box1 (.lit (.slice none 0 0)))] (.tup []) [(1000000000, .box1 (.st true (.arr (.sl (.int .i64)) (C : List (List Int))))), (1000000001, .box1 (.lit (.int .i64 (0 : Int)))), (1000000002, .box1 (.st true (.narr (.int .i64) (zN S : List Int))))] := by
 have hn6 := h.n6
 obtain ⟨d0, hd0, he, hno⟩ := firstK_some hyes
 refine FnM.of_body tys_ok Try.func21 (by rfl) rfl Try.ntmps21 (by rw [Try.results21]) (by simp) ?_
 repeat' (first
 | refine W.seq ?_
 | refine W.block ?_
 | (refine W.region tys_ok [] ?_; conv => whnf)
 | (refine W.drawAll tys_ok [] mixed rfl ?_; conv => whnf)
 | (refine W.ret ?_; conv => whnf)
 | (refine W.skip ?_; conv => whnf)
 | (refine W.exit ?_; conv => whnf)
 | (refine W.cond rfl (fun hb => ?_) (fun hb => ?_) <;> (try simp only [zr, zd, zm, minL, maxL, pickB, zA] at hb) <;> (try (first | (cases hb; done) | exact absurd hb (by decide) | (exfalso; omega) | (omega))))
 | ((with_reducible refine And.intro ?_ ?_); exact zc; conv => whnf)
 | ((with_reducible refine And.intro (Side.out ?_) ?_); rotate_left; (conv => whnf))
 | ((first | refine retM1 ?_ | refine retM2 ?_) <;> (conv => whnf) <;> repeat' (first
 | exact trivial
 | (with_reducible rfl)
 | ((with_reducible refine And.intro ?_ ?_) <;> conv => whnf)
 | omega
 | rfl
 | (refine congrArg (SV.arr _) ?_)
 | (refine congrArg (Value.int _) ?_)
 | (refine congrArg Value.bool ?_)))); all_goals (try unfold Side)
 all_goals try (repeat' (first | exact zb | with_reducible refine And.intro ?_ ?_))
 refine W.loop (fun d : Nat => ⟨[(2, .padr 2 0), (3, .padr 3 0), (4, .padr 4 0), (5, (.lit (.int .i64 ((d + 1 : Nat) : Int))))], [(1000000000, .box1 (.st true (.arr (.sl (.int .i64)) (C : List (List Int))))), (1000000001, .box1 (.lit (.int .i64 (0 : Int)))), (1000000002, .box1 (.lit (.slice none 0 0))), (2, .box1 (.lit (.int .i64 (n : Int)))), (3, .box1 (.fn 22 [.padr 1000000000 0, .padr 1000000001 0, .padr 1000000002 0])), (4, .box1 (.fn 46 [.padr 3 0, .padr 2 0, .padr 4 0]))]⟩) (fun d => d ≤ d0) (fun d => d0 - d) (0) ?_ ?_
 · refine ⟨Nat.zero_le _, ?_⟩
   refine subF.ok ?_ <;> (conv => whnf) <;> repeat' (first
 | exact trivial
 | (with_reducible rfl)
 | ((with_reducible refine And.intro ?_ ?_) <;> conv => whnf)
 | omega
 | rfl
 | (refine congrArg (SV.arr _) ?_)
 | (refine congrArg (Value.int _) ?_)
 | (refine congrArg Value.bool ?_))
 · rintro d hd
   by_cases hdm : d < d0
   · have c2 := (grow_at' h (d + 1) [] 0 (fun i hi => by simp at hi) (by simp; omega) (by omega)).1 (hno d hdm)
     repeat' (first
 | refine W.seq ?_
 | refine W.block ?_
 | (refine W.regionM (id := 6) tys_ok [] [2] ?_; conv => whnf)
 | (refine W.region tys_ok [] ?_; conv => whnf)
 | (refine W.drawAll tys_ok [] mixed rfl ?_; conv => whnf)
 | (refine W.ret ?_; conv => whnf)
 | (refine W.skip ?_; conv => whnf)
 | (refine W.exit ?_; conv => whnf)
 | (refine callM_at (c2) ?_; conv => whnf)
 | (refine W.cond rfl (fun hb => ?_) (fun hb => ?_) <;> (try simp only [zr, zd, zm, minL, maxL, pickB, zA] at hb) <;> (try (first | (cases hb; done) | exact absurd hb (by decide) | (exfalso; omega) | (omega))))
 | (refine Or.inl (And.intro trivial ?_); (conv => whnf))
 | ((with_reducible refine And.intro ?_ ?_); exact zc; conv => whnf)
 | ((with_reducible refine And.intro (Side.out ?_) ?_); rotate_left; (conv => whnf))
 | ((first | refine retM1 ?_ | refine retM2 ?_) <;> (conv => whnf) <;> repeat' (first
 | exact trivial
 | (with_reducible rfl)
 | ((with_reducible refine And.intro ?_ ?_) <;> conv => whnf)
 | omega
 | rfl
 | (refine congrArg (SV.arr _) ?_)
 | (refine congrArg (Value.int _) ?_)
 | (refine congrArg Value.bool ?_)))); all_goals (try unfold Side)
     all_goals try refine subF.ok ?_ <;> (conv => whnf) <;> repeat' (first
 | exact trivial
 | (with_reducible rfl)
 | ((with_reducible refine And.intro ?_ ?_) <;> conv => whnf)
 | omega
 | rfl
 | (refine congrArg (SV.arr _) ?_)
 | (refine congrArg (Value.int _) ?_)
 | (refine congrArg Value.bool ?_))
     all_goals try (repeat' (first | exact zb | with_reducible refine And.intro ?_ ?_))
     all_goals
      refine ⟨d + 1, ⟨by omega, by omega⟩, ?_⟩
      refine subF.ok ?_ <;> (conv => whnf) <;> repeat' (first
 | exact trivial
 | (with_reducible rfl)
 | ((with_reducible refine And.intro ?_ ?_) <;> conv => whnf)
 | omega
 | rfl
 | (refine congrArg (SV.arr _) ?_)
 | (refine congrArg (Value.int _) ?_)
 | (refine congrArg Value.bool ?_))
      all_goals first | omega | skip
   · have hdd : d = d0 := by omega
     have c2 := (grow_at' h (d + 1) [] 0 (fun i hi => by simp at hi) (by simp; omega) (by omega)).2 S (by rw [hdd]; exact he)
     repeat' (first
 | refine W.seq ?_
 | refine W.block ?_
 | (refine W.regionM (id := 6) tys_ok [] [2] ?_; conv => whnf)
 | (refine W.region tys_ok [] ?_; conv => whnf)
 | (refine W.drawAll tys_ok [] mixed rfl ?_; conv => whnf)
 | (refine W.ret ?_; conv => whnf)
 | (refine W.skip ?_; conv => whnf)
 | (refine W.exit ?_; conv => whnf)
 | (refine callM_at (c2) ?_; conv => whnf)
 | (refine W.cond rfl (fun hb => ?_) (fun hb => ?_) <;> (try simp only [zr, zd, zm, minL, maxL, pickB, zA] at hb) <;> (try (first | (cases hb; done) | exact absurd hb (by decide) | (exfalso; omega) | (omega))))
 | (refine Or.inl (And.intro trivial ?_); (conv => whnf))
 | ((with_reducible refine And.intro ?_ ?_); exact zc; conv => whnf)
 | ((with_reducible refine And.intro (Side.out ?_) ?_); rotate_left; (conv => whnf))
 | ((first | refine retM1 ?_ | refine retM2 ?_) <;> (conv => whnf) <;> repeat' (first
 | exact trivial
 | (with_reducible rfl)
 | ((with_reducible refine And.intro ?_ ?_) <;> conv => whnf)
 | omega
 | rfl
 | (refine congrArg (SV.arr _) ?_)
 | (refine congrArg (Value.int _) ?_)
 | (refine congrArg Value.bool ?_)))); all_goals (try unfold Side)
     all_goals try refine subF.ok ?_ <;> (conv => whnf) <;> repeat' (first
 | exact trivial
 | (with_reducible rfl)
 | ((with_reducible refine And.intro ?_ ?_) <;> conv => whnf)
 | omega
 | rfl
 | (refine congrArg (SV.arr _) ?_)
 | (refine congrArg (Value.int _) ?_)
 | (refine congrArg Value.bool ?_))
     all_goals try (repeat' (first | exact zb | with_reducible refine And.intro ?_ ?_))
open Int renaming reduceToNat → zr, reduceTDiv → zd, reduceTMod → zm
open Go Go.Vc Go.Sh Go.Tp
theorem Lacks_no {C : List (List Int)} (h : CO C C.length) (hw : lackT (alC C) C.length = none) : FnAt Try.prog true 7 [.arr (.sl (.int .i64)) (C : List (List Int)), I64 0] (.tup [.lit (.slice none 0 0), (.lit (.int .i64 (5 : Int)))]) [] := by
 have hl : @List.length (Ty.sl (.int .i64)).T C = C.length := rfl
 have c1 := pvalid_at h
 have c2 := setsN_at h hw
 refine FnAt.of_body tys_ok Try.func7 (by rfl) rfl Try.ntmps7 (by rw [Try.results7]) (by simp) ?_
 repeat' (first
 | refine W.seq ?_
 | refine W.block ?_
 | (refine W.regionM (id := 4) tys_ok [] [3] ?_; conv => whnf)
 | (refine W.region tys_ok [] ?_; conv => whnf)
 | (refine W.drawAll tys_ok [] mixed rfl ?_; conv => whnf)
 | (refine W.ret ?_; conv => whnf)
 | (refine W.skip ?_; conv => whnf)
 | (refine W.exit ?_; conv => whnf)
 | (refine callM_at (c2) ?_; conv => whnf)
 | (refine call_at (al := false) (c1) rfl rfl rfl rfl ?_; conv => whnf)
 | (refine W.cond rfl (fun hb => ?_) (fun hb => ?_) <;> (try simp only [zr, zd, zm, minL, maxL, pickB, zA] at hb) <;> (try (first | (cases hb; done) | exact absurd hb (by decide) | (exfalso; omega) | (omega))))
 | (refine Or.inl (And.intro trivial ?_); (conv => whnf))
 | ((with_reducible refine And.intro ?_ ?_); exact zc; conv => whnf)
 | ((with_reducible refine And.intro (Side.out ?_) ?_); rotate_left; (conv => whnf))
 | ((first | refine retF1 ?_ | refine retF2 ?_) <;> (conv => whnf) <;> repeat' (first
 | exact trivial
 | (with_reducible rfl)
 | ((with_reducible refine And.intro ?_ ?_) <;> conv => whnf)
 | omega
 | rfl
 | (refine congrArg (SV.arr _) ?_)
 | (refine congrArg (Value.int _) ?_)
 | (refine congrArg Value.bool ?_)))); all_goals (try unfold Side)
 all_goals try refine subF.ok ?_ <;> (conv => whnf) <;> repeat' (first
 | exact trivial
 | (with_reducible rfl)
 | ((with_reducible refine And.intro ?_ ?_) <;> conv => whnf)
 | omega
 | rfl
 | (refine congrArg (SV.arr _) ?_)
 | (refine congrArg (Value.int _) ?_)
 | (refine congrArg Value.bool ?_))
 all_goals try (repeat' (first | exact zb | with_reducible refine And.intro ?_ ?_))
theorem Lacks_some {C : List (List Int)} {S : List Nat} (h : CO C C.length) (hw : lackT (alC C) C.length = some S) : FnAt Try.prog true 7 [.arr (.sl (.int .i64)) (C : List (List Int)), I64 0] (.tup [.st true (.narr (.int .i64) (zN S : List Int)), (.lit (.int .i64 (0 : Int)))]) [] := by
 have hl : @List.length (Ty.sl (.int .i64)).T C = C.length := rfl
 have hne : (zN S).isEmpty = false := by
  have := (lack_some hw).1
  cases S with
  | nil => exact absurd rfl this
  | cons a r => rfl
 have c1 := pvalid_at h
 have c2 := setsY_at h hw
 refine FnAt.of_body tys_ok Try.func7 (by rfl) rfl Try.ntmps7 (by rw [Try.results7]) (by simp) ?_
 repeat' (first
 | refine W.seq ?_
 | refine W.block ?_
 | (refine W.regionM (id := 4) tys_ok [] [3] ?_; conv => whnf)
 | (refine W.region tys_ok [] ?_; conv => whnf)
 | (refine W.drawAll tys_ok [] mixed rfl ?_; conv => whnf)
 | (refine W.ret ?_; conv => whnf)
 | (refine W.skip ?_; conv => whnf)
 | (refine W.exit ?_; conv => whnf)
 | (refine callM_at (c2) ?_; conv => whnf)
 | (refine call_at (al := false) (c1) rfl rfl rfl rfl ?_; conv => whnf)
 | (refine W.cond rfl (fun hb => ?_) (fun hb => ?_) <;> (try simp only [zr, zd, zm, minL, maxL, pickB, zA] at hb) <;> (try (first | (cases hb; done) | exact absurd hb (by decide) | (exfalso; omega) | (omega) | ((exact Bool.noConfusion (hb.symm.trans hne))))))
 | (refine Or.inl (And.intro trivial ?_); (conv => whnf))
 | ((with_reducible refine And.intro ?_ ?_); exact zc; conv => whnf)
 | ((with_reducible refine And.intro (Side.out ?_) ?_); rotate_left; (conv => whnf))
 | ((first | refine retF1 ?_ | refine retF2 ?_) <;> (conv => whnf) <;> repeat' (first
 | exact trivial
 | (with_reducible rfl)
 | ((with_reducible refine And.intro ?_ ?_) <;> conv => whnf)
 | omega
 | rfl
 | (refine congrArg (SV.arr _) ?_)
 | (refine congrArg (Value.int _) ?_)
 | (refine congrArg Value.bool ?_)))); all_goals (try unfold Side)
 all_goals try refine subF.ok ?_ <;> (conv => whnf) <;> repeat' (first
 | exact trivial
 | (with_reducible rfl)
 | ((with_reducible refine And.intro ?_ ?_) <;> conv => whnf)
 | omega
 | rfl
 | (refine congrArg (SV.arr _) ?_)
 | (refine congrArg (Value.int _) ?_)
 | (refine congrArg Value.bool ?_))
 all_goals try (repeat' (first | exact zb | with_reducible refine And.intro ?_ ?_))
end Go.Proofs.Ytckmhlpngolbpaa
namespace Go.Sh
theorem pv_len {P : Int} {os : List Od} {pf : List Nd} : ∀ {k num : Nat} {l : List Jb} {sn : List Bool}, (pvT P os pf k num l sn).2.length = sn.length
 | 0, num, l, sn => rfl
 | k + 1, num, l, sn => by
  unfold pvT
  split
  · rfl
  split
  · split
    · split
      · rw [pv_len, pv_len]; simp
      · rw [pv_len]; simp
    · simp
  split
  · simp
  split <;> simp
theorem pv_seen {P : Int} {os : List Od} {pf : List Nd} {k num : Nat} {l : List Jb} {sn : List Bool} (h : sn.getD num false = true) : pvT P os pf (k + 1) num l sn = (false, sn) := by
 unfold pvT; rw [if_pos h]
theorem pv_split {P : Int} {os : List Od} {pf : List Nd} {k num : Nat} {l : List Jb} {sn : List Bool} (h : sn.getD num false = false) (h1 : (pf.getD num N0).1 = 1) (h2 : splitB l pf.length num (pf.getD num N0) = true) :
    pvT P os pf (k + 1) num l sn = (if (pvT P os pf k (pf.getD num N0).2.2.2.2.1.toNat (partL l (pf.getD num N0).2.1.toNat (pf.getD num N0).2.2.1) (sn.set num true)).1 = true then
          pvT P os pf k (pf.getD num N0).2.2.2.2.2.1.toNat (partR l (pf.getD num N0).2.1.toNat (pf.getD num N0).2.2.1) (pvT P os pf k (pf.getD num N0).2.2.2.2.1.toNat (partL l (pf.getD num N0).2.1.toNat (pf.getD num N0).2.2.1) (sn.set num true)).2
        else (false, (pvT P os pf k (pf.getD num N0).2.2.2.2.1.toNat (partL l (pf.getD num N0).2.1.toNat (pf.getD num N0).2.2.1) (sn.set num true)).2)) := by
  have h1' : (pf.getD num N0).kind = 1 := h1
  rw [pvT, if_neg (by rw [h]; decide), if_pos h1', if_pos h2]; rfl
theorem pv_nosplit {P : Int} {os : List Od} {pf : List Nd} {k num : Nat} {l : List Jb} {sn : List Bool} (h : sn.getD num false = false) (h1 : (pf.getD num N0).1 = 1) (h2 : splitB l pf.length num (pf.getD num N0) = false) :
  pvT P os pf (k + 1) num l sn = (false, sn.set num true) := by
 have h1' : (pf.getD num N0).kind = 1 := h1
 rw [pvT, if_neg (by rw [h]; decide), if_pos h1', if_neg (by rw [h2]; decide)]
theorem pv_crowd {P : Int} {os : List Od} {pf : List Nd} {k num : Nat} {l : List Jb} {sn : List Bool} (h : sn.getD num false = false) (h1 : (pf.getD num N0).1 = 2) :
  pvT P os pf (k + 1) num l sn = (crowdB P l (pf.getD num N0), sn.set num true) := by
 have h1' : (pf.getD num N0).kind = 2 := h1
 rw [pvT, if_neg (by rw [h]; decide), if_neg (by rw [h1']; decide), if_pos h1']
theorem pv_behind {P : Int} {os : List Od} {pf : List Nd} {k num : Nat} {l : List Jb} {sn : List Bool} (h : sn.getD num false = false) (h1 : (pf.getD num N0).1 = 3) :
  pvT P os pf (k + 1) num l sn = (behindB l os (pf.getD num N0), sn.set num true) := by
 have h1' : (pf.getD num N0).kind = 3 := h1
 rw [pvT, if_neg (by rw [h]; decide), if_neg (by rw [h1']; decide), if_neg (by rw [h1']; decide), if_pos h1']
theorem pv_else {P : Int} {os : List Od} {pf : List Nd} {k num : Nat} {l : List Jb} {sn : List Bool} (h : sn.getD num false = false) (h1 : (pf.getD num N0).1 ≠ 1) (h2 : (pf.getD num N0).1 ≠ 2) (h3 : (pf.getD num N0).1 ≠ 3) :
  pvT P os pf (k + 1) num l sn = (false, sn.set num true) := by
 have h1' : (pf.getD num N0).kind ≠ 1 := h1
 have h2' : (pf.getD num N0).kind ≠ 2 := h2
 have h3' : (pf.getD num N0).kind ≠ 3 := h3
 rw [pvT, if_neg (by rw [h]; decide), if_neg h1', if_neg h2', if_neg h3']
theorem split_iff {l : List Jb} {len num : Nat} {x : Nd} : splitB l len num x = true ↔ x.2.2.2.1 = 0 ∧ (0 ≤ x.2.1 ∧ x.2.1 < l.length) ∧ (jf l x.2.1.toNat ≤ x.2.2.1 ∧ x.2.2.1 < jt l x.2.1.toNat - jl l x.2.1.toNat) ∧ (((num : Int) < x.2.2.2.2.1 ∧ (num : Int) < x.2.2.2.2.2.1) ∧ x.2.2.2.2.1 < len ∧ x.2.2.2.2.2.1 < len) := by
 unfold splitB Nd.b Nd.job Nd.a Nd.lf Nd.rt
 simp only [Bool.and_eq_true, decide_eq_true_eq]
theorem growR_len {P : Int} {os : List Od} {k : Nat} : ∀ {l : List Jb} {N : List Nd}, N.length ≤ 20000 → N.length ≤ (growR P os k l N).2.length ∧ (growR P os k l N).2.length ≤ 20000 := by
 induction k with
 | zero => intro l N h; exact ⟨Nat.le_refl _, h⟩
 | succ k ih =>
  intro l N h
  rw [growR_succ]
  generalize growR P os k = G at ih ⊢
  unfold growS
  split
  · exact ⟨Nat.le_refl _, h⟩
  rename_i hN
  split
  · simp; omega
  split
  · simp; omega
  split
  · simp; omega
  · rename_i j hj
    have h1 := ih (l := partL l j (midT l j)) (N := N ++ [N0]) (by simp; omega)
    have h2 := ih (l := partR l j (midT l j)) (N := (G (partL l j (midT l j)) (N ++ [N0])).2) h1.2
    simp only [List.length_append, List.length_cons, List.length_nil] at h1
    split
    · split
      · dsimp only
        rw [List.length_set]; omega
      · dsimp only; omega
    · dsimp only; omega
theorem gr_long {P : Int} {os : List Od} {k : Nat} {l : List Jb} {N : List Nd} (h : 20000 ≤ N.length) : growR P os (k + 1) l N = (false, N) := by
 rw [growR_succ]; unfold growS; rw [if_pos h]
theorem gr_late {P : Int} {os : List Od} {k : Nat} {l : List Jb} {N : List Nd} (h : ¬ 20000 ≤ N.length) {i : Nat} (h1 : lateI os l = some i) : growR P os (k + 1) l N = (true, (N ++ [N0]).set N.length (3, (i : Int), 0, 0, 0, 0, ())) := by
 rw [growR_succ]; unfold growS; rw [if_neg h, h1]
 simp
theorem gr_over {P : Int} {os : List Od} {k : Nat} {l : List Jb} {N : List Nd} (h : ¬ 20000 ≤ N.length) (h1 : lateI os l = none) {a b : Nat} (h2 : overF P l = some (a, b)) : growR P os (k + 1) l N = (true, (N ++ [N0]).set N.length (2, 0, (a : Int), (b : Int), 0, 0, ())) := by
 rw [growR_succ]; unfold growS; rw [if_neg h, h1]
 dsimp only
 rw [h2]
 simp
theorem gr_none {P : Int} {os : List Od} {k : Nat} {l : List Jb} {N : List Nd} (h : ¬ 20000 ≤ N.length) (h1 : lateI os l = none) (h2 : overF P l = none) (h3 : pickK l l.length = none) : growR P os (k + 1) l N = (false, N ++ [N0]) := by
 rw [growR_succ]; unfold growS; rw [if_neg h, h1]
 dsimp only
 rw [h2]
 dsimp only
 rw [h3]
theorem gr_pick {P : Int} {os : List Od} {k : Nat} {l : List Jb} {N : List Nd} (h : ¬ 20000 ≤ N.length) (h1 : lateI os l = none) (h2 : overF P l = none) {j : Nat} (h3 : pickK l l.length = some j) : growR P os (k + 1) l N =
  if (growR P os k (partL l j (midT l j)) (N ++ [N0])).1 = true then
   (if (growR P os k (partR l j (midT l j)) (growR P os k (partL l j (midT l j)) (N ++ [N0])).2).1 = true then
    (true, (growR P os k (partR l j (midT l j)) (growR P os k (partL l j (midT l j)) (N ++ [N0])).2).2.set N.length
     (1, (j : Int), midT l j, 0, (N.length : Int) + 1, ((growR P os k (partL l j (midT l j)) (N ++ [N0])).2.length : Int), ()))
   else (false, (growR P os k (partR l j (midT l j)) (growR P os k (partL l j (midT l j)) (N ++ [N0])).2).2))
  else (false, (growR P os k (partL l j (midT l j)) (N ++ [N0])).2) := by
 rw [growR_succ]; unfold growS; rw [if_neg h, h1]
 dsimp only
 rw [h2]
 dsimp only
 rw [h3]
def pkI (l : List Jb) (k : Nat) : Int := match pickK l k with
 | some j => (j : Int)
 | none => -1
theorem pk_zero {l : List Jb} : pkI l 0 = -1 := rfl
def pkC (l : List Jb) (k : Nat) : Prop := 0 < frT l k ∧ (pkI l k < 0 ∨ frT l k < frT l (pkI l k).toNat)
theorem pk_yes {l : List Jb} {k : Nat} (h : pkC l k) : pkI l (k + 1) = k := by
  unfold pkC pkI at h
  unfold pkI
  rw [pickK]
  cases e : pickK l k with
  | none => dsimp only; rw [if_pos h.1]
  | some j =>
    rw [e] at h
    dsimp only at h ⊢
    rw [if_pos ⟨h.1, by rcases h.2 with h2 | h2; · omega
                        · rwa [Int.toNat_natCast] at h2⟩]
theorem pk_no {l : List Jb} {k : Nat} (h : ¬ pkC l k) : pkI l (k + 1) = pkI l k := by
 unfold pkC pkI at h
 unfold pkI
 rw [pickK]
 cases e : pickK l k with
 | none =>
  rw [e] at h
  dsimp only at h ⊢
  rw [if_neg fun h1 => h ⟨h1, .inl (by omega)⟩]
 | some j =>
  rw [e] at h
  dsimp only at h ⊢
  rw [if_neg fun h1 => h ⟨h1.1, .inr (by rw [Int.toNat_natCast]; exact h1.2)⟩]
theorem pk_rg {l : List Jb} {k : Nat} : -1 ≤ pkI l k ∧ pkI l k < k := by
 unfold pkI
 cases e : pickK l k with
 | none => dsimp only; omega
 | some j =>
  have := (pickK_some e).1
  dsimp only; omega
theorem lexle_anti {a b : List Int} (h1 : lexle a b) (h2 : lexle b a) (hl : a.length = b.length) : a = b := by
 rcases h1 with h | ⟨i, hi, h3, h4⟩
 · exact h
 · rcases h2 with h | ⟨k, hk, h5, h6⟩
   · exact h.symm
   · exfalso
     by_cases c : i < k
     · have := h5 i c; omega
     · by_cases c2 : k < i
       · have := h3 k c2; omega
       · have : i = k := by omega
         subst this
         omega
open Go.Tp
structure TJn (n : Nat) (l : List Jb) : Prop where
 n1 : 1 ≤ n
 n6 : n ≤ 6
 ln : l.length ≤ n
 rg : ∀ i, i < l.length → 0 ≤ jf l i ∧ jf l i < jt l i ∧ jt l i ≤ n ∧ jl l i = 1 ∧ jp l i = 1
theorem jf_app {l : List Jb} {x : Jb} {i : Nat} : (l ++ [x]).getD i J0 = if i < l.length then l.getD i J0 else if i = l.length then x else J0 := by
 by_cases h : i < l.length
 · rw [if_pos h, List.getD_eq_getElem?_getD, List.getElem?_append_left h, List.getD_eq_getElem?_getD]
 · rw [if_neg h, List.getD_eq_getElem?_getD, List.getElem?_append_right (by omega)]
   by_cases e : i = l.length
   · rw [if_pos e, e, Nat.sub_self]; rfl
   · rw [if_neg e, List.getElem?_eq_none (by rw [List.length_singleton]; omega)]; rfl
theorem TJn.app {n : Nat} {l : List Jb} {a b : Int} (h : TJn n l) (hl : l.length < n) (h1 : 0 ≤ a) (h2 : a < b) (h3 : b ≤ n) : TJn n (l ++ [((a, b, 1, 1, ()) : Jb)]) := by
 refine ⟨h.n1, h.n6, by rw [List.length_append, List.length_singleton]; omega, fun i hi => ?_⟩
 rw [List.length_append, List.length_singleton] at hi
 unfold jf jt jl jp
 rw [jf_app]
 by_cases e : i < l.length
 · rw [if_pos e]; exact h.rg i e
 · rw [if_neg e, if_pos (by omega)]
   exact ⟨h1, h2, h3, rfl, rfl⟩
theorem TJn.all {n : Nat} {l : List Jb} (h : TJn n l) (hl : l.length = n) : TJ l := by
 subst hl
 exact ⟨h.n1, h.n6, h.rg⟩
def rcT (a b : Int) (k : Nat) : Int := if a ≤ (k : Int) ∧ (k : Int) < b then 0 else 1
def rowT (n : Nat) (a b : Int) : List Int := (List.range n).map (rcT a b)
def matT (n : Nat) (l : List Jb) : List (List Int) := l.map fun x => rowT n x.1 x.2.1
theorem matT_len {n : Nat} {l : List Jb} : (matT n l).length = l.length := List.length_map ..
theorem rowT_len {n : Nat} {a b : Int} : (rowT n a b).length = n := by unfold rowT; rw [List.length_map, List.length_range]
theorem matT_app {n : Nat} {l : List Jb} {a b : Int} : matT n l ++ [rowT n a b] = matT n (l ++ [((a, b, 1, 1, ()) : Jb)]) := by
 unfold matT; rw [List.map_append]; rfl
theorem rowT_app {k : Nat} {a b : Int} : rowT k a b ++ [rcT a b k] = rowT (k + 1) a b := by
 unfold rowT; rw [List.range_succ, List.map_append]; rfl
theorem rowT_get {n j : Nat} {a b : Int} (h : j < n) : (rowT n a b).getD j 0 = rcT a b j := by
 unfold rowT
 rw [List.getD_eq_getElem?_getD, List.getElem?_map, List.getElem?_range h]; rfl
theorem matT_get {n i : Nat} {l : List Jb} (h : i < l.length) : (matT n l).getD i [] = rowT n (jf l i) (jt l i) := by
 unfold matT jf jt
 rw [List.getD_eq_getElem?_getD, List.getElem?_map, List.getD_eq_getElem?_getD, List.getElem?_eq_getElem h]; rfl
theorem matT_cell {n i j : Nat} {l : List Jb} (hi : i < l.length) (hj : j < n) : ((matT n l).getD i []).getD j 0 = rcT (jf l i) (jt l i) j := by
 rw [matT_get hi, rowT_get hj]
theorem gl_congr {al al' : Nat → Nat → Bool} {n : Nat} (h : ∀ i j, i < n → j < n → al i j = al' i j) (c : List Nat) : Comp al n n 0 c ↔ Comp al' n n 0 c := by
 rw [comp_iff (Nat.le_refl _), comp_iff (Nat.le_refl _)]
 refine ⟨fun ⟨a, b, d⟩ => ⟨a, fun i hi => ?_, d⟩, fun ⟨a, b, d⟩ => ⟨a, fun i hi => ?_, d⟩⟩
 · obtain ⟨p, q, r⟩ := b i hi
   exact ⟨p, q, by rw [← h _ _ (by omega) p]; exact r⟩
 · obtain ⟨p, q, r⟩ := b i hi
   exact ⟨p, q, by rw [h _ _ (by omega) p]; exact r⟩
theorem lexle_zN : ∀ {a b : List Nat}, a.length = b.length → lexN a b → lexle (zN a) (zN b) := by
 intro a b hl h
 rcases h with h | ⟨i, h1, h2, h3⟩
 · exact .inl (by rw [h])
 · exact .inr ⟨i, by rw [zN_len]; exact h1, fun j hj => by rw [zN_get, zN_get, h2 j hj], by rw [zN_get, zN_get]; omega⟩
end Go.Sh
namespace Go.Proofs.Ytckmhlpngolbpaa
open Int renaming reduceToNat → zr, reduceTDiv → zd, reduceTMod → zm
open Go Go.Vc Go.Sh
theorem sumZ_rg {f : Nat → Int} {c : Int} {n : Nat} (hc : 0 ≤ c) (h : ∀ i, i < n → 0 ≤ f i ∧ f i ≤ c) : ∀ {k : Nat}, k ≤ n → 0 ≤ sumZ f k ∧ sumZ f k ≤ c * k
 | 0, _ => by simp [sumZ]
 | k + 1, hk => by
  have h1 := sumZ_rg hc h (k := k) (by omega)
  have h2 := h k (by omega)
  rw [sumZ, show ((k + 1 : Nat) : Int) = (k : Int) + 1 by omega, Int.mul_add, Int.mul_one]
  omega
theorem need_rg {l : List Jb} (h : Bd l) {a b : Int} (ha : 0 ≤ a ∧ a ≤ b ∧ b ≤ 100) : ∀ i, i < l.length → 0 ≤ needT l i a b ∧ needT l i a b ≤ 10000 := fun i hi => by
 have hj := h.rg i hi
 exact nd_rg hj.2.2.1 hj.2.2.2 ha
theorem needs_rg {l : List Jb} (h : Bd l) {a b : Int} (ha : 0 ≤ a ∧ a ≤ b ∧ b ≤ 100) {k : Nat} (hk : k ≤ l.length) : 0 ≤ sumZ (fun i => needT l i a b) k ∧ sumZ (fun i => needT l i a b) k ≤ 1000000 := by
 have h1 := sumZ_rg (c := 10000) (by omega) (need_rg h ha) hk
 have := h.len
 omega
theorem needs_at {l : List Jb} (h : Bd l) {a b : Int} (ha : 0 ≤ a ∧ a ≤ b ∧ b ≤ 100) : FnAt Try.prog false 61 [.arr JT l, I64 a, I64 b] (.lit (.int .i64 (needsT l a b))) [] := by
 have hl := h.len
 have hll : @List.length JT.T l = l.length := rfl
 have hrg := fun i hi => needs_rg h ha (k := i) hi
 have hr1 := need_rg h ha
 obtain ⟨S, hS⟩ : ∃ S : Nat → Int, S = sumZ (fun i => needT l i a b) := ⟨_, rfl⟩
 have hSs : ∀ i, S i + jp l i * ndT (jf l i) (jt l i) (jl l i) a b = S (i + 1) := fun i => by rw [hS, sumZ]; rfl
 have hSn : needsT l a b = S l.length := by rw [hS]; rfl
 have hS0 : S 0 = 0 := by rw [hS]; rfl
 rw [← hS] at hrg
 rw [hSn]
 have hnd := fun i (hi : i < l.length) => need_at (f := jf l i) (t := jt l i) (n := jl l i) (p := jp l i) (a := a) (b := b) (h.rg i hi).1 (h.rg i hi).2.1 (h.rg i hi).2.2.1 (h.rg i hi).2.2.2 ha
 refine FnAt.of_body tys_ok Try.func61 (by rfl) rfl Try.ntmps61 (by rw [Try.results61]) (by simp) ?_
 repeat' (first
 | refine W.seq ?_
 | refine W.block ?_
 | (refine W.region tys_ok [] ?_; conv => whnf)
 | (refine W.drawAll tys_ok [] mixed rfl ?_; conv => whnf)
 | (refine W.ret ?_; conv => whnf)
 | (refine W.skip ?_; conv => whnf)
 | (refine W.exit ?_; conv => whnf)
 | (refine W.cond rfl (fun hb => ?_) (fun hb => ?_) <;> (try simp only [zr, zd, zm, minL, maxL, pickB, zA] at hb) <;> (try (first | (cases hb; done) | exact absurd hb (by decide) | (exfalso; omega))))
 | ((with_reducible refine And.intro ?_ ?_); exact zc; conv => whnf)
 | ((with_reducible refine And.intro (Side.out ?_) ?_); rotate_left; (conv => whnf))
 | ((first | refine retF1 ?_ | refine retF2 ?_) <;> (conv => whnf) <;> repeat' (first
 | exact trivial
 | (with_reducible rfl)
 | ((with_reducible refine And.intro ?_ ?_) <;> conv => whnf)
 | omega
 | rfl
 | (refine congrArg (SV.arr _) ?_)
 | (refine congrArg (Value.int _) ?_)
 | (refine congrArg Value.bool ?_)))); all_goals (try unfold Side)
 all_goals try (repeat' (first | exact zb | with_reducible refine And.intro ?_ ?_))
 refine W.loop (fun i : Nat => ⟨[(0, .st false (.arr JT l)), (1, .lit (.int .i64 (a))), (2, .lit (.int .i64 (b))), (7, .lit (.int .i64 ((S i)))), (10, .st false (.arr JT l)), (11, .lit (.int .i64 ((l.length : Int)))), (12, .lit (.int .i64 (i)))], []⟩) (fun i => i ≤ l.length) (fun i => l.length - i) (0) ?_ ?_
 · refine ⟨Nat.zero_le _, ?_⟩
   refine subF.ok ?_ <;> (conv => whnf) <;> repeat' (first
 | exact trivial
 | (with_reducible rfl)
 | ((with_reducible refine And.intro ?_ ?_) <;> conv => whnf)
 | omega
 | rfl
 | (refine congrArg (SV.arr _) ?_)
 | (refine congrArg (Value.int _) ?_)
 | (refine congrArg Value.bool ?_))
   all_goals exact hS0.symm
 · intro i hi
   by_cases hil : i < l.length
   · have hn := hnd i hil
     have h1 := hr1 i hil
     have h2 := hrg i hi
     have hs := hSs i
     have h3 := hrg (i + 1) (by omega)
     have hik : InK .i64 (S i + jp l i * ndT (jf l i) (jt l i) (jl l i) a b) := by rw [hs]; simp only [InK]; omega
     repeat' (first
 | refine W.seq ?_
 | refine W.block ?_
 | (refine W.region tys_ok [] ?_; conv => whnf)
 | (refine W.drawAll tys_ok [] mixed rfl ?_; conv => whnf)
 | (refine W.ret ?_; conv => whnf)
 | (refine W.skip ?_; conv => whnf)
 | (refine W.exit ?_; conv => whnf)
 | (refine call_at (al := false) (hn) rfl rfl rfl rfl ?_; conv => whnf)
 | (refine W.cond rfl (fun hb => ?_) (fun hb => ?_) <;> (try simp only [zr, zd, zm, minL, maxL, pickB, zA] at hb) <;> (try (first | (cases hb; done) | exact absurd hb (by decide) | (exfalso; omega))))
 | ((with_reducible refine And.intro ?_ ?_); exact zc; conv => whnf)
 | ((with_reducible refine And.intro (Side.out ?_) ?_); rotate_left; (conv => whnf))
 | ((first | refine retF1 ?_ | refine retF2 ?_) <;> (conv => whnf) <;> repeat' (first
 | exact trivial
 | (with_reducible rfl)
 | ((with_reducible refine And.intro ?_ ?_) <;> conv => whnf)
 | omega
 | rfl
 | (refine congrArg (SV.arr _) ?_)
 | (refine congrArg (Value.int _) ?_)
 | (refine congrArg Value.bool ?_)))); all_goals (try unfold Side)
     all_goals try exact hik
     all_goals try (repeat' (first | exact zb | with_reducible refine And.intro ?_ ?_))
     refine ⟨i + 1, ⟨by omega, by omega⟩, ?_⟩
     refine subF.ok ?_ <;> (conv => whnf) <;> repeat' (first
 | exact trivial
 | (with_reducible rfl)
 | ((with_reducible refine And.intro ?_ ?_) <;> conv => whnf)
 | omega
 | rfl
 | (refine congrArg (SV.arr _) ?_)
 | (refine congrArg (Value.int _) ?_)
 | (refine congrArg Value.bool ?_))
     all_goals exact hs
   · have hie : l.length = i := by omega
     subst hie
     repeat' (first
 | refine W.seq ?_
 | refine W.block ?_
 | (refine W.region tys_ok [] ?_; conv => whnf)
 | (refine W.drawAll tys_ok [] mixed rfl ?_; conv => whnf)
 | (refine W.ret ?_; conv => whnf)
 | (refine W.skip ?_; conv => whnf)
 | (refine W.exit ?_; conv => whnf)
 | (refine W.cond rfl (fun hb => ?_) (fun hb => ?_) <;> (try simp only [zr, zd, zm, minL, maxL, pickB, zA] at hb) <;> (try (first | (cases hb; done) | exact absurd hb (by decide) | (exfalso; omega))))
 | ((with_reducible refine And.intro ?_ ?_); exact zc; conv => whnf)
 | ((with_reducible refine And.intro (Side.out ?_) ?_); rotate_left; (conv => whnf))
 | ((first | refine retF1 ?_ | refine retF2 ?_) <;> (conv => whnf) <;> repeat' (first
 | exact trivial
 | (with_reducible rfl)
 | ((with_reducible refine And.intro ?_ ?_) <;> conv => whnf)
 | omega
 | rfl
 | (refine congrArg (SV.arr _) ?_)
 | (refine congrArg (Value.int _) ?_)
 | (refine congrArg Value.bool ?_)))); all_goals (try unfold Side)
     all_goals try (repeat' (first | exact zb | with_reducible refine And.intro ?_ ?_))
theorem clone_at {l : List Jb} (h : 1 ≤ l.length) (hl : l.length ≤ 1000) : FnAt Try.prog false 25 [.arr JT l] (.own 0) [(0, .row 30 JT true l)] := by
 have hwl : @List.length JT.T l ≤ 1000 := hl
 have hne : l ≠ [] := fun e => by rw [e] at h; simp at h
 have he : l.isEmpty = false := by cases l with | nil => exact absurd rfl hne | cons => rfl
 have hn : FnAt Try.prog false 25 [.narr JT l] (.own 0) [(0, .row 30 JT true l)] := by
  refine FnAt.of_body tys_ok Try.func25 (by rfl) rfl Try.ntmps25 (by rw [Try.results25]) (by simp) ?_
  repeat' (first
 | refine W.seq ?_
 | refine W.block ?_
 | (refine W.region tys_ok [] ?_; conv => whnf)
 | (refine W.drawAll tys_ok [] mixed rfl ?_; conv => whnf)
 | (refine W.ret ?_; conv => whnf)
 | (refine W.skip ?_; conv => whnf)
 | (refine W.exit ?_; conv => whnf)
 | (refine W.cond rfl (fun hb => ?_) (fun hb => ?_) <;> (try simp only [zr, zd, zm, minL, maxL, pickB, zA] at hb) <;> (try (first | (cases hb; done) | exact absurd hb (by decide) | (exfalso; omega) | (exact Bool.noConfusion (hb.symm.trans he)))))
 | ((with_reducible refine And.intro ?_ ?_); exact zc; conv => whnf)
 | ((with_reducible refine And.intro (Side.out ?_) ?_); rotate_left; (conv => whnf))
 | ((first | refine retF1 ?_ | refine retF2 ?_) <;> (conv => whnf) <;> repeat' (first
 | exact trivial
 | (with_reducible rfl)
 | ((with_reducible refine And.intro ?_ ?_) <;> conv => whnf)
 | omega
 | rfl
 | (refine congrArg (SV.arr _) ?_)
 | (refine congrArg (Value.int _) ?_)
 | (refine congrArg Value.bool ?_)))); all_goals (try unfold Side)
  all_goals try (repeat' (first | exact zb | with_reducible refine And.intro ?_ ?_))
 refine ⟨hn.1, fun w O vals hO ha => hn.2 w O vals hO ⟨by simpa using ha.1, fun i v A hv hA => ?_⟩⟩
 cases i with
 | zero =>
  simp at hA
  subst hA
  exact .narr _ _ _ (ha.2 0 v _ hv rfl) (fun h => absurd h hne)
 | succ i => exact ha.2 (i + 1) v A hv (by simp at hA)
theorem late_at {l : List Jb} (h : Bd l) {x y : Int} (hx : 0 ≤ x ∧ x < l.length) (hy : 0 ≤ y ∧ y < l.length) : FnAt Try.prog false 42 [.agg [I64 x, I64 y], .arr JT l] (.lit (.bool (lateT l (x, y, ())))) [] := by
 have hl := h.len
 have hll : @List.length JT.T l = l.length := rfl
 have h1 := h.rg x.toNat (by omega)
 have h2 := h.rg y.toNat (by omega)
 unfold jf jt jl jp at h1 h2
 refine FnAt.of_body tys_ok Try.func42 (by rfl) rfl Try.ntmps42 (by rw [Try.results42]) (by simp) ?_
 repeat' (first
 | refine W.seq ?_
 | refine W.block ?_
 | (refine W.resub (x := Code.region 1 _ _) (Γ' := ⟨[(1, .st false (.arr JT l)), (2, .st true (.sadr (.agg [I64 x, I64 y])))], []⟩) ?_ (W.drawPh (id := 1) tys_ok [] mixed [0, 0, 2, 5, 8, 0, 0, 64, 160, 256, 0, 0, 3103, 8191] [([0, 1, 2, 3, 4, 5, 6, 7, 8, 9], 2, 4095), ([], 1, 8191), ([], 1, 16383)] (by decide +kernel) ?_); rotate_left; (conv => whnf))
 | (refine W.region tys_ok [] ?_; conv => whnf)
 | (refine W.drawAll tys_ok [] mixed rfl ?_; conv => whnf)
 | (refine W.ret ?_; conv => whnf)
 | (refine W.skip ?_; conv => whnf)
 | (refine W.exit ?_; conv => whnf)
 | (refine Both.mk ?_ ?_ <;> (conv => whnf))
 | (refine W.cond rfl (fun hb => ?_) (fun hb => ?_) <;> (try simp only [zr, zd, zm, minL, maxL, pickB, zA] at hb) <;> (try (first | (cases hb; done) | exact absurd hb (by decide) | (exfalso; omega))))
 | ((with_reducible refine And.intro ?_ ?_); exact zc; conv => whnf)
 | ((with_reducible refine And.intro (Side.out ?_) ?_); rotate_left; (conv => whnf))
 | ((first | refine retF1 ?_ | refine retF2 ?_ | refine subF.leaf ?_ | refine subF.side ?_) <;> (conv => whnf) <;> repeat' (first
 | exact trivial
 | (with_reducible rfl)
 | ((with_reducible refine And.intro ?_ ?_) <;> conv => whnf)
 | omega
 | rfl
 | (refine congrArg (SV.arr _) ?_)
 | (refine congrArg (Value.int _) ?_)
 | (refine congrArg Value.bool ?_)))); all_goals (try unfold Side)
 all_goals try (repeat' (first | exact zb | with_reducible refine And.intro ?_ ?_))
end Go.Proofs.Ytckmhlpngolbpaa
