/- Joined of: E2 Vc40 Vc41 Vc39 Vc46 E3 E4 E5 To2. No condition. -/
import Derived.Test.YtckmhlpngolbpaaJ5
set_option linter.unusedVariables false
set_option linter.unusedSimpArgs false
namespace Go.Proofs.Ytckmhlpngolbpaa
open Int renaming reduceToNat → zr, reduceTDiv → zd, reduceTMod → zm
open Go Go.Vc Go.Sh Go.Tp Go.Ov
theorem adm_m {B F : List Nat} {n s : Nat} (h : DS B n) (hF : DS F n) (hn : n ≤ 12) (hs : s < 2 ^ n) : FnM Try.prog 56 [.st true (.sadr (.agg [I64 n, .arr (.int .u16) (zN B : List Int), .arr (.int .u16) (zN F : List Int)])), .lit (.int .u16 (s : Int))] [] (.lit (.bool (admB B F n s))) [] := by
 have h2 := two12 hn
 have c1 := attacked_at (F := F) h hn hs
 have c2 := defended_at h hF hn hs
 have h3 := attT_lt (s := s) h
 have h4 := defT_lt (B := B) (F := F) (n := n) (s := s)
 have hal : andN s (defT B F n s) < 2 ^ n := Nat.xor_lt_two_pow (Nat.and_lt_two_pow _ h4) hs
 unfold admB
 obtain ⟨t, ht⟩ : ∃ t, t = attT B s := ⟨_, rfl⟩
 obtain ⟨u, hu⟩ : ∃ u, u = defT B F n s := ⟨_, rfl⟩
 rw [← ht] at c1 h3 ⊢
 rw [← hu] at c2 h4 hal ⊢
 have q1 : 0 ≤ (t : Int) ∧ 0 ≤ (s : Int) ∧ InK .u16 (t : Int) ∧ InK .u16 (s : Int) := ⟨Int.natCast_nonneg _, Int.natCast_nonneg _, inU (by omega), inU (by omega)⟩
 have q2 : 0 ≤ (s : Int) ∧ 0 ≤ (u : Int) ∧ InK .u16 (s : Int) ∧ InK .u16 (u : Int) ∧ InK .u16 ((bitsN .andNot (s : Int).toNat (u : Int).toNat : Nat) : Int) := ⟨Int.natCast_nonneg _, Int.natCast_nonneg _, inU (by omega), inU (by omega), (inU (by omega) : InK .u16 ((andN s u : Nat) : Int))⟩
 have e1 : decide ((((t : Int).toNat &&& (s : Int).toNat : Nat) : Int) = 0) = decide (t &&& s = 0) := by simp only [Int.toNat_natCast, decide_eq_decide]; omega
 have e2 : decide (((bitsN .andNot (s : Int).toNat (u : Int).toNat : Nat) : Int) = 0) = decide (andN s u = 0) := by
  show decide (((andN s u : Nat) : Int) = 0) = _
  simp only [decide_eq_decide]; omega
 refine FnM.of_body tys_ok Try.func56 (by rfl) rfl Try.ntmps56 (by rw [Try.results56]) (by simp) ?_
 repeat' (first
 | refine W.seq ?_
 | refine W.block ?_
 | (refine W.region tys_ok [] ?_; conv => whnf)
 | (refine W.drawAll tys_ok [] mixed rfl ?_; conv => whnf)
 | (refine W.ret ?_; conv => whnf)
 | (refine W.skip ?_; conv => whnf)
 | (refine W.exit ?_; conv => whnf)
 | (refine call_at (al := false) (c1) rfl rfl rfl rfl ?_; conv => whnf)
 | (refine call_at (al := false) (c2) rfl rfl rfl rfl ?_; conv => whnf)
 | (refine W.cond rfl (fun hb => ?_) (fun hb => ?_) <;> (try simp only [zr, zd, zm, minL, maxL, pickB, zA] at hb) <;> (try (first | (cases hb; done) | exact absurd hb (by decide) | (exfalso; omega) | (omega))))
 | ((with_reducible refine And.intro ?_ ?_); exact zc; conv => whnf)
 | ((with_reducible refine And.intro (Side.out ?_) ?_); rotate_left; (conv => whnf))
 | ((first | refine retM1 ?_ | refine retM2 ?_) <;> (conv => whnf) <;> repeat' (first
 | exact trivial
 | (with_reducible rfl)
 | ((with_reducible refine And.intro ?_ ?_) <;> conv => whnf)
 | omega
 | rfl
 | (refine congrArg (SV.arr _) ?_)
 | (refine congrArg (Value.int _) ?_)
 | (refine congrArg Value.bool ?_)))); all_goals (try unfold Side)
 all_goals try (repeat' (first | exact zb | with_reducible refine And.intro ?_ ?_))
 all_goals first | exact Path.imp_of q1 | exact Path.imp_of q2 | (rw [e1, e2]; cases decide (t &&& s = 0) <;> rfl) | skip
def alL (p : Nat → Bool) (k : Nat) : List Nat := (List.range k).filter p
theorem alL_yes {p : Nat → Bool} {k : Nat} (h : p k = true) : alL p (k + 1) = alL p k ++ [k] := by
 unfold alL; rw [List.range_succ, List.filter_append, List.filter_cons, if_pos h]; rfl
theorem alL_no {p : Nat → Bool} {k : Nat} (h : p k = false) : alL p (k + 1) = alL p k := by
 unfold alL; rw [List.range_succ, List.filter_append, List.filter_cons, if_neg (by rw [h]; decide)]; simp
theorem alL_len {p : Nat → Bool} {k : Nat} : (alL p k).length ≤ k := Nat.le_trans (List.length_filter_le _ _) (by simp)
theorem alL_mem {p : Nat → Bool} {k x : Nat} : x ∈ alL p k ↔ x < k ∧ p x = true := by unfold alL; rw [List.mem_filter, List.mem_range]
set_option maxHeartbeats 4000000 in
theorem allAdm_m {B F : List Nat} {n : Nat} (h : DS B n) (hF : DS F n) (hn : n ≤ 12) :
  FnM Try.prog 31 [.st true (.sadr (.agg [I64 n, .arr (.int .u16) (zN B : List Int), .arr (.int .u16) (zN F : List Int)])), .fn 1000056 [.st true (.sadr (.agg [I64 n, .arr (.int .u16) (zN B : List Int), .arr (.int .u16) (zN F : List Int)]))]] [] (.st true (.arr (.int .u16) (zN (alL (admB B F n) (2 ^ n)) : List Int))) [] := by
 have h2 := two12 hn
 obtain ⟨N, hN⟩ : ∃ N, N = 2 ^ n := ⟨_, rfl⟩
 have hsh : (1 : Int) * (2 : Int) ^ ((n : Int).toNat) = (N : Int) := by rw [shl_val, hN]
 have q1 : 0 ≤ (n : Int) ∧ (n : Int).toNat ≤ IntKind.i64.bits ∧ InK .i64 ((1 : Int) * (2 : Int) ^ ((n : Int).toNat)) := ⟨by omega, by show (n : Int).toNat ≤ 64; omega, by rw [hsh]; exact ⟨by omega, by omega⟩⟩
 rw [← hN]
 refine FnM.of_body tys_ok Try.func31 (by rfl) rfl Try.ntmps31 (by rw [Try.results31]) (by simp) ?_
 repeat' (first
 | refine W.seq ?_
 | refine W.block ?_
 | (refine W.region tys_ok [] ?_; conv => whnf)
 | (refine W.drawAll tys_ok [] mixed rfl ?_; conv => whnf)
 | (refine W.ret ?_; conv => whnf)
 | (refine W.skip ?_; conv => whnf)
 | (refine W.exit ?_; conv => whnf)
 | (refine W.cond rfl (fun hb => ?_) (fun hb => ?_) <;> (try simp only [zr, zd, zm, minL, maxL, pickB, zA] at hb) <;> (try (first | (cases hb; done) | exact absurd hb (by decide) | (exfalso; omega) | (omega))))
 | ((with_reducible refine And.intro ?_ ?_); exact zc; conv => whnf)
 | ((with_reducible refine And.intro (Side.out ?_) ?_); rotate_left; (conv => whnf))
 | ((first | refine retM1 ?_ | refine retM2 ?_) <;> (conv => whnf) <;> repeat' (first
 | exact trivial
 | (with_reducible rfl)
 | ((with_reducible refine And.intro ?_ ?_) <;> conv => whnf)
 | omega
 | rfl
 | (refine congrArg (SV.arr _) ?_)
 | (refine congrArg (Value.int _) ?_)
 | (refine congrArg Value.bool ?_)))); all_goals (try unfold Side)
 all_goals try (repeat' (first | exact zb | with_reducible refine And.intro ?_ ?_))
 all_goals first | exact Path.imp_of q1 | skip
 refine W.loop (fun s : Nat => ⟨[(0, .st true (.sadr (.agg [I64 n, .arr (.int .u16) (zN B : List Int), .arr (.int .u16) (zN F : List Int)]))), (1, .fn 1000056 [.st true (.sadr (.agg [I64 n, .arr (.int .u16) (zN B : List Int), .arr (.int .u16) (zN F : List Int)]))]), (5, .own 5000), (11, (.lit (.int .i64 (N : Int)))), (12, (.lit (.int .i64 (s : Int))))], [(5000, .row 79 (.int .u16) true (zN (alL (admB B F n) s) : List Int))]⟩) (fun s => s ≤ N) (fun s => N - s) (0) ?_ ?_
 · refine ⟨Nat.zero_le _, ?_⟩
   refine subF.ok ?_ <;> (conv => whnf) <;> repeat' (first
 | exact trivial
 | (with_reducible rfl)
 | ((with_reducible refine And.intro ?_ ?_) <;> conv => whnf)
 | omega
 | rfl
 | (refine congrArg (SV.arr _) ?_)
 | (refine congrArg (Value.int _) ?_)
 | (refine congrArg Value.bool ?_))
   all_goals first | exact hsh | skip
 · intro s hs
   by_cases hsN : s < N
   · have c1 := adm_m h hF hn (s := s) (by omega)
     have q2 := inU (x := s) (by omega)
     have hll : (zN (alL (admB B F n) s)).length ≤ s := by rw [zN_len]; exact alL_len
     have hap := zN_app (a := alL (admB B F n) s) (j := s)
     cases hb1 : admB B F n s with
     | true =>
      rw [hb1] at c1
      have hst := alL_yes hb1
      repeat' (first
 | refine W.seq ?_
 | refine W.block ?_
 | (refine W.regionM (id := 5) tys_ok [] [3] ?_; conv => whnf)
 | (refine W.region tys_ok [] ?_; conv => whnf)
 | (refine W.drawAll tys_ok [] mixed rfl ?_; conv => whnf)
 | (refine W.ret ?_; conv => whnf)
 | (refine W.skip ?_; conv => whnf)
 | (refine W.exit ?_; conv => whnf)
 | (refine callM_at (c1) ?_; conv => whnf)
 | (refine W.cond rfl (fun hb => ?_) (fun hb => ?_) <;> (try simp only [zr, zd, zm, minL, maxL, pickB, zA] at hb) <;> (try (first | (cases hb; done) | exact absurd hb (by decide) | (exfalso; omega) | (omega))))
 | (refine Or.inl (And.intro trivial ?_); (conv => whnf))
 | ((with_reducible refine And.intro ?_ ?_); exact zc; conv => whnf)
 | ((with_reducible refine And.intro (Side.out ?_) ?_); rotate_left; (conv => whnf))
 | ((first | refine retM1 ?_ | refine retM2 ?_) <;> (conv => whnf) <;> repeat' (first
 | exact trivial
 | (with_reducible rfl)
 | ((with_reducible refine And.intro ?_ ?_) <;> conv => whnf)
 | omega
 | rfl
 | (refine congrArg (SV.arr _) ?_)
 | (refine congrArg (Value.int _) ?_)
 | (refine congrArg Value.bool ?_)))); all_goals (try unfold Side)
      all_goals try (repeat' (first | exact zb | with_reducible refine And.intro ?_ ?_))
      all_goals first | (show ((zN (alL (admB B F n) s)).length + 1).le 4294967296; exact (by omega : (zN (alL (admB B F n) s)).length + 1 ≤ 4294967296)) | skip
      refine ⟨s + 1, ⟨by omega, by omega⟩, ?_⟩
      rw [hst, ← hap]
      refine subF.ok ?_ <;> (conv => whnf) <;> repeat' (first
 | exact trivial
 | (with_reducible rfl)
 | ((with_reducible refine And.intro ?_ ?_) <;> conv => whnf)
 | omega
 | rfl
 | (refine congrArg (SV.arr _) ?_)
 | (refine congrArg (Value.int _) ?_)
 | (refine congrArg Value.bool ?_))
     | false =>
      rw [hb1] at c1
      have hst := alL_no hb1
      repeat' (first
 | refine W.seq ?_
 | refine W.block ?_
 | (refine W.regionM (id := 5) tys_ok [] [3] ?_; conv => whnf)
 | (refine W.region tys_ok [] ?_; conv => whnf)
 | (refine W.drawAll tys_ok [] mixed rfl ?_; conv => whnf)
 | (refine W.ret ?_; conv => whnf)
 | (refine W.skip ?_; conv => whnf)
 | (refine W.exit ?_; conv => whnf)
 | (refine callM_at (c1) ?_; conv => whnf)
 | (refine W.cond rfl (fun hb => ?_) (fun hb => ?_) <;> (try simp only [zr, zd, zm, minL, maxL, pickB, zA] at hb) <;> (try (first | (cases hb; done) | exact absurd hb (by decide) | (exfalso; omega) | (omega))))
 | (refine Or.inl (And.intro trivial ?_); (conv => whnf))
 | ((with_reducible refine And.intro ?_ ?_); exact zc; conv => whnf)
 | ((with_reducible refine And.intro (Side.out ?_) ?_); rotate_left; (conv => whnf))
 | ((first | refine retM1 ?_ | refine retM2 ?_) <;> (conv => whnf) <;> repeat' (first
 | exact trivial
 | (with_reducible rfl)
 | ((with_reducible refine And.intro ?_ ?_) <;> conv => whnf)
 | omega
 | rfl
 | (refine congrArg (SV.arr _) ?_)
 | (refine congrArg (Value.int _) ?_)
 | (refine congrArg Value.bool ?_)))); all_goals (try unfold Side)
      all_goals try (repeat' (first | exact zb | with_reducible refine And.intro ?_ ?_))
      refine ⟨s + 1, ⟨by omega, by omega⟩, ?_⟩
      rw [hst]
      refine subF.ok ?_ <;> (conv => whnf) <;> repeat' (first
 | exact trivial
 | (with_reducible rfl)
 | ((with_reducible refine And.intro ?_ ?_) <;> conv => whnf)
 | omega
 | rfl
 | (refine congrArg (SV.arr _) ?_)
 | (refine congrArg (Value.int _) ?_)
 | (refine congrArg Value.bool ?_))
   · have hke : N = s := by omega
     subst hke
     repeat' (first
 | refine W.seq ?_
 | refine W.block ?_
 | (refine W.region tys_ok [] ?_; conv => whnf)
 | (refine W.drawAll tys_ok [] mixed rfl ?_; conv => whnf)
 | (refine W.ret ?_; conv => whnf)
 | (refine W.skip ?_; conv => whnf)
 | (refine W.exit ?_; conv => whnf)
 | (refine W.cond rfl (fun hb => ?_) (fun hb => ?_) <;> (try simp only [zr, zd, zm, minL, maxL, pickB, zA] at hb) <;> (try (first | (cases hb; done) | exact absurd hb (by decide) | (exfalso; omega) | (omega))))
 | ((with_reducible refine And.intro ?_ ?_); exact zc; conv => whnf)
 | ((with_reducible refine And.intro (Side.out ?_) ?_); rotate_left; (conv => whnf))
 | ((first | refine retM1 ?_ | refine retM2 ?_) <;> (conv => whnf) <;> repeat' (first
 | exact trivial
 | (with_reducible rfl)
 | ((with_reducible refine And.intro ?_ ?_) <;> conv => whnf)
 | omega
 | rfl
 | (refine congrArg (SV.arr _) ?_)
 | (refine congrArg (Value.int _) ?_)
 | (refine congrArg Value.bool ?_)))); all_goals (try unfold Side)
     all_goals try (repeat' (first | exact zb | with_reducible refine And.intro ?_ ?_))
def stB (B : List Nat) (n s : Nat) : Bool := decide (attT B s = andN (2 ^ n - 1) s)
theorem stIn_m {B F : List Nat} {n s : Nat} (h : DS B n) (hn1 : 1 ≤ n) (hn : n ≤ 12) (hs : s < 2 ^ n) : FnM Try.prog 32 [.lit (.int .u16 (s : Int)), .padr 1000000000 0] [(1000000000, .box1 (.st true (.sadr (.agg [I64 n, .arr (.int .u16) (zN B : List Int), .arr (.int .u16) (zN F : List Int)]))))] (.lit (.bool (stB B n s))) [(1000000000, .box1 (.st true (.sadr (.agg [I64 n, .arr (.int .u16) (zN B : List Int), .arr (.int .u16) (zN F : List Int)]))))] := by
 have h2 := two12 hn
 have c1 := attacked_at (F := F) h hn hs
 have h3 := attT_lt (s := s) h
 unfold stB
 obtain ⟨t, ht⟩ : ∃ t, t = attT B s := ⟨_, rfl⟩
 rw [← ht] at c1 h3 ⊢
 obtain ⟨m, hm⟩ : ∃ m, m = 2 ^ n - 1 := ⟨_, rfl⟩
 have hp := Nat.two_pow_pos n
 have hsh : (1 : Int) * (2 : Int) ^ ((n : Int).toNat) = ((2 ^ n : Nat) : Int) := shl_val n
 have hsm : (1 : Int) * (2 : Int) ^ ((n : Int).toNat) - 1 = (m : Int) := by rw [hsh, hm]; omega
 rw [← hm]
 have hal : andN m s < 2 ^ n := Nat.xor_lt_two_pow (Nat.and_lt_two_pow _ hs) (by omega)
 have q1 : 0 ≤ (n : Int) ∧ (n : Int).toNat ≤ IntKind.u16.bits ∧ InK .u16 ((1 : Int) * (2 : Int) ^ ((n : Int).toNat)) := ⟨by omega, by show (n : Int).toNat ≤ 16; omega, by rw [hsh]; exact inU (by omega)⟩
 have q2 : InK .u16 ((1 : Int) * (2 : Int) ^ ((n : Int).toNat) - 1) := by rw [hsm]; exact inU (by omega)
 have q3 : 0 ≤ (1 : Int) * (2 : Int) ^ ((n : Int).toNat) - 1 ∧ 0 ≤ (s : Int) ∧ InK .u16 ((1 : Int) * (2 : Int) ^ ((n : Int).toNat) - 1) ∧ InK .u16 (s : Int) ∧ InK .u16 ((bitsN .andNot ((1 : Int) * (2 : Int) ^ ((n : Int).toNat) - 1).toNat (s : Int).toNat : Nat) : Int) := by
  rw [hsm]
  exact ⟨Int.natCast_nonneg _, Int.natCast_nonneg _, inU (by omega), inU (by omega), (inU (by omega) : InK .u16 ((andN m s : Nat) : Int))⟩
 have e1 : decide ((t : Int) = ((bitsN .andNot ((1 : Int) * (2 : Int) ^ ((n : Int).toNat) - 1).toNat (s : Int).toNat : Nat) : Int)) = decide (t = andN m s) := by
  rw [hsm]
  show decide ((t : Int) = ((andN m s : Nat) : Int)) = _
  simp only [decide_eq_decide]; omega
 refine FnM.of_body tys_ok Try.func32 (by rfl) rfl Try.ntmps32 (by rw [Try.results32]) (by simp) ?_
 repeat' (first
 | refine W.seq ?_
 | refine W.block ?_
 | (refine W.region tys_ok [] ?_; conv => whnf)
 | (refine W.drawAll tys_ok [] mixed rfl ?_; conv => whnf)
 | (refine W.ret ?_; conv => whnf)
 | (refine W.skip ?_; conv => whnf)
 | (refine W.exit ?_; conv => whnf)
 | (refine call_at (al := false) (c1) rfl rfl rfl rfl ?_; conv => whnf)
 | (refine W.cond rfl (fun hb => ?_) (fun hb => ?_) <;> (try simp only [zr, zd, zm, minL, maxL, pickB, zA] at hb) <;> (try (first | (cases hb; done) | exact absurd hb (by decide) | (exfalso; omega) | (omega))))
 | ((with_reducible refine And.intro ?_ ?_); exact zc; conv => whnf)
 | ((with_reducible refine And.intro (Side.out ?_) ?_); rotate_left; (conv => whnf))
 | ((first | refine retM1 ?_ | refine retM2 ?_) <;> (conv => whnf) <;> repeat' (first
 | exact trivial
 | (with_reducible rfl)
 | ((with_reducible refine And.intro ?_ ?_) <;> conv => whnf)
 | omega
 | rfl
 | (refine congrArg (SV.arr _) ?_)
 | (refine congrArg (Value.int _) ?_)
 | (refine congrArg Value.bool ?_)))); all_goals (try unfold Side)
 all_goals try (repeat' (first | exact zb | with_reducible refine And.intro ?_ ?_))
 all_goals first | exact Path.imp_of q1 | exact Path.imp_of q2 | exact Path.imp_of q3 | exact e1 | skip
set_option maxHeartbeats 4000000 in
theorem allSt_m {B F : List Nat} {n : Nat} (h : DS B n) (hn1 : 1 ≤ n) (hn : n ≤ 12) :
  FnM Try.prog 31 [.st true (.sadr (.agg [I64 n, .arr (.int .u16) (zN B : List Int), .arr (.int .u16) (zN F : List Int)])), .fn 32 [.padr 1000000000 0]] [(1000000000, .box1 (.st true (.sadr (.agg [I64 n, .arr (.int .u16) (zN B : List Int), .arr (.int .u16) (zN F : List Int)]))))] (.st true (.arr (.int .u16) (zN (alL (stB B n) (2 ^ n)) : List Int))) [(1000000000, .box1 (.st true (.sadr (.agg [I64 n, .arr (.int .u16) (zN B : List Int), .arr (.int .u16) (zN F : List Int)]))))] := by
 have h2 := two12 hn
 obtain ⟨N, hN⟩ : ∃ N, N = 2 ^ n := ⟨_, rfl⟩
 have hsh : (1 : Int) * (2 : Int) ^ ((n : Int).toNat) = (N : Int) := by rw [shl_val, hN]
 have q1 : 0 ≤ (n : Int) ∧ (n : Int).toNat ≤ IntKind.i64.bits ∧ InK .i64 ((1 : Int) * (2 : Int) ^ ((n : Int).toNat)) := ⟨by omega, by show (n : Int).toNat ≤ 64; omega, by rw [hsh]; exact ⟨by omega, by omega⟩⟩
 rw [← hN]
 refine FnM.of_body tys_ok Try.func31 (by rfl) rfl Try.ntmps31 (by rw [Try.results31]) (by simp) ?_
 repeat' (first
 | refine W.seq ?_
 | refine W.block ?_
 | (refine W.region tys_ok [] ?_; conv => whnf)
 | (refine W.drawAll tys_ok [] mixed rfl ?_; conv => whnf)
 | (refine W.ret ?_; conv => whnf)
 | (refine W.skip ?_; conv => whnf)
 | (refine W.exit ?_; conv => whnf)
 | (refine W.cond rfl (fun hb => ?_) (fun hb => ?_) <;> (try simp only [zr, zd, zm, minL, maxL, pickB, zA] at hb) <;> (try (first | (cases hb; done) | exact absurd hb (by decide) | (exfalso; omega) | (omega))))
 | ((with_reducible refine And.intro ?_ ?_); exact zc; conv => whnf)
 | ((with_reducible refine And.intro (Side.out ?_) ?_); rotate_left; (conv => whnf))
 | ((first | refine retM1 ?_ | refine retM2 ?_) <;> (conv => whnf) <;> repeat' (first
 | exact trivial
 | (with_reducible rfl)
 | ((with_reducible refine And.intro ?_ ?_) <;> conv => whnf)
 | omega
 | rfl
 | (refine congrArg (SV.arr _) ?_)
 | (refine congrArg (Value.int _) ?_)
 | (refine congrArg Value.bool ?_)))); all_goals (try unfold Side)
 all_goals try (repeat' (first | exact zb | with_reducible refine And.intro ?_ ?_))
 all_goals first | exact Path.imp_of q1 | skip
 refine W.loop (fun s : Nat => ⟨[(0, .st true (.sadr (.agg [I64 n, .arr (.int .u16) (zN B : List Int), .arr (.int .u16) (zN F : List Int)]))), (1, .fn 32 [.padr 1000000000 0]), (5, .own 5000), (11, (.lit (.int .i64 (N : Int)))), (12, (.lit (.int .i64 (s : Int))))], [(5000, .row 79 (.int .u16) true (zN (alL (stB B n) s) : List Int)), (1000000000, .box1 (.st true (.sadr (.agg [I64 n, .arr (.int .u16) (zN B : List Int), .arr (.int .u16) (zN F : List Int)]))))]⟩) (fun s => s ≤ N) (fun s => N - s) (0) ?_ ?_
 · refine ⟨Nat.zero_le _, ?_⟩
   refine subF.ok ?_ <;> (conv => whnf) <;> repeat' (first
 | exact trivial
 | (with_reducible rfl)
 | ((with_reducible refine And.intro ?_ ?_) <;> conv => whnf)
 | omega
 | rfl
 | (refine congrArg (SV.arr _) ?_)
 | (refine congrArg (Value.int _) ?_)
 | (refine congrArg Value.bool ?_))
   all_goals first | exact hsh | skip
 · intro s hs
   by_cases hsN : s < N
   · have c1 := stIn_m (F := F) h hn1 hn (s := s) (by omega)
     have q2 := inU (x := s) (by omega)
     have hll : (zN (alL (stB B n) s)).length ≤ s := by rw [zN_len]; exact alL_len
     have hap := zN_app (a := alL (stB B n) s) (j := s)
     cases hb1 : stB B n s with
     | true =>
      rw [hb1] at c1
      have hst := alL_yes hb1
      repeat' (first
 | refine W.seq ?_
 | refine W.block ?_
 | (refine W.regionM (id := 5) tys_ok [] [3] ?_; conv => whnf)
 | (refine W.region tys_ok [] ?_; conv => whnf)
 | (refine W.drawAll tys_ok [] mixed rfl ?_; conv => whnf)
 | (refine W.ret ?_; conv => whnf)
 | (refine W.skip ?_; conv => whnf)
 | (refine W.exit ?_; conv => whnf)
 | (refine callM_at (c1) ?_; conv => whnf)
 | (refine W.cond rfl (fun hb => ?_) (fun hb => ?_) <;> (try simp only [zr, zd, zm, minL, maxL, pickB, zA] at hb) <;> (try (first | (cases hb; done) | exact absurd hb (by decide) | (exfalso; omega) | (omega))))
 | (refine Or.inl (And.intro trivial ?_); (conv => whnf))
 | ((with_reducible refine And.intro ?_ ?_); exact zc; conv => whnf)
 | ((with_reducible refine And.intro (Side.out ?_) ?_); rotate_left; (conv => whnf))
 | ((first | refine retM1 ?_ | refine retM2 ?_) <;> (conv => whnf) <;> repeat' (first
 | exact trivial
 | (with_reducible rfl)
 | ((with_reducible refine And.intro ?_ ?_) <;> conv => whnf)
 | omega
 | rfl
 | (refine congrArg (SV.arr _) ?_)
 | (refine congrArg (Value.int _) ?_)
 | (refine congrArg Value.bool ?_)))); all_goals (try unfold Side)
      all_goals try (repeat' (first | exact zb | with_reducible refine And.intro ?_ ?_))
      all_goals first | (show ((zN (alL (stB B n) s)).length + 1).le 4294967296; exact (by omega : (zN (alL (stB B n) s)).length + 1 ≤ 4294967296)) | skip
      refine ⟨s + 1, ⟨by omega, by omega⟩, ?_⟩
      rw [hst, ← hap]
      refine subF.ok ?_ <;> (conv => whnf) <;> repeat' (first
 | exact trivial
 | (with_reducible rfl)
 | ((with_reducible refine And.intro ?_ ?_) <;> conv => whnf)
 | omega
 | rfl
 | (refine congrArg (SV.arr _) ?_)
 | (refine congrArg (Value.int _) ?_)
 | (refine congrArg Value.bool ?_))
     | false =>
      rw [hb1] at c1
      have hst := alL_no hb1
      repeat' (first
 | refine W.seq ?_
 | refine W.block ?_
 | (refine W.regionM (id := 5) tys_ok [] [3] ?_; conv => whnf)
 | (refine W.region tys_ok [] ?_; conv => whnf)
 | (refine W.drawAll tys_ok [] mixed rfl ?_; conv => whnf)
 | (refine W.ret ?_; conv => whnf)
 | (refine W.skip ?_; conv => whnf)
 | (refine W.exit ?_; conv => whnf)
 | (refine callM_at (c1) ?_; conv => whnf)
 | (refine W.cond rfl (fun hb => ?_) (fun hb => ?_) <;> (try simp only [zr, zd, zm, minL, maxL, pickB, zA] at hb) <;> (try (first | (cases hb; done) | exact absurd hb (by decide) | (exfalso; omega) | (omega))))
 | (refine Or.inl (And.intro trivial ?_); (conv => whnf))
 | ((with_reducible refine And.intro ?_ ?_); exact zc; conv => whnf)
 | ((with_reducible refine And.intro (Side.out ?_) ?_); rotate_left; (conv => whnf))
 | ((first | refine retM1 ?_ | refine retM2 ?_) <;> (conv => whnf) <;> repeat' (first
 | exact trivial
 | (with_reducible rfl)
 | ((with_reducible refine And.intro ?_ ?_) <;> conv => whnf)
 | omega
 | rfl
 | (refine congrArg (SV.arr _) ?_)
 | (refine congrArg (Value.int _) ?_)
 | (refine congrArg Value.bool ?_)))); all_goals (try unfold Side)
      all_goals try (repeat' (first | exact zb | with_reducible refine And.intro ?_ ?_))
      refine ⟨s + 1, ⟨by omega, by omega⟩, ?_⟩
      rw [hst]
      refine subF.ok ?_ <;> (conv => whnf) <;> repeat' (first
 | exact trivial
 | (with_reducible rfl)
 | ((with_reducible refine And.intro ?_ ?_) <;> conv => whnf)
 | omega
 | rfl
 | (refine congrArg (SV.arr _) ?_)
 | (refine congrArg (Value.int _) ?_)
 | (refine congrArg Value.bool ?_))
   · have hke : N = s := by omega
     subst hke
     repeat' (first
 | refine W.seq ?_
 | refine W.block ?_
 | (refine W.region tys_ok [] ?_; conv => whnf)
 | (refine W.drawAll tys_ok [] mixed rfl ?_; conv => whnf)
 | (refine W.ret ?_; conv => whnf)
 | (refine W.skip ?_; conv => whnf)
 | (refine W.exit ?_; conv => whnf)
 | (refine W.cond rfl (fun hb => ?_) (fun hb => ?_) <;> (try simp only [zr, zd, zm, minL, maxL, pickB, zA] at hb) <;> (try (first | (cases hb; done) | exact absurd hb (by decide) | (exfalso; omega) | (omega))))
 | ((with_reducible refine And.intro ?_ ?_); exact zc; conv => whnf)
 | ((with_reducible refine And.intro (Side.out ?_) ?_); rotate_left; (conv => whnf))
 | ((first | refine retM1 ?_ | refine retM2 ?_) <;> (conv => whnf) <;> repeat' (first
 | exact trivial
 | (with_reducible rfl)
 | ((with_reducible refine And.intro ?_ ?_) <;> conv => whnf)
 | omega
 | rfl
 | (refine congrArg (SV.arr _) ?_)
 | (refine congrArg (Value.int _) ?_)
 | (refine congrArg Value.bool ?_)))); all_goals (try unfold Side)
     all_goals try (repeat' (first | exact zb | with_reducible refine And.intro ?_ ?_))
end Go.Proofs.Ytckmhlpngolbpaa
namespace Go.Vc
def Own1 (Γ : Sy) (g : Nat → Value) (k b : Nat) : Prop := (∃ o, get? Γ.own k = some o) ∧ Blk (g k) b
def Sy.merge (Γ : Sy) (k k2 : Nat) (o' : Ob) : Sy := ⟨((Γ.only k).drop k2).tmps, (k, o') :: ((Γ.only k).drop k2).own⟩
theorem St.merge {c : Cx} {Γ : Sy} {g : Nat → Value} {a : Act} {w w' : World} (h : St c Γ g a w) {k k2 : Nat} {o' : Ob} {v' : Value} (hlow : k % PK2 < PK)
  (h1 : w'.os = w.os) (h2 : w'.tape = w.tape) (h3 : w'.output = w.output) (h4 : w.heap.size ≤ w'.heap.size) (hw : ∀ b, b < w.heap.size → ¬ Own1 Γ g k b → w'.heap[b]? = w.heap[b]?)
  (hv : ∀ b, Blk v' b → Own1 Γ g k b ∨ Own1 Γ g k2 b ∨ w.heap.size ≤ b)
  (ho : OwnOk w' 0 (Oset (Γ.merge k k2 o').own (updg g k v')) c.O0 (updg g k v') v' o') : St c (Γ.merge k k2 o') (updg g k v') a w' := by
 have hs := h.only k
 have own1 : ∀ j o, get? (Γ.only k).own j = some o → ∃ o0, get? Γ.own j = some o0 ∧ o = o0.purge k := fun j o hj => by
  simp only [Sy.only, get?_mapv] at hj
  obtain ⟨o0, q1, q2⟩ := Option.map_eq_some_iff.1 hj
  exact ⟨o0, q1, q2.symm⟩
 have own1' : ∀ j o, get? Γ.own j = some o → get? (Γ.only k).own j = some (o.purge k) := fun j o hj => by
  simp only [Sy.only, get?_mapv, hj, Option.map_some]
 have own2 : ∀ j o, get? (Γ.merge k k2 o').own j = some o → (j = k ∧ o = o') ∨ (j ≠ k ∧ j ≠ k2 ∧ ∃ o0, get? (Γ.only k).own j = some o0 ∧ o = o0.purge k2) := fun j o hj => by
  simp only [Sy.merge, get?] at hj
  split at hj
  · rename_i hb
    cases hj
    exact .inl ⟨(Nat.eq_of_beq_eq_true hb).symm, rfl⟩
  · rename_i hb
    have hjk : j ≠ k := fun e => by rw [e, Nat.beq_refl] at hb; cases hb
    simp only [Sy.drop, get?_mapv, get?_del] at hj
    split at hj
    · cases hj
    · rename_i hne
      obtain ⟨o0, q1, q2⟩ := Option.map_eq_some_iff.1 hj
      exact .inr ⟨hjk, hne, o0, q1, q2.symm⟩
 have one_set : ∀ j b, Own1 Γ g j b → Oset (Γ.only k).own g b := fun j b hb => by
  obtain ⟨⟨o, q1⟩, q2⟩ := hb
  exact ⟨j, _, own1' j o q1, q2⟩
 have hO : ∀ b, b < w.heap.size → Oset (Γ.merge k k2 o').own (updg g k v') b → Oset (Γ.only k).own g b := by
  rintro b hlt ⟨j, o, q1, q2⟩
  rcases own2 j o q1 with ⟨rfl, rfl⟩ | ⟨hj, _, o0, q3, _⟩
  · simp only [updg, if_true] at q2
    rcases hv b q2 with q | q | q
    · exact one_set _ b q
    · exact one_set _ b q
    · omega
  · simp only [updg, hj, if_false] at q2
    exact ⟨j, o0, q3, q2⟩
 have hmono : ∀ b x e fz, w.heap[b]? = some (.cells x e fz) → ¬ Oset (Γ.only k).own g b → w'.heap[b]? = some (.cells x e fz) ∧ ¬ Oset (Γ.merge k k2 o').own (updg g k v') b := fun b x e fz hb hn =>
  ⟨(hw b (heap_lt hb) fun q => hn (one_set _ b q)).trans hb, fun h' => hn (hO b (heap_lt hb) h')⟩
 refine hs.change ⟨h1.trans hs.keep.os, h2.trans hs.keep.tape, h3.trans hs.keep.output, Nat.le_trans hs.keep.size h4, fun b hb hn => ?_⟩ hmono (fun t A' hA => ?_) ⟨fun j o hj => ?_, fun j j' o1 o2 b hj hj' hb hb' => ?_⟩ (fun b hb => ?_) (fun j hj => ?_)
 · have hlt : b < w.heap.size := Nat.lt_of_lt_of_le hb hs.keep.size
   rw [hw b hlt fun q => ?_]
   · exact hs.keep.b b hb hn
   · rcases hs.low b (one_set _ b q) with q2 | q2
     · omega
     · exact hn q2
 · simp only [Sy.merge, Sy.drop, get?_mapv] at hA
   obtain ⟨A0, q1, rfl⟩ := Option.map_eq_some_iff.1 hA
   rcases AV.purge_key k2 A0 with q | ⟨q, _⟩
   · exact .inl q
   · rw [q]
     refine .inr ⟨q1, fun j hj => ?_⟩
     simp only [Sy.only, get?_mapv] at q1
     obtain ⟨A1, _, rfl⟩ := Option.map_eq_some_iff.1 q1
     rcases AV.purge_key k A1 with p | ⟨p, p2⟩
     · rw [p] at hj; cases hj
     · rw [p] at hj
       unfold updg
       split
       · rename_i e; rw [e, p2] at hj; cases hj
       · rfl
 · rcases own2 j o hj with ⟨rfl, rfl⟩ | ⟨hjk, hj2, o0, q3, rfl⟩
   · simp only [updg, if_true]; exact ho
   · have e : updg g k v' j = g j := by simp only [updg, hjk, if_false]
     rw [e]
     have hok := hs.hp.ok j o0 q3
     refine (hok.mono hmono (fun _ _ _ _ _ _ h => h) (fun b hb => hw b (hok.lt hb).2 fun q => ?_) fun i hi => ?_).purge
     · obtain ⟨⟨oo, p1⟩, p2⟩ := q
       exact hjk (hs.hp.inj j k _ _ b q3 (own1' k oo p1) hb p2)
     · obtain ⟨o00, _, rfl⟩ := own1 j o0 q3
       unfold updg
       split
       · rename_i e; rw [e, Ob.purge_no] at hi; cases hi
       · rfl
 · rcases own2 j o1 hj with ⟨rfl, rfl⟩ | ⟨hjk, hj2, p1, q3, rfl⟩ <;> rcases own2 j' o2 hj' with ⟨rfl, rfl⟩ | ⟨hjk', hj2', p2, q4, rfl⟩
   · rfl
   · simp only [updg, if_true] at hb
     simp only [updg, hjk', if_false] at hb'
     rcases hv b hb with q | q | q
     · obtain ⟨⟨oo, r1⟩, r2⟩ := q
       exact absurd (hs.hp.inj j' _ _ _ b q4 (own1' _ oo r1) hb' r2) hjk'
     · obtain ⟨⟨oo, r1⟩, r2⟩ := q
       exact absurd (hs.hp.inj j' _ _ _ b q4 (own1' _ oo r1) hb' r2) hj2'
     · have := ((hs.hp.ok j' _ q4).lt hb').2
       omega
   · simp only [updg, if_true] at hb'
     simp only [updg, hjk, if_false] at hb
     rcases hv b hb' with q | q | q
     · obtain ⟨⟨oo, r1⟩, r2⟩ := q
       exact absurd (hs.hp.inj j _ _ _ b q3 (own1' _ oo r1) hb r2) hjk
     · obtain ⟨⟨oo, r1⟩, r2⟩ := q
       exact absurd (hs.hp.inj j _ _ _ b q3 (own1' _ oo r1) hb r2) hj2
     · have := ((hs.hp.ok j _ q3).lt hb).2
       omega
   · simp only [updg, hjk, if_false] at hb
     simp only [updg, hjk', if_false] at hb'
     exact hs.hp.inj j j' _ _ b q3 q4 hb hb'
 · by_cases hlt : b < w.heap.size
   · exact .inl (hO b hlt hb)
   · exact .inr (Nat.le_trans hs.keep.size (by omega))
 · unfold updg
   split
   · rename_i e; rw [e] at hj; omega
   · rfl
theorem run_lit1 {P : Program} {t e : TypeId} {te : TE} (hu : P.underlying t = some (.slice e)) (he : te.ok P e) (h1 : te.size = 1) {zv : Value} (hz : te.zero.cells.size = 1) {v : Value} (hv : v.oneCell' = true) (w : World) :
  (Instr.buildSlice t 1 #[(0, v)]).run P w = .ok (.slice (some ⟨w.heap.size, 0, none⟩) 1 1) (w.alloc (.cells #[v] e)) := by
 obtain ⟨i0, hi, hzz, hs, hb⟩ := he.info
 have hsz : i0.size = 1 := by rw [hs]; exact h1
 have hvc : v.cells = #[v] := cells_one hv
 let cells0 : Array Value := (Array.range (1 * i0.size)).map fun k => (if 1 * i0.size = 0 then (#[] : Array Value) else te.zero.cells)[k % (if 1 * i0.size = 0 then (#[] : Array Value) else te.zero.cells).size]!
 have hc0 : cells0.size = 1 := by simp [cells0, hsz]
 obtain ⟨res, hr1, hr2, _, hr3⟩ := fill_seq 1 [v] 0 cells0 (fun u hu => by rw [List.mem_singleton] at hu; rw [hu, hvc]; rfl) (by rw [hc0]; simp)
 have hres : res = #[v] := by
  have q := hr3 0 v 0 rfl (by decide)
  rw [hvc] at q
  have q2 : res[0]? = some v := by simpa using q
  have q3 : res.size = 1 := by rw [hr2, hc0]
  apply Array.ext
  · rw [q3]; rfl
  · intro i h1 h2
    have hi0 : i = 0 := by omega
    subst hi0
    rw [Array.getElem?_eq_getElem h1] at q2
    simpa using q2
 have hfill : Instr.fill (fun i => some (i * i0.size, i0.size)) cells0 (#[((0 : Nat), v)] : Array (Nat × Value)).toList = some res := by rw [hsz]; exact hr1
 have hz0 : ¬ (1 * i0.size = 0) := by rw [hsz]; decide
 have hble : ¬ (1 * i0.size > 2 ^ 24) := by rw [hsz]; decide
 unfold Instr.buildSlice
 simp only [cells0, hz0, if_false] at hfill
 simp only [Sem.run_bind, run_underlying hu, Result.andThen_ok, sizeOf, typeInfo, run_program, hi, Sem.run_pure, hble, hz0, if_false, zeroValue, hzz]
 rw [hfill]
 simp [newRow, hres]
theorem RowOk.nil {w : World} {base e : Nat} {O O0 : Nat → Prop} {τ : Ty} {fr : Bool} : RowOk w base O O0 (.slice none 0 0) e τ fr [] := by
 refine ⟨[], ⟨(Nat.zero_mul _).symm, .inl ⟨rfl, rfl⟩⟩, (fun x hx => by cases hx), fun _ => undef, fun i hi => ?_, fun i x hx => ?_⟩
 · simp at hi
 · simp at hx
def mlitVC (T : List (Nat × TE)) (Γ : Sy) (n : Nat) (d : Nat) (t : TypeId) (k2 D : Nat) (K : Sy → Prop) : Prop := match get? T t with
  | some { kind := .sl e, .. } => match get? T e with
    | some te => match get? (Γ.drop d).own k2 with
      | some (.row e' τ fr xs) => (Nat.beq te.size 1 && Nat.beq te.zero.cells.size 1 && Nat.blt (d % PK2) PK && Nat.blt D n) = true ∧
          K ⟨set ((Γ.drop d).merge d k2 (.mat e e' τ fr [xs] none)).tmps D (.mown d), ((Γ.drop d).merge d k2 (.mat e e' τ fr [xs] none)).own⟩
      | _ => False
    | none => False
  | _ => False
theorem mlitVC.sound {P : Program} {T : List (Nat × TE)} (hT : TOk P T) {c : Cx} {o : Oper} {Γ : Sy} {d : Nat} {t : TypeId} {x : Operand} {k2 D : Nat} {K : Sy → Prop}
    (ho : o.op = .buildSlice t 1 #[(0, x)]) (hd : o.dst = some D) (hx : Ev c Γ [] x (.own k2)) (h : mlitVC T Γ c.n d t k2 D K) : ∃ Γ', Seq P c o Γ Γ' ∧ K Γ' := by
  unfold mlitVC at h
  split at h
  · rename_i e sz by_ ze ty ht
    have hu := (hT _ _ ht).sl rfl
    split at h
    · rename_i te hte
      have he := hT _ _ hte
      split at h
      · rename_i e' τ fr xs hk
        obtain ⟨hc, hK⟩ := h
        simp only [Bool.and_eq_true] at hc
        obtain ⟨⟨⟨c1, c2⟩, c3⟩, c4⟩ := hc
        refine ⟨_, ?_, hK⟩
        intro g a w next Q hst hkk
        have hv : a.eval x = g k2 := hx trivial Γ g a w rfl hst
        have hs1 := hst.drop d
        have hrow := hs1.hp.ok k2 _ hk
        have hone : (g k2).oneCell' = true := by
          obtain ⟨zs, ⟨_, hr⟩, _⟩ := hrow
          rcases hr with ⟨q, _⟩ | ⟨b, cap, cur, q, _⟩ <;> rw [q] <;> rfl
        have hrun := run_lit1 (P := P) hu he (Nat.eq_of_beq_eq_true c1) (zv := te.zero) (Nat.eq_of_beq_eq_true c2) hone w
        obtain ⟨v', hv'⟩ : ∃ v', v' = Value.tuple #[.slice (some ⟨w.heap.size, 0, none⟩) 1 1, g k2] := ⟨_, rfl⟩
        have hhd : Go.Vc.hd v' = .slice (some ⟨w.heap.size, 0, none⟩) 1 1 := by rw [hv']; rfl
        have hs0 : sub v' 0 = g k2 := by rw [hv']; rfl
        have hsn : ∀ i, i ≠ 0 → sub v' i = .slice none 0 0 := fun i hi => by
          rw [hv']
          show Array.getD _ (i + 1) _ = _
          rw [Array.getD_eq_getD_getElem?, Array.getElem?_eq_none (by simp; omega)]; rfl
        have hdk : k2 ≠ d := fun e => by
          rw [e] at hk
          have := (Γ.drop_free d (Nat.le_of_ble_eq_true c3)).2.2.1
          rw [this] at hk; cases hk
        have hbb : ∀ b, Blk v' b → b = w.heap.size ∨ Blk (g k2) b := by
          rintro b (q | ⟨i, q⟩)
          · rw [hhd] at q; cases q; exact .inl rfl
          · by_cases hi : i = 0
            · rw [hi, hs0] at q; exact .inr (.of q)
            · rw [hsn i hi] at q; cases q
        have hO : ∀ b, b < w.heap.size → Oset ((Γ.drop d).merge d k2 (.mat e e' τ fr [xs] none)).own (updg g d v') b → Oset (Γ.drop d).own g b := by
          rintro b hlt ⟨j, o', q1, q2⟩
          simp only [Sy.merge, get?] at q1
          split at q1
          · rename_i hb
            have hb := Nat.eq_of_beq_eq_true hb
            subst hb
            simp only [updg, if_true] at q2
            rcases hbb b q2 with q | q
            · omega
            · exact ⟨k2, _, hk, q⟩
          · rename_i hb
            have hjd : j ≠ d := fun e => by rw [e, Nat.beq_refl] at hb; cases hb
            simp only [updg, hjd, if_false] at q2
            simp only [Sy.drop, get?_mapv, get?_del] at q1
            split at q1
            · cases q1
            · obtain ⟨o0, q3, _⟩ := Option.map_eq_some_iff.1 q1
              simp only [Sy.only, get?_mapv] at q3
              obtain ⟨o1, q4, _⟩ := Option.map_eq_some_iff.1 q3
              refine ⟨j, o1, ?_, q2⟩
              simp only [Sy.drop, get?_mapv, get?_del] at q4 ⊢
              exact q4
        have key := hs1.merge (w' := w.alloc (.cells #[g k2] e)) (k := d) (k2 := k2) (o' := .mat e e' τ fr [xs] none) (v' := v') (Nat.le_of_ble_eq_true c3) rfl rfl rfl (Keep.alloc w _).size (fun b hb _ => (Keep.alloc w _).b b hb) (fun b hb => by
            rcases hbb b hb with q | q
            · exact .inr (.inr (by omega))
            · exact .inr (.inl ⟨⟨_, hk⟩, q⟩)) ?_
        · unfold Oper.wp
          have hex : (execOp a.eval o).run P w = .ok (.value (.slice (some ⟨w.heap.size, 0, none⟩) 1 1)) (w.alloc (.cells #[g k2] e)) := by
            rw [← hv] at hrun
            simp only [execOp, ho, Sem.run_bind]
            have : ((#[(0, x)] : Array (Nat × Operand)).map fun (i, x) => (i, a.eval x)) = #[(0, a.eval x)] := by simp
            rw [this, hrun]
            rw [hv]; rfl
          rw [hex]
          refine hkk (updg g d v') (a.put o.dst (.slice (some ⟨w.heap.size, 0, none⟩) 1 1)) _ ?_
          rw [hd]
          exact key.put (t := D) (A := .mown d) (Nat.le_of_ble_eq_true c4) (show _ = Go.Vc.hd (updg g d v' d) by simp [updg, hhd])
        · have hmono : ∀ b x e0 fz, w.heap[b]? = some (.cells x e0 fz) → ¬ Oset (Γ.drop d).own g b → (w.alloc (.cells #[g k2] e)).heap[b]? = some (.cells x e0 fz) ∧ ¬ Oset ((Γ.drop d).merge d k2 (.mat e e' τ fr [xs] none)).own (updg g d v') b := fun b x e0 fz hb hn =>
            ⟨((Keep.alloc w _).b b (heap_lt hb)).trans hb, fun h' => hn (hO b (heap_lt hb) h')⟩
          refine ⟨⟨[g k2], ?_, fun x hx => by rw [List.mem_singleton] at hx; rw [hx]; exact hone, fun i hi _ => ?_⟩, fun i => ?_, fun i j b q1 q2 => ?_, fun i b q1 q2 => ?_⟩
          · rw [hhd]
            refine ⟨rfl, .inr ⟨w.heap.size, 1, #[g k2], rfl, Nat.zero_le _, heap_alloc_new w _, Nat.le_refl _, by unfold maxLen; omega, rfl, rfl⟩⟩
          · have hi0 : i = 0 := by have hi : i < 1 := hi; omega
            subst hi0
            rw [hs0]; rfl
          · by_cases hi : i = 0
            · subst hi
              rw [hs0]
              exact RowOk.mono hmono (fun _ _ _ _ _ _ h => h) (fun b hb => (Keep.alloc w _).b b ((hs1.hp.ok k2 _ hk).lt (.of hb)).2) hrow
            · rw [hsn i hi]
              have : ([xs] : List (List τ.T)).getD i [] = [] := by
                cases i with
                | zero => exact absurd rfl hi
                | succ i => rfl
              rw [this]
              exact RowOk.nil
          · by_cases hi : i = 0
            · by_cases hj : j = 0
              · rw [hi, hj]
              · rw [hsn j hj] at q2; cases q2
            · rw [hsn i hi] at q1; cases q1
          · rw [hhd] at q2
            cases q2
            by_cases hi : i = 0
            · rw [hi, hs0] at q1
              exact absurd (OwnOk.lt hrow (.of q1)).2 (Nat.lt_irrefl _)
            · rw [hsn i hi] at q1; cases q1
      · exact h.elim
    · exact h.elim
  · exact h.elim
theorem merge_set {Γ : Sy} {g : Nat → Value} {w : World} {k k2 : Nat} {o' : Ob} {v' : Value} (hv : ∀ b, Blk v' b → Own1 Γ g k b ∨ Own1 Γ g k2 b ∨ w.heap.size ≤ b) {b : Nat} (hlt : b < w.heap.size)
  (h : Oset (Γ.merge k k2 o').own (updg g k v') b) : Oset Γ.own g b := by
 obtain ⟨j, o, q1, q2⟩ := h
 simp only [Sy.merge, get?] at q1
 split at q1
 · rename_i hb
   have hb := Nat.eq_of_beq_eq_true hb
   subst hb
   simp only [updg, if_true] at q2
   rcases hv b q2 with q | q | q
   · obtain ⟨⟨oo, r1⟩, r2⟩ := q; exact ⟨_, oo, r1, r2⟩
   · obtain ⟨⟨oo, r1⟩, r2⟩ := q; exact ⟨_, oo, r1, r2⟩
   · omega
 · rename_i hb
   have hjk : j ≠ k := fun e => by rw [e, Nat.beq_refl] at hb; cases hb
   simp only [updg, hjk, if_false] at q2
   simp only [Sy.drop, get?_mapv, get?_del] at q1
   split at q1
   · cases q1
   · obtain ⟨o0, q3, _⟩ := Option.map_eq_some_iff.1 q1
     simp only [Sy.only, get?_mapv] at q3
     obtain ⟨o1, q4, _⟩ := Option.map_eq_some_iff.1 q3
     exact ⟨j, o1, q4, q2⟩
theorem mkTup (v1 : Value) (n : Nat) (f : Nat → Value) : ∃ v', Go.Vc.hd v' = v1 ∧ (∀ i, i < n → sub v' i = f i) ∧ ∀ i, n ≤ i → sub v' i = .slice none 0 0 := by
 refine ⟨.tuple (#[v1] ++ (Array.range n).map f), ?_, fun i hi => ?_, fun i hi => ?_⟩
 · have h1 : ∀ (x : Value) (l : Array Value), Go.Vc.hd (.tuple (#[x] ++ l)) = x := fun x l => by
    simp [Go.Vc.hd, Array.getD_eq_getD_getElem?, Array.getElem?_append]
   exact h1 _ _
 · simp [sub, Array.getD_eq_getD_getElem?, Array.getElem?_append, hi]
 · show Array.getD _ (i + 1) _ = _
   rw [Array.getD_eq_getD_getElem?, Array.getElem?_append_right (by simp)]
   simp only [List.size_toArray, List.length_cons, List.length_nil, Nat.zero_add, Nat.add_sub_cancel, Array.getElem?_map]
   rw [Array.getElem?_eq_none (by simp; omega)]
   rfl
def matSrc (own : List (Nat × Ob)) (τ : Ty) (k2 : Nat) : Option (Nat × Nat × List (List τ.T)) := match get? own k2 with
 | some (.mat e e' τ' true ys none) => match decEq τ' τ with
  | isTrue h => some (e, e', h ▸ ys)
  | isFalse _ => none
 | _ => none
theorem matSrc_ok {own : List (Nat × Ob)} {τ : Ty} {k2 e e' : Nat} {ys : List (List τ.T)} (h : matSrc own τ k2 = some (e, e', ys)) : get? own k2 = some (.mat e e' τ true ys none) := by
 unfold matSrc at h
 split at h
 · rename_i hk
   split at h
   · rename_i hh _
     subst hh
     simp at h
     obtain ⟨rfl, rfl, rfl⟩ := h
     exact hk
   · cases h
 · cases h
def mappVC (T : List (Nat × TE)) (Γ : Sy) (n : Nat) (t : TypeId) (k k2 D : Nat) (K : Sy → Prop) : Prop := match get? T t with
  | some { kind := .sl e, .. } => match get? T e with
    | some { ty := some (.sl _), size := sz, .. } => match get? Γ.own k with
      | some (.mat e1 e2 τ true xs none) => match matSrc Γ.own τ k2 with
        | some (e3, e4, ys) => ((e1 = e ∧ e3 = e ∧ e4 = e2) ∧ (Nat.beq sz 1 && Nat.blt (k % PK2) PK && Nat.blt D n && !Nat.beq k k2) = true ∧ 0 < ys.length ∧ xs.length + ys.length ≤ 4294967296) ∧
            K ⟨set (Γ.merge k k2 (.mat e e2 τ true (xs ++ ys) none)).tmps D (.mown k), (Γ.merge k k2 (.mat e e2 τ true (xs ++ ys) none)).own⟩
        | none => False
      | _ => False
    | _ => False
  | _ => False
theorem mappVC.sound {P : Program} {T : List (Nat × TE)} (hT : TOk P T) {c : Cx} {o : Oper} {Γ : Sy} {t : TypeId} {s x : Operand} {k k2 D : Nat} {K : Sy → Prop}
  (ho : o.op = .call { callee := .builtin .append, args := #[s, x], argTypes := #[t, t] }) (hd : o.dst = some D) (hs : Ev c Γ [] s (.mown k)) (hx : Ev c Γ [] x (.mown k2)) (h : mappVC T Γ c.n t k k2 D K) : ∃ Γ', Seq P c o Γ Γ' ∧ K Γ' := by
 unfold mappVC at h
 split at h
 · rename_i e sz0 by_ ze ty ht
   have hu := (hT _ _ ht).sl rfl
   split at h
   · rename_i kk0 sz be zz τ0 hte
     have he := hT _ _ hte
     split at h
     · rename_i e1 e2 τ xs hk
       split at h
       · rename_i e3 e4 ys hsrc
         obtain ⟨⟨⟨rfl, rfl, rfl⟩, hc, hy0, hlen⟩, hK⟩ := h
         simp only [Bool.and_eq_true, Bool.not_eq_true'] at hc
         obtain ⟨⟨⟨c1, c2⟩, c3⟩, c4⟩ := hc
         have hkk : k ≠ k2 := fun e => by rw [e, Nat.beq_refl] at c4; cases c4
         have hk2 := matSrc_ok hsrc
         refine ⟨_, ?_, hK⟩
         intro g a w next Q hst hkn
         have hA : a.eval s = Go.Vc.hd (g k) := hs trivial Γ g a w rfl hst
         have hB : a.eval x = Go.Vc.hd (g k2) := hx trivial Γ g a w rfl hst
         obtain ⟨⟨cells, o1, o2, o3⟩, oin, odist, odo⟩ := hst.hp.ok k _ hk
         obtain ⟨⟨cells2, p1, p2, p3⟩, pin, pdist, pdo⟩ := hst.hp.ok k2 _ hk2
         obtain ⟨i0, hi0, hz0, hsz0, hb0⟩ := he.info
         obtain ⟨q1, q2, q3, q4, q5, q6⟩ := he.2.2.1 _ rfl
         dsimp only at q1 q2 q5 hz0 hsz0 hb0
         have hsz1 : sz = 1 := Nat.eq_of_beq_eq_true c1
         rcases p1.2 with ⟨_, p5⟩ | ⟨b2, cap2, cur2, p5, p6, p7, p8, p9, p10, p11⟩
         · omega
         have hl2 : cells2.length = ys.length := by rw [p1.1, Nat.mul_one]
         have hl1 : cells.length = xs.length := by rw [o1.1, Nat.mul_one]
         have hnews : ∀ j u, cells2[j]? = some u → w.cell? ((⟨b2, 0, none⟩ : Addr).add j) = some u := fun j u hj => by
          rw [Addr.add_lit, Nat.zero_add, cell_of_row w b2 j cur2 e3 (0, 0) p7]
          rw [← p11, List.getElem?_take] at hj
          split at hj
          · simpa using hj
          · cases hj
         have hzs : zz.cells.size = 1 := by
          have : zz.cells.toList.length = [Value.slice none 0 0].length := congrArg List.length q1
          simpa using this
         obtain ⟨v1, w', r1, r2, r3, r4⟩ := run_append_blk (P := P) w 0 t o.type e3 i0 zz 1 be hu hi0 hz0 (by rw [hsz0]; exact hsz1) hb0 hzs (by decide) (Go.Vc.hd (g k)) xs.length cells o1 ⟨b2, 0, none⟩ ys.length cap2 cells2 (by rw [hl2, Nat.mul_one]) hnews p2 (by unfold maxLen; omega) (by
          have : (xs.length + ys.length) * be ≤ 4294967296 * 4096 := Nat.mul_le_mul hlen q5
          omega) (Nat.zero_le _)
         obtain ⟨v', t1, t2, t3⟩ := mkTup v1 (xs.length + ys.length) fun i => if i < xs.length then sub (g k) i else sub (g k2) (i - xs.length)
         have ta : ∀ i, i < xs.length → sub v' i = sub (g k) i := fun i hi => by rw [t2 i (by omega), if_pos hi]
         have tb : ∀ i, ¬ i < xs.length → i < xs.length + ys.length → sub v' i = sub (g k2) (i - xs.length) := fun i hi hi2 => by rw [t2 i hi2, if_neg hi]
         have hown1 : Own1 Γ g k = Blk (g k) := funext fun b => propext ⟨fun q => q.2, fun q => ⟨⟨_, hk⟩, q⟩⟩
         have hown2 : Own1 Γ g k2 = Blk (g k2) := funext fun b => propext ⟨fun q => q.2, fun q => ⟨⟨_, hk2⟩, q⟩⟩
         have hv : ∀ b, Blk v' b → Own1 Γ g k b ∨ Own1 Γ g k2 b ∨ w.heap.size ≤ b := by
          rw [hown1, hown2]
          rintro b (u | ⟨i, u⟩)
          · rw [t1] at u
            rcases r4 b u with u2 | u2
            · exact .inl (.inl u2)
            · exact .inr (.inr u2)
          · by_cases hi : i < xs.length
            · rw [ta i hi] at u; exact .inl (.inr ⟨i, u⟩)
            · by_cases hi2 : i < xs.length + ys.length
              · rw [tb i hi hi2] at u; exact .inr (.inl (.inr ⟨_, u⟩))
              · rw [t3 i (by omega)] at u; cases u
         have hmono : ∀ b x e0 fz, w.heap[b]? = some (.cells x e0 fz) → ¬ Oset Γ.own g b → w'.heap[b]? = some (.cells x e0 fz) ∧ ¬ Oset (Γ.merge k k2 (.mat e3 e4 τ true (xs ++ ys) none)).own (updg g k v') b := fun b x e0 fz hb hn =>
          ⟨(r3.block b (heap_lt hb) fun u => hn ⟨k, _, hk, .inl u.symm⟩).trans hb, fun h' => hn (merge_set hv (heap_lt hb) h')⟩
         have apart : ∀ b, Blk (g k) b → Blk (g k2) b → False := fun b u1 u2 => hkk (hst.hp.inj k k2 _ _ b hk hk2 u1 u2)
         have key := hst.merge (w' := w') (k := k) (k2 := k2) (o' := .mat e3 e4 τ true (xs ++ ys) none) (v' := v') (Nat.le_of_ble_eq_true c2) r3.os r3.tape r3.output r3.size (fun b hb hn => r3.block b hb fun u => hn ⟨⟨_, hk⟩, .inl u.symm⟩) hv ?_
         · unfold Oper.wp
           have hrun : (execOp a.eval o).run P w = .ok (.value v1) w' := by
            rw [← hA, ← p5, ← hB] at r1
            simp [execOp, ho, resolve, invoke, builtin, r1]
           rw [hrun]
           refine hkn (updg g k v') (a.put o.dst v1) w' ?_
           rw [hd]
           exact key.put (t := D) (A := .mown k) (Nat.le_of_ble_eq_true c3) (show v1 = Go.Vc.hd (updg g k v' k) by simp [updg, t1])
         · refine ⟨⟨cells ++ cells2, ?_, fun u hu => (List.mem_append.1 hu).elim (o2 u) (p2 u), fun i hi _ => ?_⟩, fun i => ?_, fun i j b u1 u2 => ?_, fun i b u1 u2 => ?_⟩
           · rw [t1, List.length_append]; exact r2
           · rw [List.length_append] at hi
             by_cases h1 : i < xs.length
             · rw [ta i h1, List.getElem?_append_left (by omega)]; exact o3 i h1 (by simp)
             · rw [tb i h1 hi, List.getElem?_append_right (by omega), hl1]; exact p3 (i - xs.length) (by omega) (by simp)
           · by_cases h1 : i < xs.length
             · rw [ta i h1]
               have e0 : (xs ++ ys).getD i [] = xs.getD i [] := by
                rw [List.getD_eq_getElem?_getD, List.getElem?_append_left h1, List.getD_eq_getElem?_getD]
               rw [e0]
               refine RowOk.mono hmono (fun _ _ _ _ _ _ h => h) (fun b u => ?_) (oin i)
               obtain ⟨zs, hz, _⟩ := oin i
               exact r3.block b (ownsRow_lt hz u).2 fun u2 => odo i b u u2.symm
             · by_cases h2 : i < xs.length + ys.length
               · rw [tb i h1 h2]
                 have e0 : (xs ++ ys).getD i [] = ys.getD (i - xs.length) [] := by
                  rw [List.getD_eq_getElem?_getD, List.getElem?_append_right (by omega), List.getD_eq_getElem?_getD]
                 rw [e0]
                 refine RowOk.mono hmono (fun _ _ _ _ _ _ h => h) (fun b u => ?_) (pin (i - xs.length))
                 obtain ⟨zs, hz, _⟩ := pin (i - xs.length)
                 exact r3.block b (ownsRow_lt hz u).2 fun u2 => apart b (.inl u2.symm) (.inr ⟨_, u⟩)
               · rw [t3 i (by omega)]
                 have e0 : (xs ++ ys).getD i [] = [] := by
                  rw [List.getD_eq_getElem?_getD, List.getElem?_eq_none (by rw [List.length_append]; omega)]; rfl
                 rw [e0]
                 exact RowOk.nil
           · by_cases i1 : i < xs.length
             · rw [ta i i1] at u1
               by_cases j1 : j < xs.length
               · rw [ta j j1] at u2; exact odist i j b u1 u2
               · by_cases j2 : j < xs.length + ys.length
                 · rw [tb j j1 j2] at u2; exact (apart b (.inr ⟨_, u1⟩) (.inr ⟨_, u2⟩)).elim
                 · rw [t3 j (by omega)] at u2; cases u2
             · by_cases i2 : i < xs.length + ys.length
               · rw [tb i i1 i2] at u1
                 by_cases j1 : j < xs.length
                 · rw [ta j j1] at u2; exact (apart b (.inr ⟨_, u2⟩) (.inr ⟨_, u1⟩)).elim
                 · by_cases j2 : j < xs.length + ys.length
                   · rw [tb j j1 j2] at u2
                     have := pdist _ _ b u1 u2
                     omega
                   · rw [t3 j (by omega)] at u2; cases u2
               · rw [t3 i (by omega)] at u1; cases u1
           · rw [t1] at u2
             have hlt : ∀ b, blk (sub v' i) = some b → b < w.heap.size := fun b u => by
              by_cases i1 : i < xs.length
              · rw [ta i i1] at u
                obtain ⟨zs, hz, _⟩ := oin i
                exact (ownsRow_lt hz u).2
              · by_cases i2 : i < xs.length + ys.length
                · rw [tb i i1 i2] at u
                  obtain ⟨zs, hz, _⟩ := pin (i - xs.length)
                  exact (ownsRow_lt hz u).2
                · rw [t3 i (by omega)] at u; cases u
             have hb := hlt b u1
             rcases r4 b u2 with u3 | u3
             · by_cases i1 : i < xs.length
               · rw [ta i i1] at u1; exact odo i b u1 u3
               · by_cases i2 : i < xs.length + ys.length
                 · rw [tb i i1 i2] at u1; exact apart b (.inl u3) (.inr ⟨_, u1⟩)
                 · rw [t3 i (by omega)] at u1; cases u1
             · omega
       · exact h.elim
     · exact h.elim
   · exact h.elim
 · exact h.elim
def stepZ (P : Program) (T : List (Nat × TE)) (F Ms : List Nat) (n : Nat) (ops : Array Oper) (i : Nat) (o : Oper) (Γ : Sy) (K : Sy → Prop) : Prop := match memN (i + 1000) Ms with
 | true => match o.guard, o.dst with
  | none, some D => match o.op with
   | .buildSlice t len parts => match len, parts.toList with
    | 1, [(0, x)] => withOp Γ [] x fun A => match A with
     | .own k2 => mlitVC T Γ n (1000 * (D + 1)) t k2 D K
     | _ => False
    | _, _ => False
   | .call cl => match cl.callee, cl.args.toList, cl.argTypes.toList with
    | .builtin .append, [s, x], [t, t'] => withOp Γ [] s fun A => withOp Γ [] x fun B => match A, B with
     | .mown k, .mown k2 => t = t' ∧ mappVC T Γ n t k k2 D K
     | _, _ => False
    | _, _, _ => False
   | _ => False
  | _, _ => False
 | false => stepVC P T F Ms n ops i o Γ K
theorem stepZ_sound {P : Program} {T : List (Nat × TE)} {F Ms : List Nat} (hT : TOk P T) {c : Cx} {ops : Array Oper} {K : Sy → Prop} {i : Nat} {o : Oper} {Γ : Sy} (hoi : ops[i]? = some o) (h : stepZ P T F Ms c.n ops i o Γ K) :
  ∃ Γ', StepOk P c ops i Γ Γ' ∧ K Γ' := by
 unfold stepZ at h
 split at h
 · split at h
   · rename_i D hg hd
     have fin : (∃ Γ', Seq P c o Γ Γ' ∧ K Γ') → ∃ Γ', StepOk P c ops i Γ Γ' ∧ K Γ' := by
      rintro ⟨Γ', h6, h7⟩
      refine ⟨Γ', ?_, h7⟩
      intro Q g a w K' hst hK
      unfold wpOp
      rw [hoi]
      dsimp only
      rw [if_pos ((guardOf.wanted (ops := ops) (G := []) hst (by rw [hg]; rfl)).2 trivial)]
      exact .inl (h6 g a w _ _ hst hK)
     split at h
     · rename_i t len parts hop
       split at h
       · rename_i x hp
         obtain ⟨A, hA, h6⟩ := withOp.ev (c := c) h
         split at h6
         · exact fin (mlitVC.sound hT (by rw [hop, arr_of_one hp]) hd hA h6)
         · exact h6.elim
       · exact h.elim
     · rename_i cl hop
       split at h
       · rename_i s x t t' hcl hargs htys
         obtain ⟨A, hA, h6⟩ := withOp.ev (c := c) h
         obtain ⟨B, hB, h7⟩ := withOp.ev (c := c) h6
         split at h7
         · obtain ⟨rfl, h8⟩ := h7
           exact fin (mappVC.sound hT (by rw [hop]; cases cl; dsimp only at hcl hargs htys ⊢; rw [hcl, arr_of_list2 hargs, arr_of_list2 htys]) hd hA hB h8)
         · exact h7.elim
       · exact h.elim
     · exact h.elim
   · exact h.elim
 · exact step_sound hT hoi h
theorem floatsS {P : Program} {T : List (Nat × TE)} (hT : TOk P T) {c : Cx} {ops : Array Oper} (hs : Region.noSelect ops = true) {Q : Exit → Act → World → Prop} (hQ : ∀ x a w, ¬ Q (.panic x) a w) {K : Sy → Prop} {g : Nat → Value} {w : World} {own : List (Nat × Ob)} (hfull : c.full w (Oset own g)) {S : World → Prop} (hS : ∀ w, S w → c.S w) (hSw : S w) :
  ∀ (L : List Nat) (listed : Array Bool) (Γ : Sy) (a : Act) (fuel : Nat), Γ.own = own → floatOk ops L listed = true → floatVC T c.n ops L Γ K → St c Γ g a w →
    (∀ Γ' a', Γ'.own = own → K Γ' → St c Γ' g a' w → wpAnyH P .any ops Q S fuel (listAll L listed) a' w) → wpAnyH P .any ops Q S (fuel + L.length) listed a w
 | [], listed, Γ, a, fuel, ho, _, h, hst, hk => hk Γ a ho h hst
 | i :: r, listed, Γ, a, fuel, hown0, hok, h, hst, hk => by
  simp only [floatOk, Bool.and_eq_true] at hok
  obtain ⟨⟨h1, h2⟩, h3⟩ := hok
  simp only [floatVC] at h
  split at h
  · rename_i o ho
    split at h
    · rename_i G t hgd hd
      split at h
      · rename_i hlt
        have hwant := guardOf.wanted (ops := ops) hst hgd
        have step : ∀ R, (G.ok → Still P c o Γ R) → floatVC T c.n ops r (Γ.putB t (gd' G R)) K → wpAnyH P .any ops Q S (fuel + (i :: r).length) listed a w := by
         intro R hR hrest
         by_cases hG : G.ok
         · obtain ⟨v, h4, h5⟩ := hR hG Γ g a w (fun _ _ => rfl) (fun _ _ h => h) hst (by rw [hown0]; exact hfull)
           have hput : St c (Γ.putB t (gd' G R)) g (a.put (some t) v) w := hst.put (Nat.le_of_ble_eq_true hlt) (gd'_rp h5.ngd (fun _ => h5) (fun hn => absurd hG hn))
           refine wpAnyH_take (fuel := fuel + r.length) ho hs h1 h2 (fun x a' w' hq => absurd hq (hQ x _ _)) (v := v) (.inl ⟨hwant.2 hG, fun w' h => h4 w' (hS w' h)⟩) hSw ?_
           rw [hd]
           exact floatsS hT hs hQ hfull hS hSw r _ (Γ.putB t (gd' G R)) _ fuel hown0 h3 hrest hput hk
         · have hput : St c (Γ.putB t (gd' G R)) g (a.put (some t) undef) w := hst.put (Nat.le_of_ble_eq_true hlt) (by
            cases G with
            | nil => exact absurd trivial hG
            | cons x r' => exact ⟨fun h => absurd h hG, fun _ => rfl⟩)
           refine wpAnyH_take (fuel := fuel + r.length) ho hs h1 h2 (fun x a' w' hq => absurd hq (hQ x _ _)) (v := undef) (.inr ⟨by
            cases hw : Region.wanted o (yielded ops a.tmps) with
            | true => exact absurd (hwant.1 hw) hG
            | false => rfl, rfl⟩) hSw ?_
           rw [hd]
           exact floatsS hT hs hQ hfull hS hSw r _ (Γ.putB t (gd' G R)) _ fuel hown0 h3 hrest hput hk
        split at h
        · rename_i x hop
          obtain ⟨A, hA, h6⟩ := withOp.ev (c := c) h
          exact step A (fun hG => (Still0.move (.inl hop) hA hG).still) h6
        · rename_i x hop
          obtain ⟨A, hA, h6⟩ := withOp.ev (c := c) h
          exact step A (fun hG => (Still0.move (.inr hop) hA hG).still) h6
        · rename_i ty x y hop
          obtain ⟨A, hA, h6⟩ := withOp.ev (c := c) h
          obtain ⟨I, hI, h7⟩ := withOp.ev (c := c) h6
          obtain ⟨R, hR, h8⟩ := indexVC.any hT hop hA hI h7
          exact step R (fun hG => (hR hG).still) h8
        · rename_i s x f hop
          obtain ⟨A, hA, h6⟩ := withOp.ev (c := c) h
          obtain ⟨R, hR, h8⟩ := fieldVC.any hT hop hA h6
          exact step R (fun hG => (hR hG).still) h8
        · rename_i op ty x y ty' hop
          obtain ⟨A, hA, h6⟩ := withOp.ev (c := c) h
          obtain ⟨B, hB, h7⟩ := withOp.ev (c := c) h6
          obtain ⟨R, hR, h8⟩ := binSVC.any hT hop hA hB h7
          exact step R (fun hG => (hR hG).still) h8
        · rename_i op ty x hop
          obtain ⟨A, hA, h6⟩ := withOp.ev (c := c) h
          obtain ⟨R, hR, h8⟩ := notVC.any hop hA h6
          exact step R (fun hG => (hR hG).still) h8
        · rename_i s e x hop
          obtain ⟨hsm, h⟩ := h
          obtain ⟨A, hA, h6⟩ := withOp.ev (c := c) h
          obtain ⟨R, hR, h8⟩ := convVC.any hT hop (Option.isSome_iff_exists.1 hsm) hA h6
          exact step R (fun hG => (hR hG).still) h8
        · rename_i x i' hop
          obtain ⟨A, hA, h6⟩ := withOp.ev (c := c) h
          obtain ⟨R, hR, h8⟩ := extractVC.any hop hA h6
          exact step R (fun hG => (hR hG).still) h8
        · rename_i x hop
          obtain ⟨A, hA, h6⟩ := withOp.ev (c := c) h
          obtain ⟨R, hR, h8⟩ := nilVC.any hop hA h6
          exact step R (fun hG => (hR hG).still) h8
        · rename_i z x y hop
          obtain ⟨R, hR, h8⟩ := pickVC.any hop h
          exact step R (fun hG => (hR hG).still) h8
        · rename_i ty x hop
          obtain ⟨A, hA, h6⟩ := withOp.ev (c := c) h
          split at h6
          · rename_i fr B
            obtain ⟨R, hR, h8⟩ := loadS.still hT hop hA h6
            exact step R hR h8
          · exact h6.elim
        · rename_i ty x lo hi mx hop
          obtain ⟨A, hA, h6⟩ := withOp.ev (c := c) h
          split at h6
          · obtain ⟨R, hR, h8⟩ := scutVC.any hT hop hA h6
            exact step R (fun hG => (hR hG).still) h8
          · obtain ⟨R, hR, h8⟩ := cutSV.any hT hop hA h6
            exact step R (fun hG => (hR hG).still) h8
        · rename_i cl hop
          split at h
          · rename_i hcl
            split at h
            · rename_i x ty hxs hts
              obtain ⟨A, hA, h6⟩ := withOp.ev (c := c) h
              split at h6
              · rename_i fr S
                have ho' : o.op = .call { callee := .builtin .len, args := #[x], argTypes := #[ty] } := by
                 rw [hop, ← arr_of_one hxs, ← arr_of_one hts, ← hcl]
                obtain ⟨R, hR, h8⟩ := lenVC.any hT ho' hA h6
                exact step R (fun hG => (hR hG).still) h8
              · exact h6.elim
            · exact h.elim
          · rename_i b _ hcl
            obtain ⟨l, hl, hxs, h6⟩ := withOps.ev (c := c) h
            have ho' : o.op = .call { callee := .builtin b, args := cl.args, argTypes := cl.argTypes } := by rw [hop, ← hcl]
            obtain ⟨R, hR, h8⟩ := minmaxVC.any ho' hl hxs h6
            exact step R (fun hG => (hR hG).still) h8
          · exact h.elim
        · exact h.elim
      · exact h.elim
    · exact h.elim
  · exact h.elim
def zipC : List (List Nat × Nat × Nat) → List (Option Sy) → Phc
 | [], _ => []
 | x :: r, [] => (x.1, x.2.1, x.2.2, none) :: zipC r []
 | x :: r, c :: cs => (x.1, x.2.1, x.2.2, c) :: zipC r cs
theorem plain_zip : ∀ {l : List (List Nat × Nat × Nat)} {cs : List (Option Sy)}, plainPh (zipC l cs) = l
 | [], _ => rfl
 | x :: r, [] => by rw [zipC, plainPh, plain_zip]
 | x :: r, c :: cs => by rw [zipC, plainPh, plain_zip]
def detQ : AV → Bool
 | .lit _ => true
 | .own k => Nat.ble PK (k % PK2)
 | .mown k => Nat.ble PK (k % PK2)
 | .padr k j => Nat.beq j 0 && Nat.ble PK (k % PK2)
 | _ => false
def detQL : List AV → Bool
 | [] => true
 | A :: r => detQ A && detQL r
def detP : AV → Bool
 | .fn _ l => detQL l
 | A => detQ A
def detPL : List AV → Bool
 | [] => true
 | A :: r => detP A && detPL r
theorem detQL_get : ∀ {l : List AV} {i : Nat} {B : AV}, detQL l = true → l[i]? = some B → detQ B = true
 | [], _, _, _, h => by simp at h
 | A :: r, 0, B, hl, h => by
  simp at h
  subst h
  simp only [detQL, Bool.and_eq_true] at hl
  exact hl.1
 | A :: r, i + 1, B, hl, h => by
  simp only [detQL, Bool.and_eq_true] at hl
  exact detQL_get hl.2 (by simpa using h)
theorem detPL_get : ∀ {l : List AV} {i : Nat} {B : AV}, detPL l = true → l[i]? = some B → detP B = true
 | [], _, _, _, h => by simp at h
 | A :: r, 0, B, hl, h => by
  simp at h
  subst h
  simp only [detPL, Bool.and_eq_true] at hl
  exact hl.1
 | A :: r, i + 1, B, hl, h => by
  simp only [detPL, Bool.and_eq_true] at hl
  exact detPL_get hl.2 (by simpa using h)
def valQ (kv : Nat → Value) : AV → Value
 | .lit v => v
 | .own k => kv k
 | .mown k => hd (kv k)
 | .padr k _ => kv k
 | _ => undef
def valP (kv : Nat → Value) : AV → Value
 | .fn m l => fnV m (l.map (valQ kv)).toArray
 | A => valQ kv A
theorem detQ_val {w : World} {O O0 : Nat → Prop} {g kv : Nat → Value} {x : Value} {B : AV} (hg : ∀ k, PK ≤ k % PK2 → g k = kv k) (hB : detQ B = true) (h : Rp1 w O O0 g x B) : x = valQ kv B := by
 cases B with
 | lit v => exact h.1
 | own k => exact Eq.trans h (hg k (Nat.le_of_ble_eq_true hB))
 | mown k => exact Eq.trans h (congrArg hd (hg k (Nat.le_of_ble_eq_true hB)))
 | padr k j =>
  simp only [detQ, Bool.and_eq_true] at hB
  obtain ⟨b, h1, h2⟩ := h
  have e := Nat.eq_of_beq_eq_true hB.1
  subst e
  show x = kv k
  rw [← hg k (Nat.le_of_ble_eq_true hB.2), h1, h2]
 | _ => cases hB
theorem detP_val {w : World} {O O0 : Nat → Prop} {g kv : Nat → Value} {x : Value} {B : AV} (hg : ∀ k, PK ≤ k % PK2 → g k = kv k) (hB : detP B = true) (h : Rp2 w O O0 g x B) : x = valP kv B := by
 cases B with
 | fn m l =>
  obtain ⟨f, vs, h1, h2, h3⟩ := h
  have ea : vs = (l.map (valQ kv)).toArray := by
   apply Array.ext'
   refine List.ext_getElem? fun i => ?_
   rw [Array.getElem?_toList]
   show vs[i]? = (l.map (valQ kv))[i]?
   rw [List.getElem?_map]
   by_cases hi : i < l.length
   · obtain ⟨h4, h5⟩ := h3 i _ (List.getElem?_eq_getElem hi)
     rw [h4, List.getElem?_eq_getElem hi, detQ_val hg (detQL_get hB (List.getElem?_eq_getElem hi)) h5]; rfl
   · rw [List.getElem?_eq_none (Nat.le_of_not_lt hi), Array.getElem?_eq_none (by omega)]; rfl
  show x = fnV m _
  rw [h1, ea]
 | lit v => exact detQ_val (w := w) (O := O) (O0 := O0) (g := g) (B := .lit v) hg hB h
 | own k => exact detQ_val (w := w) (O := O) (O0 := O0) (g := g) (B := .own k) hg hB h
 | mown k => exact detQ_val (w := w) (O := O) (O0 := O0) (g := g) (B := .mown k) hg hB h
 | padr k j => exact detQ_val (w := w) (O := O) (O0 := O0) (g := g) (B := .padr k j) hg hB h
 | _ => cases hB
def obL : Ob → Option (List AV)
 | .box l => some l
 | .box1 A => some [A]
 | _ => none
def pinsOk : List (Nat × Ob) → Bool
 | [] => true
 | (k, o) :: r => Nat.ble PK (k % PK2) && (match obL o with | some l => detPL l | none => false) && pinsOk r
theorem pinsOk_get : ∀ {pb : List (Nat × Ob)} {k : Nat} {o : Ob} {l : List AV}, pinsOk pb = true → get? pb k = some o → obL o = some l → PK ≤ k % PK2 ∧ detPL l = true
 | [], _, _, _, _, h, _ => by cases h
 | (k', o') :: r, k, o, l, hp, h, hl => by
  simp only [pinsOk, Bool.and_eq_true] at hp
  simp only [get?] at h
  split at h
  · rename_i hk
    cases h
    have e := Nat.eq_of_beq_eq_true hk
    subst e
    refine ⟨Nat.le_of_ble_eq_true hp.1.1, ?_⟩
    have := hp.1.2
    rw [hl] at this
    exact this
  · exact pinsOk_get hp.2 h hl
theorem pinsOk_ob : ∀ {pb : List (Nat × Ob)} {k : Nat} {o : Ob}, pinsOk pb = true → get? pb k = some o → ∃ l, obL o = some l
 | [], _, _, _, h => by cases h
 | (k', o') :: r, k, o, hp, h => by
  simp only [pinsOk, Bool.and_eq_true] at hp
  simp only [get?] at h
  split at h
  · cases h
    have := hp.1.2
    split at this
    · rename_i l hl; exact ⟨l, hl⟩
    · cases this
  · exact pinsOk_ob hp.2 h
def pinAt (pb : List (Nat × Ob)) (k j : Nat) : Option AV := match get? pb k with
 | some o => match obL o with
  | some l => l[j]?
  | none => none
 | none => none
theorem pinAt_get {pb : List (Nat × Ob)} {k j : Nat} {B : AV} (h : pinAt pb k j = some B) : ∃ o l, get? pb k = some o ∧ obL o = some l ∧ l[j]? = some B := by
 unfold pinAt at h
 split at h
 · rename_i o ho
   split at h
   · rename_i l hl; exact ⟨o, l, ho, hl, h⟩
   · cases h
 · cases h
def allGet : List (Nat × Ob) → List (Nat × Ob) → Prop
 | [], _ => True
 | (k, o) :: r, own => get? own k = some o ∧ allGet r own
theorem allGet_get : ∀ {pb own : List (Nat × Ob)} {k : Nat} {o : Ob}, allGet pb own → get? pb k = some o → get? own k = some o
 | [], _, _, _, _, h => by cases h
 | (k', o') :: r, own, k, o, hp, h => by
  simp only [get?] at h
  split at h
  · rename_i hk
    cases h
    have e := Nat.eq_of_beq_eq_true hk
    subst e
    exact hp.1
  · exact allGet_get hp.2 h
def allGetK : List (Nat × Ob) → List (Nat × Ob) → Prop → Prop
 | [], _, K => K
 | (k, o) :: r, own, K => get? own k = some o ∧ allGetK r own K
theorem allGetK_get : ∀ {pb own : List (Nat × Ob)} {K : Prop}, allGetK pb own K → allGet pb own ∧ K
 | [], _, _, h => ⟨trivial, h⟩
 | (k', o') :: r, own, K, h => ⟨⟨h.1, (allGetK_get h.2).1⟩, (allGetK_get h.2).2⟩
def PinP (kv : Nat → Value) (pb : List (Nat × Ob)) (w : World) : Prop := ∀ k o, get? pb k = some o → ∃ l b e, obL o = some l ∧ kv k = .pointer (some ⟨b, 0, none⟩) ∧ w.heap[b]? = some (.cells (l.map (valP kv)).toArray e (0, 0))
theorem OwnOk.cells {w : World} {base : Nat} {O O0 : Nat → Prop} {g : Nat → Value} {v : Value} {o : Ob} {l : List AV} (h : OwnOk w base O O0 g v o) (hl : obL o = some l) :
  ∃ b arr e, v = .pointer (some ⟨b, 0, none⟩) ∧ w.heap[b]? = some (.cells arr e (0, 0)) ∧ arr.size = l.length ∧ ∀ (i : Nat) (B : AV), l[i]? = some B → ∃ x, arr[i]? = some x ∧ x.oneCell' = true ∧ Rp2 w O O0 g x B := by
 cases o with
 | box l' =>
  cases hl
  obtain ⟨b, arr, e, h1, h2, h3, h4, h5⟩ := h
  exact ⟨b, arr, e, h1, h3, h4, h5⟩
 | box1 A =>
  cases hl
  obtain ⟨b, x, e, h1, h2, h3, h4, h5⟩ := h
  refine ⟨b, #[x], e, h1, h3, rfl, fun i B hB => ?_⟩
  cases i with
  | zero => simp at hB; subst hB; exact ⟨x, rfl, h4, h5⟩
  | succ i => simp at hB
 | _ => cases hl
theorem St.pinP {c : Cx} {Γ : Sy} {g : Nat → Value} {a : Act} {w : World} (h : St c Γ g a w) {pb : List (Nat × Ob)} (hpb : pinsOk pb = true) (ha : allGet pb Γ.own) : PinP c.kv pb w := by
 intro k o ho
 obtain ⟨l0, hl⟩ := pinsOk_ob hpb ho
 obtain ⟨hk, hd⟩ := pinsOk_get hpb ho hl
 obtain ⟨b, arr, e, h1, h3, h4, h5⟩ := (h.hp.ok k _ (allGet_get ha ho)).cells hl
 refine ⟨l0, b, e, hl, by rw [← h.pin k hk]; exact h1, ?_⟩
 have ea : arr = (l0.map (valP c.kv)).toArray := by
  apply Array.ext'
  refine List.ext_getElem? fun i => ?_
  rw [Array.getElem?_toList]
  show arr[i]? = (l0.map (valP c.kv))[i]?
  rw [List.getElem?_map]
  by_cases hi : i < l0.length
  · obtain ⟨x, h6, _, h7⟩ := h5 i _ (List.getElem?_eq_getElem hi)
    rw [h6, List.getElem?_eq_getElem hi, detP_val h.pin (detPL_get hd (List.getElem?_eq_getElem hi)) h7]; rfl
  · rw [List.getElem?_eq_none (Nat.le_of_not_lt hi), Array.getElem?_eq_none (by omega)]; rfl
 rw [← ea]; exact h3
def floatP (T : List (Nat × TE)) (pb : List (Nat × Ob)) (n : Nat) (ops : Array Oper) : List Nat → Sy → (Sy → Prop) → Prop
 | [], Γ, K => K Γ
 | i :: r, Γ, K => match ops[i]? with
  | some o => match o.op with
   | .load ty x => match guardOf (dstsOf ops) Γ o.guard, o.dst with
    | some G, some t => match Nat.blt t n with
     | true => withOp Γ G x fun A => match A with
      | .padr k' j => match pinAt pb k' j, get? T ty with
       | some B, some te => te.kind.isAgg = false ∧ get? Γ.own k' = get? pb k' ∧ floatP T pb n ops r (Γ.putB t (gd' G B)) K
       | _, _ => False
      | _ => floatVC T n ops [i] Γ fun Γ1 => floatP T pb n ops r Γ1 K
     | false => False
    | _, _ => False
   | _ => floatVC T n ops [i] Γ fun Γ1 => floatP T pb n ops r Γ1 K
  | none => False
theorem floatsP {P : Program} {T : List (Nat × TE)} (hT : TOk P T) {pb : List (Nat × Ob)} (hpb : pinsOk pb = true) {c : Cx} {ops : Array Oper} (hs : Region.noSelect ops = true) {Q : Exit → Act → World → Prop} (hQ : ∀ x a w, ¬ Q (.panic x) a w) {K : Sy → Prop} {g : Nat → Value} {w : World} {own : List (Nat × Ob)} (hfull : c.full w (Oset own g)) (hpw : PinP c.kv pb w) :
  ∀ (L : List Nat) (listed : Array Bool) (Γ : Sy) (a : Act) (fuel : Nat), Γ.own = own → floatOk ops L listed = true → floatP T pb c.n ops L Γ K → St c Γ g a w →
    (∀ Γ' a', K Γ' → St c Γ' g a' w → wpAnyH P .any ops Q (fun w => c.S w ∧ PinP c.kv pb w) fuel (listAll L listed) a' w) → wpAnyH P .any ops Q (fun w => c.S w ∧ PinP c.kv pb w) (fuel + L.length) listed a w
 | [], listed, Γ, a, fuel, _, _, h, hst, hk => hk Γ a h hst
 | i :: r, listed, Γ, a, fuel, hown0, hok, h, hst, hk => by
  have hok' := hok
  simp only [floatOk, Bool.and_eq_true] at hok'
  obtain ⟨⟨h1, h2⟩, h3⟩ := hok'
  have plain : floatVC T c.n ops [i] Γ (fun Γ1 => floatP T pb c.n ops r Γ1 K) → wpAnyH P .any ops Q (fun w => c.S w ∧ PinP c.kv pb w) (fuel + (i :: r).length) listed a w := fun h => by
   have hone : floatOk ops [i] listed = true := by simp only [floatOk, Bool.and_eq_true]; exact ⟨⟨h1, h2⟩, trivial⟩
   have := floatsS (P := P) (Q := Q) hT hs hQ hfull (S := fun w => c.S w ∧ PinP c.kv pb w) (fun w h => h.1) ⟨hst.s, hpw⟩ [i] listed Γ a (fuel + r.length) hown0 hone h hst fun Γ' a' ho' hK' hst' => floatsP hT hpb hs hQ hfull hpw r _ Γ' a' fuel ho' h3 hK' hst' hk
   exact this
  simp only [floatP] at h
  split at h
  · rename_i o ho
    split at h
    · rename_i ty x hop
      split at h
      · rename_i G t hgd hd
        split at h
        · rename_i hlt
          have hw0 := h
          obtain ⟨A, hA, h6⟩ := withOp.ev (c := c) h
          split at h6
          · rename_i k' j
            · split at h6
              · rename_i B te hB hte
                obtain ⟨hagg, hbx, h7⟩ := h6
                have hwant := guardOf.wanted (ops := ops) hst hgd
                by_cases hG : G.ok
                · obtain ⟨b, hb1, hb2⟩ := hA hG Γ g a w rfl hst
                  obtain ⟨o', l0, ho', hl0, hBl⟩ := pinAt_get hB
                  rw [ho'] at hbx
                  obtain ⟨hkb, hdb⟩ := pinsOk_get hpb ho' hl0
                  have hval : Rp2 w (Oset Γ.own g) c.O0 g (valP c.kv B) B := by
                   obtain ⟨b', arr, e, g1, g2, g3, g4⟩ := (hst.hp.ok _ _ hbx).cells hl0
                   obtain ⟨y, _, _, h8⟩ := g4 j B hBl
                   have := detP_val hst.pin (detPL_get hdb hBl) h8
                   rw [← this]; exact h8
                  have h4 : ∀ w', (c.S w' ∧ PinP c.kv pb w') → (execOp a.eval o).run P w' = .ok (.value (valP c.kv B)) w' := by
                   rintro w' ⟨_, hpp⟩
                   obtain ⟨l1, b', e, g0, g1, g2⟩ := hpp k' o' ho'
                   rw [hl0] at g0
                   cases g0
                   have eb : b' = b := by
                    rw [← hst.pin k' hkb, hb1] at g1
                    cases g1; rfl
                   subst eb
                   have hj : ((l0.map (valP c.kv)).toArray)[j]? = some (valP c.kv B) := by
                    rw [List.getElem?_toArray, List.getElem?_map, hBl]; rfl
                   have := run_load_scalar (hT _ _ hte) hagg g2 hj
                   simp [execOp, hop, hb2, this]
                  have hput : St c (Γ.putB t (gd' G B)) g (a.put (some t) (valP c.kv B)) w := hst.put (Nat.le_of_ble_eq_true hlt) (gd'_rp hval.ngd (fun _ => hval) (fun hn => absurd hG hn))
                  refine wpAnyH_take (fuel := fuel + r.length) ho hs h1 h2 (fun x a' w' hq => absurd hq (hQ x _ _)) (v := valP c.kv B) (.inl ⟨hwant.2 hG, h4⟩) ⟨hst.s, hpw⟩ ?_
                  rw [hd]
                  exact floatsP hT hpb hs hQ hfull hpw r _ (Γ.putB t (gd' G B)) _ fuel hown0 h3 h7 hput hk
                · have hput : St c (Γ.putB t (gd' G B)) g (a.put (some t) undef) w := hst.put (Nat.le_of_ble_eq_true hlt) (by
                   cases G with
                   | nil => exact absurd trivial hG
                   | cons x r' => exact ⟨fun h => absurd h hG, fun _ => rfl⟩)
                  refine wpAnyH_take (fuel := fuel + r.length) ho hs h1 h2 (fun x a' w' hq => absurd hq (hQ x _ _)) (v := undef) (.inr ⟨by
                   cases hw : Region.wanted o (yielded ops a.tmps) with
                   | true => exact absurd (hwant.1 hw) hG
                   | false => rfl, rfl⟩) ⟨hst.s, hpw⟩ ?_
                  rw [hd]
                  exact floatsP hT hpb hs hQ hfull hpw r _ (Γ.putB t (gd' G B)) _ fuel hown0 h3 h7 hput hk
              · exact h6.elim
          · exact plain h6
        · exact h.elim
      · exact h.elim
    · exact plain h
  · exact h.elim
noncomputable def treeP (P : Program) (T : List (Nat × TE)) (F Ms : List Nat) (pb : List (Nat × Ob)) (n : Nat) (ops : Array Oper) (E : List Nat) (k : Nat) : Nat → Sy → (Nat → Sy → Prop) → Prop :=
 Nat.rec (motive := fun _ => Nat → Sy → (Nat → Sy → Prop) → Prop) (fun done Γ K => K done Γ) (fun _ ih done Γ K => eachP (rdy done E 0) fun i => match ops[i]? with
  | some o => stepZ P T F Ms n ops i o Γ fun Γ' => allGetK pb Γ'.own (ih (Nat.lor done (2 ^ i)) Γ' K)
  | none => False) k
theorem treeP_sound {P : Program} {pb : List (Nat × Ob)} (hpb : pinsOk pb = true) {T : List (Nat × TE)} {F Ms : List Nat} (hT : TOk P T) {c : Cx} {ops : Array Oper} {E : List Nat} (hE : dirms ops = E) {K : Nat → Sy → Prop} {Q : Exit → Act → World → Prop} {m : Nat}
  (hQ : ∀ (listed : Array Bool) done Γ' g' a' w', listed.size = ops.size → cnt listed = m → (∀ j, j < ops.size → listed[j]? = some (done.testBit j)) → K done Γ' → St c Γ' g' a' w' → PinP c.kv pb w' → wpAnyH P .any ops Q (fun w => c.S w ∧ PinP c.kv pb w) m listed a' w')
  (hed : ∀ j o, ops[j]? = some o → ∀ e ∈ o.after, Region.binds .any e = true → e.on < j) :
  ∀ (k : Nat) (listed : Array Bool) (done : Nat) (Γ : Sy) (g : Nat → Value) (a : Act) (w : World), listed.size = ops.size → cnt listed = k + m → (∀ j, j < ops.size → listed[j]? = some (done.testBit j)) →
    treeP P T F Ms pb c.n ops E k done Γ K → St c Γ g a w → PinP c.kv pb w → wpAnyH P .any ops Q (fun w => c.S w ∧ PinP c.kv pb w) (k + m) listed a w := by
 intro k
 induction k with
 | zero =>
  intro listed done Γ g a w hsz hc hd h hst hpw
  rw [Nat.zero_add] at hc ⊢
  exact hQ listed done Γ g a w hsz hc hd h hst hpw
 | succ k ih =>
  intro listed done Γ g a w hsz hc hd h hst hpw
  rw [show k + 1 + m = (k + m) + 1 from by omega] at hc ⊢
  refine ⟨fun hrd => ?_, fun i hi => ?_⟩
  · obtain ⟨i, h1, h2⟩ := cnt_pos (listed := listed) (by omega)
    have hi : i < ops.size := by rw [← hsz]; exact (Array.getElem?_eq_some_iff.1 h1).1
    have : i ∈ Region.ready .any ops listed := ready_mem.2 ⟨hi, by simp [Array.getD_eq_getD_getElem?, h1], fun o ho e he hb => by
     have := h2 e.on (hed i o ho e he hb)
     simp [Array.getD_eq_getD_getElem?, this]⟩
    rw [hrd] at this; cases this
  · obtain ⟨h1, h2, h3⟩ := ready_mem.1 hi
    have hoi : ops[i]? = some ops[i] := by simp [h1]
    have hdi : done.testBit i = false := by
     have := hd i h1
     simp only [Array.getD_eq_getD_getElem?, this, Option.getD_some] at h2
     exact h2
    have hEi : E[i]? = some (dirm (ops[i]).after.toList 0) := by
     rw [← hE, dirms, List.getElem?_map]
     simp [h1]
    have hm := rdy_mem (done := done) (i := i) (s := 0) hEi (by rw [Nat.zero_add]; exact hdi) fun j hj => by
     rcases dirm_bit hj with h4 | ⟨e, he, hb, rfl⟩
     · simp at h4
     · have h5 := h3 _ hoi e (by simpa using he) hb
       have h6 := hed i _ hoi e (by simpa using he) hb
       have h7 := hd e.on (by omega)
       simp only [Array.getD_eq_getD_getElem?, h7, Option.getD_some] at h5
       exact h5
    rw [Nat.zero_add] at hm
    have h4 := eachP_mem h i hm
    rw [hoi] at h4
    obtain ⟨Γ', h5, hbx⟩ := stepZ_sound hT hoi h4
    obtain ⟨hbx, h6⟩ := allGetK_get hbx
    have hlf : listed[i]? = some false := by rw [hd i h1, hdi]
    refine h5 Q g a w _ hst fun g' a' w' h7 => ⟨⟨h7.s, h7.pinP hpb hbx⟩, ih _ (Nat.lor done (2 ^ i)) Γ' g' a' w' (by simp [hsz]) (by have := cnt_set hlf; omega) (fun j hj => ?_) h6 h7 (h7.pinP hpb hbx)⟩
    show _ = some ((done ||| 2 ^ i).testBit j)
    rw [Nat.testBit_or, Nat.testBit_two_pow]
    by_cases e : i = j
    · subst e
      rw [Array.getElem?_setIfInBounds_self_of_lt (by omega)]
      simp
    · rw [Array.getElem?_setIfInBounds_ne e, hd j hj]
      simp [e]
noncomputable def phP (P : Program) (T : List (Nat × TE)) (F Ms : List Nat) (pb : List (Nat × Ob)) (n : Nat) (ops : Array Oper) (E : List Nat) (l : Phc) : Nat → Sy → (Sy → Prop) → Prop :=
 List.rec (motive := fun _ => Nat → Sy → (Sy → Prop) → Prop) (fun _ Γ K => K Γ) (fun x _ ih done Γ K => match x.2.2.2 with
  | none => floatP T pb n ops x.1 Γ fun Γ1 => treeP P T F Ms pb n ops E x.2.1 (addM done x.1) Γ1 fun d' Γ' => ck (Nat.beq d' x.2.2.1) (ih x.2.2.1 Γ' K)
  | some Γ2 => Both (floatP T pb n ops x.1 Γ fun Γ1 => treeP P T F Ms pb n ops E x.2.1 (addM done x.1) Γ1 fun d' Γ' => ck (Nat.beq d' x.2.2.1) (Leaf (Sub Γ' Γ2 (mkRen Γ' Γ2)))) (ih x.2.2.1 Γ2 K)) l
theorem phP_sound {P : Program} {pb : List (Nat × Ob)} (hpb : pinsOk pb = true) {T : List (Nat × TE)} {F Ms : List Nat} (hT : TOk P T) {ops : Array Oper} {E : List Nat} (hE : dirms ops = E) {K : Sy → Prop} {Q : Exit → Act → World → Prop} (hs : Region.noSelect ops = true) (hQp : ∀ x a w, ¬ Q (.panic x) a w)
    (hed : ∀ j o, ops[j]? = some o → ∀ e ∈ o.after, Region.binds .any e = true → e.on < j) (c0 : Cx) (hQ : ∀ Γ' g' a' w' K', K Γ' → (∀ b x, c0.K b = some x → K' b = some x) → St { c0 with K := K' } Γ' g' a' w' → Q .normal a' w') :
    ∀ (ph : Phc) (K0 : Nat → Option (Array Value × TypeId × (Nat × Nat))) (listed : Array Bool) (done : Nat) (Γ : Sy) (g : Nat → Value) (a : Act) (w : World), (∀ b x, c0.K b = some x → K0 b = some x) → listed.size = ops.size →
      (∀ j, j < ops.size → listed[j]? = some (done.testBit j)) → phOk ops (plainPh ph) done = true → phP P T F Ms pb c0.n ops E ph done Γ K → St { c0 with K := K0 } Γ g a w → PinP c0.kv pb w → wpAnyH P .any ops Q (fun w => Cx.S { c0 with K := K0 } w ∧ PinP c0.kv pb w) (cnt listed) listed a w
  | [], K0, listed, done, Γ, g, a, w, hK0, hsz, hd, hok, h, hst, hpw => by
    have hall : ∀ i, i < listed.size → listed[i]? = some true := fun i hi => by
      have := allBelow_get hok i (by omega)
      rw [hd i (by omega), this]
    have hc : cnt listed = 0 := by
      refine Classical.byContradiction fun hne => ?_
      obtain ⟨i, h1, _⟩ := cnt_pos (listed := listed) (by omega)
      have hi := (Array.getElem?_eq_some_iff.1 h1).1
      rw [hall i hi] at h1
      cases h1
    rw [hc]
    refine ⟨List.eq_nil_iff_forall_not_mem.2 fun i hi => ?_, hQ Γ g a w K0 h hK0 hst⟩
    obtain ⟨h1, h2, _⟩ := ready_mem.1 hi
    have := hall i (by omega)
    simp [Array.getD_eq_getD_getElem?, this] at h2
  | (L, k, d, cut) :: r, K0, listed, done, Γ, g, a, w, hK0, hsz, hd, hok, h, hst, hpw => by
    simp only [plainPh, phOk, Bool.and_eq_true] at hok
    obtain ⟨⟨⟨⟨hf, honce⟩, hnew⟩, hle⟩, hrest⟩ := hok
    have harr := arrOf_eq hsz hd
    rw [← harr] at hf hle
    have hle := Nat.le_of_ble_eq_true hle
    obtain ⟨K1, hK1, hK2⟩ := keepAll w (Oset Γ.own g)
    have hsub : ∀ b x, K0 b = some x → K1 b = some x := fun b x hb => hK2 b _ _ _ (hst.kept b x hb).1 (hst.kept b x hb).2
    have hst1 : St { c0 with K := K1 } Γ g a w := ⟨hst.defers, hst.size, hst.keep, hst.o0, hst.tmps, hK1, hst.hp, hst.low, hst.pin⟩
    refine wpAnyH_sub (S' := fun w => Cx.S { c0 with K := K1 } w ∧ PinP c0.kv pb w) (fun w' h' => ⟨fun b x hb => h'.1 b x (hsub b x hb), h'.2⟩) _ _ _ _ ?_
    have hun : ∀ i, memN i L = true → listed[i]? = some false := fun i hi => by
      have hlt := listOnce_lt honce i hi
      have h1 := allBelow_get hnew i hlt
      rw [hd i hlt]
      simp only [hi, Bool.true_and, Bool.not_eq_true'] at h1
      rw [h1]
    have hcn := cnt_listAll (L := L) (l := listed) honce hsz hun
    -- the phase, and what is known behind it
    obtain ⟨K2, hph, hnext⟩ : ∃ K2 : Sy → Prop, (floatP T pb c0.n ops L Γ fun Γ1 => treeP P T F Ms pb c0.n ops E k (addM done L) Γ1 fun d' Γ' => ck (Nat.beq d' d) (K2 Γ')) ∧
        ∀ Γ' g' a' w', K2 Γ' → St { c0 with K := K1 } Γ' g' a' w' → ∃ Γ'' g'', phP P T F Ms pb c0.n ops E r d Γ'' K ∧ St { c0 with K := K1 } Γ'' g'' a' w' := by
      cases cut with
      | none => exact ⟨fun Γ' => phP P T F Ms pb c0.n ops E r d Γ' K, h, fun Γ' g' a' w' h1 h2 => ⟨Γ', g', h1, h2⟩⟩
      | some Γ2 =>
        obtain ⟨ha, hb⟩ := h
        exact ⟨fun Γ' => Leaf (Sub Γ' Γ2 (mkRen Γ' Γ2)), ha, fun Γ' g' a' w' h1 h2 => ⟨Γ2, _, hb, Sub.st h1.1 h2⟩⟩
    have hgo := floatsP (P := P) (c := { c0 with K := K1 }) (w := w) (Q := Q) hT hpb hs hQp hK2 hpw L listed Γ a (cnt (listAll L listed)) rfl hf hph hst1
    rw [hcn] at hgo
    refine hgo fun Γ1 a1 h1 hst2 => ?_
    obtain ⟨m, hm⟩ : ∃ m, cnt (listAll L listed) = k + m := ⟨cnt (listAll L listed) - k, by omega⟩
    rw [hm]
    refine treeP_sound hpb (c := { c0 with K := K1 }) hT hE (m := m) (fun listed' done' Γ' g' a' w' hsz' hc' hd' hk' hst' hpw' => ?_) hed k _ (addM done L) Γ1 g a1 _ (by rw [listAll_size]; exact hsz) hm (fun j hj => ?_) h1 hst2 hpw
    · obtain ⟨h2, h3⟩ := ck_ok hk'
      have h2 := Nat.eq_of_beq_eq_true h2
      rw [h2] at hd'
      obtain ⟨Γ'', g'', h4, h5⟩ := hnext Γ' g' a' w' h3 hst'
      have := phP_sound hpb hT hE hs hQp hed c0 hQ r K1 listed' d Γ'' g'' a' w' (fun b x hb => hsub b x (hK0 b x hb)) hsz' hd' hrest h4 h5 hpw'
      rw [hc'] at this
      exact this
    · rw [listAll_get (by omega), addM_bit]
      cases hmm : memN j L with
      | true => simp
      | false => simp [hd j hj]
theorem W.drawPK {P : Program} {n : Nat} {Q : Exit → Sy → Prop} {Γ : Sy} {T : List (Nat × TE)} (hT : TOk P T) (F Ms : List Nat) (hmx : P.follows .mixedOrders = true) (pb : List (Nat × Ob)) (hpb : pinsOk pb = true) (hbx : allGet pb Γ.own) (E : List Nat) (ph : Phc) {id : Nat} {ops : Array Oper} {K : Sy → Prop}
  (hK : ∀ c Γ' g' a' w', K Γ' → St c Γ' g' a' w' → ∃ Γ'' g'', Q .normal Γ'' ∧ St c Γ'' g'' a' w')
  (hd : (allBelow ops.size (fun j => match ops[j]? with
   | none => false
   | some o => edgesLt j o.after.toList) && (dirms ops == E) && phOk ops (plainPh ph) 0 && Region.noSelect ops) = true)
  (h : phP P T F Ms pb n ops E ph 0 Γ K) : W P n (.region id ops true) Γ Q := by
 simp only [Bool.and_eq_true] at hd
 obtain ⟨⟨⟨hall, hE⟩, hok⟩, hsel⟩ := hd
 have hE : dirms ops = E := by simpa using hE
 have hed : ∀ j o, ops[j]? = some o → ∀ e ∈ o.after, Region.binds .any e = true → e.on < j := by
  intro j o ho
  have hlt := (Array.getElem?_eq_some_iff.1 ho).1
  have h1 := allBelow_get hall j hlt
  rw [ho] at h1
  exact fun e he hb => edgesLt_get h1 (by simpa using he) hb
 refine ⟨fun c g a w hn hst => ?_⟩
 have key : (Code.region id ops true).wp P (fun e a' w' => match e with | .normal => ∃ Γ' g', K Γ' ∧ St c Γ' g' a' w' | _ => False) a w := by
  refine wp_region_held (S := fun w => c.S w ∧ PinP c.kv pb w) hmx ?_
  have hcr : cnt (Array.replicate ops.size false) = ops.size := by simp [cnt, List.filter_replicate]
  have hmain := phP_sound hpb (K := K) (Q := fun e a' w' => match e with | .normal => ∃ Γ' g', K Γ' ∧ St c Γ' g' a' w' | _ => False) hT hE hsel (fun _ _ _ h => h) hed c (fun Γ' g' a' w' K' hq hK' hst' =>
   ⟨Γ', g', hq, hst'.defers, hst'.size, hst'.keep, hst'.o0, hst'.tmps, fun b x hb => hst'.kept b x (hK' b x hb), hst'.hp, hst'.low, hst'.pin⟩) ph c.K (Array.replicate ops.size false) 0 Γ g a { w with drawn := w.drawn + 1 } (fun _ _ h => h) (by simp) (fun j hj => by simp [hj]) hok (by rw [hn]; exact h) (hst.keepW (Keep.drew w)) ((hst.keepW (Keep.drew w)).pinP hpb hbx)
  rw [hcr] at hmain
  exact hmain
 refine wp_mono key fun e a' w' hq => ?_
 cases e with
 | normal =>
  obtain ⟨Γ', g', h1, h2⟩ := hq
  exact hK c Γ' g' a' w' h1 h2
 | _ => exact hq.elim
theorem W.drawP {P : Program} {n : Nat} {Q : Exit → Sy → Prop} {Γ : Sy} {T : List (Nat × TE)} (hT : TOk P T) (F Ms : List Nat) (hmx : P.follows .mixedOrders = true) (pb : List (Nat × Ob)) (hpb : pinsOk pb = true) (hbx : allGet pb Γ.own) (E : List Nat) (ph : Phc) {id : Nat} {ops : Array Oper}
  (hd : (allBelow ops.size (fun j => match ops[j]? with
   | none => false
   | some o => edgesLt j o.after.toList) && (dirms ops == E) && phOk ops (plainPh ph) 0 && Region.noSelect ops) = true)
  (h : phP P T F Ms pb n ops E ph 0 Γ fun Γ' => Q .normal Γ') : W P n (.region id ops true) Γ Q :=
 W.drawPK hT F Ms hmx pb hpb hbx E ph (K := fun Γ' => Q .normal Γ') (fun c Γ' g' a' w' h1 h2 => ⟨Γ', g', h1, h2⟩) hd h
noncomputable def phPZ (P : Program) (T : List (Nat × TE)) (F Ms : List Nat) (pb : List (Nat × Ob)) (n : Nat) (ops : Array Oper) (E : List Nat) (l : List (List Nat × Nat × Nat)) : List (Option Sy) → Nat → Sy → (Sy → Prop) → Prop :=
 List.rec (motive := fun _ => List (Option Sy) → Nat → Sy → (Sy → Prop) → Prop) (fun _ _ Γ K => K Γ) (fun x _ ih cs done Γ K => match cs with
  | [] => floatP T pb n ops x.1 Γ fun Γ1 => treeP P T F Ms pb n ops E x.2.1 (addM done x.1) Γ1 fun d' Γ' => ck (Nat.beq d' x.2.2) (ih [] x.2.2 Γ' K)
  | none :: cs => floatP T pb n ops x.1 Γ fun Γ1 => treeP P T F Ms pb n ops E x.2.1 (addM done x.1) Γ1 fun d' Γ' => ck (Nat.beq d' x.2.2) (ih cs x.2.2 Γ' K)
  | some Γ2 :: cs => Both (floatP T pb n ops x.1 Γ fun Γ1 => treeP P T F Ms pb n ops E x.2.1 (addM done x.1) Γ1 fun d' Γ' => ck (Nat.beq d' x.2.2) (Leaf (Sub Γ' Γ2 (mkRen Γ' Γ2)))) (ih cs x.2.2 Γ2 K)) l
theorem phPZ_to {P : Program} {T : List (Nat × TE)} {F Ms : List Nat} {pb : List (Nat × Ob)} {n : Nat} {ops : Array Oper} {E : List Nat} : ∀ {l : List (List Nat × Nat × Nat)} {cs : List (Option Sy)}, phPZ P T F Ms pb n ops E l cs = phP P T F Ms pb n ops E (zipC l cs)
 | [], cs => rfl
 | x :: r, [] => by
  have ih := phPZ_to (P := P) (T := T) (F := F) (Ms := Ms) (pb := pb) (n := n) (ops := ops) (E := E) (l := r) (cs := [])
  funext done Γ K
  show (floatP T pb n ops x.1 Γ fun Γ1 => treeP P T F Ms pb n ops E x.2.1 (addM done x.1) Γ1 fun d' Γ' => ck (Nat.beq d' x.2.2) (phPZ P T F Ms pb n ops E r [] x.2.2 Γ' K)) = _
  rw [ih]; rfl
 | x :: r, none :: cs => by
  have ih := phPZ_to (P := P) (T := T) (F := F) (Ms := Ms) (pb := pb) (n := n) (ops := ops) (E := E) (l := r) (cs := cs)
  funext done Γ K
  show (floatP T pb n ops x.1 Γ fun Γ1 => treeP P T F Ms pb n ops E x.2.1 (addM done x.1) Γ1 fun d' Γ' => ck (Nat.beq d' x.2.2) (phPZ P T F Ms pb n ops E r cs x.2.2 Γ' K)) = _
  rw [ih]; rfl
 | x :: r, some Γ2 :: cs => by
  have ih := phPZ_to (P := P) (T := T) (F := F) (Ms := Ms) (pb := pb) (n := n) (ops := ops) (E := E) (l := r) (cs := cs)
  funext done Γ K
  show Both (floatP T pb n ops x.1 Γ fun Γ1 => treeP P T F Ms pb n ops E x.2.1 (addM done x.1) Γ1 fun d' Γ' => ck (Nat.beq d' x.2.2) (Leaf (Sub Γ' Γ2 (mkRen Γ' Γ2)))) (phPZ P T F Ms pb n ops E r cs x.2.2 Γ2 K) = _
  rw [ih]; rfl
theorem W.drawPC {P : Program} {n : Nat} {Q : Exit → Sy → Prop} {Γ : Sy} {T : List (Nat × TE)} (hT : TOk P T) (F Ms : List Nat) (hmx : P.follows .mixedOrders = true) (pb : List (Nat × Ob)) (hpb : pinsOk pb = true) (hbx : allGet pb Γ.own) (E : List Nat) (ph : List (List Nat × Nat × Nat)) (cs : List (Option Sy)) {id : Nat} {ops : Array Oper}
  (hd : (allBelow ops.size (fun j => match ops[j]? with
   | none => false
   | some o => edgesLt j o.after.toList) && (dirms ops == E) && phOk ops ph 0 && Region.noSelect ops) = true)
  (h : phPZ P T F Ms pb n ops E ph cs 0 Γ fun Γ' => Q .normal Γ') : W P n (.region id ops true) Γ Q := by
 rw [phPZ_to] at h
 exact W.drawP hT F Ms hmx pb hpb hbx E (zipC ph cs) (by rw [plain_zip]; exact hd) h
end Go.Vc
namespace Go.Proofs.Ytckmhlpngolbpaa
open Int renaming reduceToNat → zr, reduceTDiv → zd, reduceTMod → zm
open Go Go.Vc Go.Sh Go.Tp Go.Ov
theorem meas_at {x : Int} : FnAt Try.prog false 57 [.lit (.int .u16 x)] (.lit (.int .u16 x)) [] := by
 refine FnAt.of_body tys_ok Try.func57 (by rfl) rfl Try.ntmps57 (by rw [Try.results57]) (by simp) ?_
 repeat' (first
 | refine W.seq ?_
 | refine W.block ?_
 | (refine W.region tys_ok [] ?_; conv => whnf)
 | (refine W.drawAll tys_ok [] mixed rfl ?_; conv => whnf)
 | (refine W.ret ?_; conv => whnf)
 | (refine W.skip ?_; conv => whnf)
 | (refine W.exit ?_; conv => whnf)
 | (refine W.cond rfl (fun hb => ?_) (fun hb => ?_) <;> (try simp only [zr, zd, zm, minL, maxL, pickB, zA] at hb) <;> (try (first | (cases hb; done) | exact absurd hb (by decide) | (exfalso; omega))))
 | ((with_reducible refine And.intro ?_ ?_); (focus (first | (with_reducible rfl) | (with_reducible show get? _ _ = _; rfl))); (conv => whnf))
 | ((with_reducible refine And.intro (Side.out ?_) ?_); rotate_left; (conv => whnf))
 | ((first | refine retF1 ?_ | refine retF2 ?_) <;> (conv => whnf) <;> repeat' (first
 | exact trivial
 | (with_reducible rfl)
 | ((with_reducible refine And.intro ?_ ?_) <;> conv => whnf)
 | omega
 | rfl
 | (refine congrArg (SV.arr _) ?_)
 | (refine congrArg (Value.int _) ?_)
 | (refine congrArg Value.bool ?_)))); all_goals (try unfold Side)
 all_goals try (repeat' (first | exact zb | with_reducible refine And.intro ?_ ?_))
def pasB (s t : Nat) : Bool := decide (t ≠ s) && decide (andN s t = 0)
set_option maxHeartbeats 8000000 in
theorem gr1_m {s t : Nat} (hs : s < 65536) (ht : t < 65536) : FnM Try.prog 65 [.lit (.int .u16 (t : Int)), .padr 1000000000 0, .padr 1000000001 0] [(1000000000, .box1 (.fn 57 [])), (1000000001, .box1 (.lit (.int .u16 ((s : Nat) : Int))))] (.lit (.bool (pasB s t))) [(1000000000, .box1 (.fn 57 [])), (1000000001, .box1 (.lit (.int .u16 ((s : Nat) : Int))))] := by
 have c1 := @meas_at
 have hal : andN s t < 2 ^ 16 := Nat.xor_lt_two_pow (Nat.and_lt_two_pow _ ht) hs
 have q1 : 0 ≤ (s : Int) ∧ 0 ≤ (t : Int) ∧ InK .u16 (s : Int) ∧ InK .u16 (t : Int) ∧ InK .u16 ((bitsN .andNot (s : Int).toNat (t : Int).toNat : Nat) : Int) := ⟨Int.natCast_nonneg _, Int.natCast_nonneg _, inU (by omega), inU (by omega), (inU (by omega) : InK .u16 ((andN s t : Nat) : Int))⟩
 have e1 : decide ((t : Int) = (s : Int)) = decide (t = s) := by simp only [decide_eq_decide]; omega
 have e2 : decide (((bitsN .andNot (s : Int).toNat (t : Int).toNat : Nat) : Int) = 0) = decide (andN s t = 0) := by
  show decide (((andN s t : Nat) : Int) = 0) = _
  simp only [decide_eq_decide]; omega
 have e3 : pasB s t = (!decide (t = s) && decide (andN s t = 0)) := by unfold pasB; by_cases e : t = s <;> simp [e]
 refine FnM.of_body tys_ok Try.func65 (by rfl) rfl Try.ntmps65 (by rw [Try.results65]) (by simp) ?_
 repeat' (first
 | refine W.seq ?_
 | refine W.block ?_
 | (refine W.drawPC (id := 1) tys_ok [] [] mixed [(1000000000, .box1 (.fn 57 [])), (1000000001, .box1 (.lit (.int .u16 ((s : Nat) : Int))))] rfl (by repeat' (first | exact trivial | refine And.intro rfl ?_)) [0, 0, 3, 0, 0, 28, 36, 96, 128, 128, 896, 128, 128, 7296, 9344, 16512, 32896, 131071] [([0, 1, 3, 4], 1, 31), ([], 1, 63), ([6, 7, 8, 9, 11, 12], 1, 8191), ([], 1, 16383), ([14, 15, 16, 17], 0, 262143)] [none, none, none, none, none] (by decide +kernel) ?_; conv => whnf)
 | (refine W.region tys_ok [] ?_; conv => whnf)
 | (refine W.drawAll tys_ok [] mixed rfl ?_; conv => whnf)
 | (refine W.ret ?_; conv => whnf)
 | (refine W.skip ?_; conv => whnf)
 | (refine W.exit ?_; conv => whnf)
 | (refine call_at (al := false) (c1) rfl rfl rfl rfl ?_; conv => whnf)
 | (refine Both.mk ?_ ?_ <;> (conv => whnf))
 | (refine W.cond rfl (fun hb => ?_) (fun hb => ?_) <;> (try simp only [zr, zd, zm, minL, maxL, pickB, zA] at hb) <;> (try (first | (cases hb; done) | exact absurd hb (by decide) | (exfalso; omega) | (omega))))
 | (refine Or.inl (And.intro trivial ?_); (conv => whnf))
 | ((with_reducible refine And.intro ?_ ?_); (focus (first | (with_reducible rfl) | (with_reducible show get? _ _ = _; rfl))); (conv => whnf))
 | ((with_reducible refine And.intro (Side.out ?_) ?_); rotate_left; (conv => whnf))
 | ((first | refine retM1 ?_ | refine retM2 ?_ | refine subF.leaf ?_ | refine subF.side ?_) <;> (conv => whnf) <;> repeat' (first
 | exact trivial
 | (with_reducible rfl)
 | ((with_reducible refine And.intro ?_ ?_) <;> conv => whnf)
 | omega
 | rfl
 | (refine congrArg (SV.arr _) ?_)
 | (refine congrArg (Value.int _) ?_)
 | (refine congrArg Value.bool ?_)))); all_goals (try unfold Side)
 all_goals first | rfl | exact Path.imp_of q1 | skip
 rw [e1, e2, e3]
 cases decide (t = s) <;> cases decide (andN s t = 0) <;> rfl
open Go Go.Vc Go.Sh Go.Tp Go.Ov
def idxF (p : Nat → Bool) : List Nat → Int → Int
 | [], _ => -1
 | x :: r, i => if p x = true then i else idxF p r (i + 1)
theorem idxF_any {p : Nat → Bool} : ∀ {l : List Nat} {i : Int}, 0 ≤ i → (decide (0 ≤ idxF p l i) = l.any p)
 | [], i, _ => by simp [idxF]
 | x :: r, i, hi => by
  rw [idxF, List.any_cons]
  by_cases h : p x = true
  · rw [if_pos h, h]; simp [hi]
  · rw [if_neg h, idxF_any (l := r) (i := i + 1) (by omega)]
    have : p x = false := by simpa using h
    rw [this]; rfl
theorem idxF_ge {p : Nat → Bool} : ∀ {l : List Nat} {i : Int}, 0 ≤ i → -1 ≤ idxF p l i ∧ idxF p l i < i + l.length
 | [], i, hi => by simp [idxF]; omega
 | x :: r, i, hi => by
  rw [idxF]
  split
  · simp only [List.length_cons]; omega
  · have := idxF_ge (p := p) (l := r) (i := i + 1) (by omega)
    simp only [List.length_cons]; omega
theorem drop_cons {l : List Nat} {k : Nat} (h : k < l.length) : l.drop k = l.getD k 0 :: l.drop (k + 1) := by
 rw [List.drop_eq_getElem_cons h, List.getD_eq_getElem?_getD, List.getElem?_eq_getElem h]; rfl
set_option maxHeartbeats 4000000 in
theorem index_m {s : Nat} {l : List Nat} (hs : s < 65536) (hl : ∀ i, i < l.length → l.getD i 0 < 65536) (hll : l.length ≤ 4096) :
  FnM Try.prog 70 [.st true (.arr (.int .u16) (zN l : List Int)), .fn 65 [.padr 1000000000 0, .padr 1000000001 0]] [(1000000000, .box1 (.fn 57 [])), (1000000001, .box1 (.lit (.int .u16 ((s : Nat) : Int))))] (.lit (.int .i64 (idxF (pasB s) l 0))) [(1000000000, .box1 (.fn 57 [])), (1000000001, .box1 (.lit (.int .u16 ((s : Nat) : Int))))] := by
 have hzl : @List.length (Ty.int .u16).T (zN l) = l.length := zN_len
 obtain ⟨p, hp⟩ : ∃ p, p = pasB s := ⟨_, rfl⟩
 rw [← hp]
 refine FnM.of_body tys_ok Try.func70 (by rfl) rfl Try.ntmps70 (by rw [Try.results70]) (by simp) ?_
 repeat' (first
 | refine W.seq ?_
 | refine W.block ?_
 | (refine W.region tys_ok [] ?_; conv => whnf)
 | (refine W.drawAll tys_ok [] mixed rfl ?_; conv => whnf)
 | (refine W.ret ?_; conv => whnf)
 | (refine W.skip ?_; conv => whnf)
 | (refine W.exit ?_; conv => whnf)
 | (refine W.cond rfl (fun hb => ?_) (fun hb => ?_) <;> (try simp only [zr, zd, zm, minL, maxL, pickB, zA] at hb) <;> (try (first | (cases hb; done) | exact absurd hb (by decide) | (exfalso; omega) | (omega))))
 | ((with_reducible refine And.intro ?_ ?_); exact zc; conv => whnf)
 | ((with_reducible refine And.intro (Side.out ?_) ?_); rotate_left; (conv => whnf))
 | ((first | refine retM1 ?_ | refine retM2 ?_) <;> (conv => whnf) <;> repeat' (first
 | exact trivial
 | (with_reducible rfl)
 | ((with_reducible refine And.intro ?_ ?_) <;> conv => whnf)
 | omega
 | rfl
 | (refine congrArg (SV.arr _) ?_)
 | (refine congrArg (Value.int _) ?_)
 | (refine congrArg Value.bool ?_)))); all_goals (try unfold Side)
 all_goals try (repeat' (first | exact zb | with_reducible refine And.intro ?_ ?_))
 refine W.loop (fun k : Nat => ⟨[(0, .st true (.arr (.int .u16) (zN l : List Int))), (1, .fn 65 [.padr 1000000000 0, .padr 1000000001 0]), (7, (.lit (.int .i64 (l.length : Int)))), (8, (.lit (.int .i64 (k : Int))))], [(1000000000, .box1 (.fn 57 [])), (1000000001, .box1 (.lit (.int .u16 ((s : Nat) : Int))))]⟩) (fun k => (k ≤ l.length ∧ idxF p l 0 = idxF p (l.drop k) k)) (fun k => l.length - k) (0) ?_ ?_
 · refine ⟨⟨Nat.zero_le _, rfl⟩, ?_⟩
   refine subF.ok ?_ <;> (conv => whnf) <;> repeat' (first
 | exact trivial
 | (with_reducible rfl)
 | ((with_reducible refine And.intro ?_ ?_) <;> conv => whnf)
 | omega
 | rfl
 | (refine congrArg (SV.arr _) ?_)
 | (refine congrArg (Value.int _) ?_)
 | (refine congrArg Value.bool ?_))
   all_goals first | exact congrArg Nat.cast hzl | skip
 · rintro k ⟨hk, hi⟩
   by_cases hkl : k < l.length
   · rw [drop_cons hkl, idxF] at hi
     have hg : (zN l).getD k 0 = ((l.getD k 0 : Nat) : Int) := zN_get
     have hlt := hl k hkl
     obtain ⟨t, ht⟩ : ∃ t, t = l.getD k 0 := ⟨_, rfl⟩
     rw [← ht] at hg hlt hi
     have c1 := gr1_m hs hlt
     have h2 : FnM Try.prog 65 [.lit (.int .u16 ((zN l).getD k 0)), .padr 1000000000 0, .padr 1000000001 0] [(1000000000, .box1 (.fn 57 [])), (1000000001, .box1 (.lit (.int .u16 ((s : Nat) : Int))))] (.lit (.bool (p t))) [(1000000000, .box1 (.fn 57 [])), (1000000001, .box1 (.lit (.int .u16 ((s : Nat) : Int))))] := by rw [hg, hp]; exact c1
     clear c1
     cases hb1 : p t with
     | true =>
      rw [hb1] at h2
      rw [hb1, if_pos rfl] at hi
      rw [hi]
      repeat' (first
 | refine W.seq ?_
 | refine W.block ?_
 | (refine W.regionM (id := 4) tys_ok [] [5] ?_; conv => whnf)
 | (refine W.region tys_ok [] ?_; conv => whnf)
 | (refine W.drawAll tys_ok [] mixed rfl ?_; conv => whnf)
 | (refine W.ret ?_; conv => whnf)
 | (refine W.skip ?_; conv => whnf)
 | (refine W.exit ?_; conv => whnf)
 | (refine callM_at (h2) ?_; conv => whnf)
 | (refine W.cond rfl (fun hb => ?_) (fun hb => ?_) <;> (try simp only [zr, zd, zm, minL, maxL, pickB, zA] at hb) <;> (try (first | (cases hb; done) | exact absurd hb (by decide) | (exfalso; omega) | (omega))))
 | (refine Or.inl (And.intro trivial ?_); (conv => whnf))
 | ((with_reducible refine And.intro ?_ ?_); exact zc; conv => whnf)
 | ((with_reducible refine And.intro (Side.out ?_) ?_); rotate_left; (conv => whnf))
 | ((first | refine retM1 ?_ | refine retM2 ?_) <;> (conv => whnf) <;> repeat' (first
 | exact trivial
 | (with_reducible rfl)
 | ((with_reducible refine And.intro ?_ ?_) <;> conv => whnf)
 | omega
 | rfl
 | (refine congrArg (SV.arr _) ?_)
 | (refine congrArg (Value.int _) ?_)
 | (refine congrArg Value.bool ?_)))); all_goals (try unfold Side)
      all_goals try (repeat' (first | exact zb | with_reducible refine And.intro ?_ ?_))
     | false =>
      rw [hb1] at h2
      rw [hb1, if_neg (by decide)] at hi
      repeat' (first
 | refine W.seq ?_
 | refine W.block ?_
 | (refine W.regionM (id := 4) tys_ok [] [5] ?_; conv => whnf)
 | (refine W.region tys_ok [] ?_; conv => whnf)
 | (refine W.drawAll tys_ok [] mixed rfl ?_; conv => whnf)
 | (refine W.ret ?_; conv => whnf)
 | (refine W.skip ?_; conv => whnf)
 | (refine W.exit ?_; conv => whnf)
 | (refine callM_at (h2) ?_; conv => whnf)
 | (refine W.cond rfl (fun hb => ?_) (fun hb => ?_) <;> (try simp only [zr, zd, zm, minL, maxL, pickB, zA] at hb) <;> (try (first | (cases hb; done) | exact absurd hb (by decide) | (exfalso; omega) | (omega))))
 | (refine Or.inl (And.intro trivial ?_); (conv => whnf))
 | ((with_reducible refine And.intro ?_ ?_); exact zc; conv => whnf)
 | ((with_reducible refine And.intro (Side.out ?_) ?_); rotate_left; (conv => whnf))
 | ((first | refine retM1 ?_ | refine retM2 ?_) <;> (conv => whnf) <;> repeat' (first
 | exact trivial
 | (with_reducible rfl)
 | ((with_reducible refine And.intro ?_ ?_) <;> conv => whnf)
 | omega
 | rfl
 | (refine congrArg (SV.arr _) ?_)
 | (refine congrArg (Value.int _) ?_)
 | (refine congrArg Value.bool ?_)))); all_goals (try unfold Side)
      all_goals try (repeat' (first | exact zb | with_reducible refine And.intro ?_ ?_))
      refine ⟨k + 1, ⟨⟨by omega, by rw [hi]; rfl⟩, by omega⟩, ?_⟩
      refine subF.ok ?_ <;> (conv => whnf) <;> repeat' (first
 | exact trivial
 | (with_reducible rfl)
 | ((with_reducible refine And.intro ?_ ?_) <;> conv => whnf)
 | omega
 | rfl
 | (refine congrArg (SV.arr _) ?_)
 | (refine congrArg (Value.int _) ?_)
 | (refine congrArg Value.bool ?_))
   · have hke : k = l.length := by omega
     subst hke
     rw [List.drop_length, idxF] at hi
     rw [hi]
     repeat' (first
 | refine W.seq ?_
 | refine W.block ?_
 | (refine W.region tys_ok [] ?_; conv => whnf)
 | (refine W.drawAll tys_ok [] mixed rfl ?_; conv => whnf)
 | (refine W.ret ?_; conv => whnf)
 | (refine W.skip ?_; conv => whnf)
 | (refine W.exit ?_; conv => whnf)
 | (refine W.cond rfl (fun hb => ?_) (fun hb => ?_) <;> (try simp only [zr, zd, zm, minL, maxL, pickB, zA] at hb) <;> (try (first | (cases hb; done) | exact absurd hb (by decide) | (exfalso; omega) | (omega))))
 | ((with_reducible refine And.intro ?_ ?_); exact zc; conv => whnf)
 | ((with_reducible refine And.intro (Side.out ?_) ?_); rotate_left; (conv => whnf))
 | ((first | refine retM1 ?_ | refine retM2 ?_) <;> (conv => whnf) <;> repeat' (first
 | exact trivial
 | (with_reducible rfl)
 | ((with_reducible refine And.intro ?_ ?_) <;> conv => whnf)
 | omega
 | rfl
 | (refine congrArg (SV.arr _) ?_)
 | (refine congrArg (Value.int _) ?_)
 | (refine congrArg Value.bool ?_)))); all_goals (try unfold Side)
     all_goals try (repeat' (first | exact zb | with_reducible refine And.intro ?_ ?_))
theorem contains_m {s : Nat} {l : List Nat} (hs : s < 65536) (hl : ∀ i, i < l.length → l.getD i 0 < 65536) (hll : l.length ≤ 4096) :
  FnM Try.prog 64 [.st true (.arr (.int .u16) (zN l : List Int)), .fn 65 [.padr 1000000000 0, .padr 1000000001 0]] [(1000000000, .box1 (.fn 57 [])), (1000000001, .box1 (.lit (.int .u16 ((s : Nat) : Int))))] (.lit (.bool (l.any (pasB s)))) [(1000000000, .box1 (.fn 57 [])), (1000000001, .box1 (.lit (.int .u16 ((s : Nat) : Int))))] := by
 have c1 := index_m hs hl hll
 have e1 := idxF_any (p := pasB s) (l := l) (i := 0) (by omega)
 obtain ⟨r, hr⟩ : ∃ r, r = idxF (pasB s) l 0 := ⟨_, rfl⟩
 have hrg := idxF_ge (p := pasB s) (l := l) (i := 0) (by omega)
 rw [← hr] at c1 e1 hrg
 rw [← e1]
 refine FnM.of_body tys_ok Try.func64 (by rfl) rfl Try.ntmps64 (by rw [Try.results64]) (by simp) ?_
 repeat' (first
 | refine W.seq ?_
 | refine W.block ?_
 | (refine W.regionM (id := 1) tys_ok [] [2] ?_; conv => whnf)
 | (refine W.region tys_ok [] ?_; conv => whnf)
 | (refine W.drawAll tys_ok [] mixed rfl ?_; conv => whnf)
 | (refine W.ret ?_; conv => whnf)
 | (refine W.skip ?_; conv => whnf)
 | (refine W.exit ?_; conv => whnf)
 | (refine callM_at (c1) ?_; conv => whnf)
 | (refine W.cond rfl (fun hb => ?_) (fun hb => ?_) <;> (try simp only [zr, zd, zm, minL, maxL, pickB, zA] at hb) <;> (try (first | (cases hb; done) | exact absurd hb (by decide) | (exfalso; omega) | (omega))))
 | (refine Or.inl (And.intro trivial ?_); (conv => whnf))
 | ((with_reducible refine And.intro ?_ ?_); exact zc; conv => whnf)
 | ((with_reducible refine And.intro (Side.out ?_) ?_); rotate_left; (conv => whnf))
 | ((first | refine retM1 ?_ | refine retM2 ?_) <;> (conv => whnf) <;> repeat' (first
 | exact trivial
 | (with_reducible rfl)
 | ((with_reducible refine And.intro ?_ ?_) <;> conv => whnf)
 | omega
 | rfl
 | (refine congrArg (SV.arr _) ?_)
 | (refine congrArg (Value.int _) ?_)
 | (refine congrArg Value.bool ?_)))); all_goals (try unfold Side)
 all_goals try (repeat' (first | exact zb | with_reducible refine And.intro ?_ ?_))
open Int renaming reduceToNat → zr, reduceTDiv → zd, reduceTMod → zm
open Go Go.Vc Go.Sh Go.Tp Go.Ov
def grK (l : List Nat) (k : Nat) : List Nat := (l.take k).filter fun s => !l.any (pasB s)
theorem grK_yes {l : List Nat} {k : Nat} (hk : k < l.length) (h : l.any (pasB (l.getD k 0)) = false) : grK l (k + 1) = grK l k ++ [l.getD k 0] := by
 unfold grK
 rw [List.take_add_one, List.filter_append]
 have e : l[k]? = some (l.getD k 0) := by rw [List.getD_eq_getElem?_getD, List.getElem?_eq_getElem hk]; rfl
 rw [e]
 show _ ++ List.filter _ [l.getD k 0] = _
 rw [List.filter_cons, if_pos (by rw [h]; rfl)]; rfl
theorem grK_no {l : List Nat} {k : Nat} (hk : k < l.length) (h : l.any (pasB (l.getD k 0)) = true) : grK l (k + 1) = grK l k := by
 unfold grK
 rw [List.take_add_one, List.filter_append]
 have e : l[k]? = some (l.getD k 0) := by rw [List.getD_eq_getElem?_getD, List.getElem?_eq_getElem hk]; rfl
 rw [e]
 show _ ++ List.filter _ [l.getD k 0] = _
 rw [List.filter_cons, if_neg (by rw [h]; decide)]; simp
theorem grK_len {l : List Nat} {k : Nat} : (grK l k).length ≤ l.length := Nat.le_trans (List.length_filter_le _ _) (by simp; omega)
def grL (l : List Nat) : List Nat := l.filter fun s => !l.any (pasB s)
theorem grK_all {l : List Nat} : grK l l.length = grL l := by unfold grK grL; rw [List.take_length]
set_option maxHeartbeats 4000000 in
theorem greatest_m {l : List Nat} (hl : ∀ i, i < l.length → l.getD i 0 < 65536) (hll : l.length ≤ 4096) :
  FnM Try.prog 55 [.st true (.arr (.int .u16) (zN (l) : List Int)), .fn 57 []] [] (.st true (.arr (.int .u16) (zN (grL l) : List Int))) [] := by
 have hzl : @List.length (Ty.int .u16).T (zN l) = l.length := zN_len
 refine FnM.of_body tys_ok Try.func55 (by rfl) rfl Try.ntmps55 (by rw [Try.results55]) (by simp) ?_
 repeat' (first
 | refine W.seq ?_
 | refine W.block ?_
 | (refine W.region tys_ok [] ?_; conv => whnf)
 | (refine W.drawAll tys_ok [] mixed rfl ?_; conv => whnf)
 | (refine W.ret ?_; conv => whnf)
 | (refine W.skip ?_; conv => whnf)
 | (refine W.exit ?_; conv => whnf)
 | (refine W.cond rfl (fun hb => ?_) (fun hb => ?_) <;> (try simp only [zr, zd, zm, minL, maxL, pickB, zA] at hb) <;> (try (first | (cases hb; done) | exact absurd hb (by decide) | (exfalso; omega) | (omega))))
 | ((with_reducible refine And.intro ?_ ?_); exact zc; conv => whnf)
 | ((with_reducible refine And.intro (Side.out ?_) ?_); rotate_left; (conv => whnf))
 | ((first | refine retM1 ?_ | refine retM2 ?_) <;> (conv => whnf) <;> repeat' (first
 | exact trivial
 | (with_reducible rfl)
 | ((with_reducible refine And.intro ?_ ?_) <;> conv => whnf)
 | omega
 | rfl
 | (refine congrArg (SV.arr _) ?_)
 | (refine congrArg (Value.int _) ?_)
 | (refine congrArg Value.bool ?_)))); all_goals (try unfold Side)
 all_goals try (repeat' (first | exact zb | with_reducible refine And.intro ?_ ?_))
 refine W.loop (fun k : Nat => ⟨[(0, .st true (.arr (.int .u16) (zN (l) : List Int))), (3, .padr 4000 0), (5, .own 5000), (8, .st true (.arr (.int .u16) (zN (l) : List Int))), (9, (.lit (.int .i64 (l.length : Int)))), (10, (.lit (.int .i64 (k : Int))))], [(4000, .box1 (.fn 57 [])), (5000, .row 79 (.int .u16) true (zN (grK l k) : List Int))]⟩) (fun k => k ≤ l.length) (fun k => l.length - k) (0) ?_ ?_
 · refine ⟨Nat.zero_le _, ?_⟩
   refine subF.ok ?_ <;> (conv => whnf) <;> repeat' (first
 | exact trivial
 | (with_reducible rfl)
 | ((with_reducible refine And.intro ?_ ?_) <;> conv => whnf)
 | omega
 | rfl
 | (refine congrArg (SV.arr _) ?_)
 | (refine congrArg (Value.int _) ?_)
 | (refine congrArg Value.bool ?_))
   all_goals first | exact congrArg Nat.cast hzl | skip
 · intro k hk
   by_cases hkl : k < l.length
   · have hg : (zN l).getD k 0 = ((l.getD k 0 : Nat) : Int) := zN_get
     have hlt := hl k hkl
     have hy := grK_yes hkl
     have hn := grK_no hkl
     obtain ⟨t, ht⟩ : ∃ t, t = l.getD k 0 := ⟨_, rfl⟩
     rw [← ht] at hg hlt hy hn
     have c1 := contains_m hlt hl hll
     have hlen := grK_len (l := l) (k := k)
     have hzg : (zN (grK l k)).length ≤ l.length := by rw [zN_len]; exact hlen
     have hap := zN_app (a := grK l k) (j := t)
     have c2 : FnM Try.prog 64 [.st true (.arr (.int .u16) (zN (l) : List Int)), .fn 65 [.padr 1000000000 0, .padr 1000000001 0]] [(1000000000, .box1 (.fn 57 [])), (1000000001, .box1 (.lit (.int .u16 ((zN l).getD k 0))))] (.lit (.bool (l.any (pasB t)))) [(1000000000, .box1 (.fn 57 [])), (1000000001, .box1 (.lit (.int .u16 ((zN l).getD k 0))))] := by rw [hg]; exact c1
     clear c1
     cases hb1 : l.any (pasB t) with
     | true =>
      rw [hb1] at c2
      have hst := hn hb1
      repeat' (first
 | refine W.seq ?_
 | refine W.block ?_
 | (refine W.regionM (id := 5) tys_ok [] [2] ?_; conv => whnf)
 | (refine W.region tys_ok [] ?_; conv => whnf)
 | (refine W.drawAll tys_ok [] mixed rfl ?_; conv => whnf)
 | (refine W.ret ?_; conv => whnf)
 | (refine W.skip ?_; conv => whnf)
 | (refine W.exit ?_; conv => whnf)
 | (refine callM_at (c2) ?_; conv => whnf)
 | (refine W.cond rfl (fun hb => ?_) (fun hb => ?_) <;> (try simp only [zr, zd, zm, minL, maxL, pickB, zA] at hb) <;> (try (first | (cases hb; done) | exact absurd hb (by decide) | (exfalso; omega) | (omega))))
 | (refine Or.inl (And.intro trivial ?_); (conv => whnf))
 | ((with_reducible refine And.intro ?_ ?_); exact zc; conv => whnf)
 | ((with_reducible refine And.intro (Side.out ?_) ?_); rotate_left; (conv => whnf))
 | ((first | refine retM1 ?_ | refine retM2 ?_) <;> (conv => whnf) <;> repeat' (first
 | exact trivial
 | (with_reducible rfl)
 | ((with_reducible refine And.intro ?_ ?_) <;> conv => whnf)
 | omega
 | rfl
 | (refine congrArg (SV.arr _) ?_)
 | (refine congrArg (Value.int _) ?_)
 | (refine congrArg Value.bool ?_)))); all_goals (try unfold Side)
      all_goals try (repeat' (first | exact zb | with_reducible refine And.intro ?_ ?_))
      refine ⟨k + 1, ⟨by omega, by omega⟩, ?_⟩
      rw [hst]
      refine subF.ok ?_ <;> (conv => whnf) <;> repeat' (first
 | exact trivial
 | (with_reducible rfl)
 | ((with_reducible refine And.intro ?_ ?_) <;> conv => whnf)
 | omega
 | rfl
 | (refine congrArg (SV.arr _) ?_)
 | (refine congrArg (Value.int _) ?_)
 | (refine congrArg Value.bool ?_))
     | false =>
      rw [hb1] at c2
      have hst := hy hb1
      repeat' (first
 | refine W.seq ?_
 | refine W.block ?_
 | (refine W.regionM (id := 5) tys_ok [] [2] ?_; conv => whnf)
 | (refine W.region tys_ok [] ?_; conv => whnf)
 | (refine W.drawAll tys_ok [] mixed rfl ?_; conv => whnf)
 | (refine W.ret ?_; conv => whnf)
 | (refine W.skip ?_; conv => whnf)
 | (refine W.exit ?_; conv => whnf)
 | (refine callM_at (c2) ?_; conv => whnf)
 | (refine W.cond rfl (fun hb => ?_) (fun hb => ?_) <;> (try simp only [zr, zd, zm, minL, maxL, pickB, zA] at hb) <;> (try (first | (cases hb; done) | exact absurd hb (by decide) | (exfalso; omega) | (omega))))
 | (refine Or.inl (And.intro trivial ?_); (conv => whnf))
 | ((with_reducible refine And.intro ?_ ?_); exact zc; conv => whnf)
 | ((with_reducible refine And.intro (Side.out ?_) ?_); rotate_left; (conv => whnf))
 | ((first | refine retM1 ?_ | refine retM2 ?_) <;> (conv => whnf) <;> repeat' (first
 | exact trivial
 | (with_reducible rfl)
 | ((with_reducible refine And.intro ?_ ?_) <;> conv => whnf)
 | omega
 | rfl
 | (refine congrArg (SV.arr _) ?_)
 | (refine congrArg (Value.int _) ?_)
 | (refine congrArg Value.bool ?_)))); all_goals (try unfold Side)
      all_goals try (repeat' (first | exact zb | with_reducible refine And.intro ?_ ?_))
      all_goals first | (show ((zN (grK l k)).length + 1).le 4294967296; exact (by omega : (zN (grK l k)).length + 1 ≤ 4294967296)) | skip
      refine ⟨k + 1, ⟨by omega, by omega⟩, ?_⟩
      rw [hst, ← hap, ← hg]
      refine subF.ok ?_ <;> (conv => whnf) <;> repeat' (first
 | exact trivial
 | (with_reducible rfl)
 | ((with_reducible refine And.intro ?_ ?_) <;> conv => whnf)
 | omega
 | rfl
 | (refine congrArg (SV.arr _) ?_)
 | (refine congrArg (Value.int _) ?_)
 | (refine congrArg Value.bool ?_))
   · have hke : k = l.length := by omega
     subst hke
     rw [← grK_all]
     repeat' (first
 | refine W.seq ?_
 | refine W.block ?_
 | (refine W.region tys_ok [] ?_; conv => whnf)
 | (refine W.drawAll tys_ok [] mixed rfl ?_; conv => whnf)
 | (refine W.ret ?_; conv => whnf)
 | (refine W.skip ?_; conv => whnf)
 | (refine W.exit ?_; conv => whnf)
 | (refine W.cond rfl (fun hb => ?_) (fun hb => ?_) <;> (try simp only [zr, zd, zm, minL, maxL, pickB, zA] at hb) <;> (try (first | (cases hb; done) | exact absurd hb (by decide) | (exfalso; omega) | (omega))))
 | ((with_reducible refine And.intro ?_ ?_); exact zc; conv => whnf)
 | ((with_reducible refine And.intro (Side.out ?_) ?_); rotate_left; (conv => whnf))
 | ((first | refine retM1 ?_ | refine retM2 ?_) <;> (conv => whnf) <;> repeat' (first
 | exact trivial
 | (with_reducible rfl)
 | ((with_reducible refine And.intro ?_ ?_) <;> conv => whnf)
 | omega
 | rfl
 | (refine congrArg (SV.arr _) ?_)
 | (refine congrArg (Value.int _) ?_)
 | (refine congrArg Value.bool ?_)))); all_goals (try unfold Side)
     all_goals try (repeat' (first | exact zb | with_reducible refine And.intro ?_ ?_))
set_option maxHeartbeats 4000000 in
theorem preferred_m {B F : List Nat} {n : Nat} (h : DS B n) (hF : DS F n) (hn : n ≤ 12) :
  FnM Try.prog 29 [.st true (.sadr (.agg [I64 n, .arr (.int .u16) (zN (B) : List Int), .arr (.int .u16) (zN (F) : List Int)]))] [] (.st true (.arr (.int .u16) (zN (grL (alL (admB B F n) (2 ^ n))) : List Int))) [] := by
 have h2 := two12 hn
 have c1 := allAdm_m h hF hn
 obtain ⟨l, hl⟩ : ∃ l, l = alL (admB B F n) (2 ^ n) := ⟨_, rfl⟩
 have hll : l.length ≤ 4096 := by rw [hl]; exact Nat.le_trans alL_len h2
 have hlt : ∀ i, i < l.length → l.getD i 0 < 65536 := fun i hi => by
  have h3 : l.getD i 0 ∈ alL (admB B F n) (2 ^ n) := by rw [← hl, List.getD_eq_getElem?_getD, List.getElem?_eq_getElem hi]; exact List.getElem_mem _
  have := (alL_mem.1 h3).1; omega
 have c2 := greatest_m hlt hll
 rw [← hl] at c1 ⊢
 refine FnM.of_body tys_ok Try.func29 (by rfl) rfl Try.ntmps29 (by rw [Try.results29]) (by simp) ?_
 repeat' (first
 | refine W.seq ?_
 | refine W.block ?_
 | (refine W.regionM (id := 1) tys_ok [] [3,4] ?_; conv => whnf)
 | (refine W.region tys_ok [] ?_; conv => whnf)
 | (refine W.drawAll tys_ok [] mixed rfl ?_; conv => whnf)
 | (refine W.ret ?_; conv => whnf)
 | (refine W.skip ?_; conv => whnf)
 | (refine W.exit ?_; conv => whnf)
 | (refine callM_at (c1) ?_; conv => whnf)
 | (refine callM_at (c2) ?_; conv => whnf)
 | (refine W.cond rfl (fun hb => ?_) (fun hb => ?_) <;> (try simp only [zr, zd, zm, minL, maxL, pickB, zA] at hb) <;> (try (first | (cases hb; done) | exact absurd hb (by decide) | (exfalso; omega) | (omega))))
 | (refine Or.inl (And.intro trivial ?_); (conv => whnf))
 | ((with_reducible refine And.intro ?_ ?_); exact zc; conv => whnf)
 | ((with_reducible refine And.intro (Side.out ?_) ?_); rotate_left; (conv => whnf))
 | ((first | refine retM1 ?_ | refine retM2 ?_) <;> (conv => whnf) <;> repeat' (first
 | exact trivial
 | (with_reducible rfl)
 | ((with_reducible refine And.intro ?_ ?_) <;> conv => whnf)
 | omega
 | rfl
 | (refine congrArg (SV.arr _) ?_)
 | (refine congrArg (Value.int _) ?_)
 | (refine congrArg Value.bool ?_)))); all_goals (try unfold Side)
 all_goals try (repeat' (first | exact zb | with_reducible refine And.intro ?_ ?_))
end Go.Proofs.Ytckmhlpngolbpaa
namespace Go.Ov
open Go.Sh Go.Tp
theorem getD_setN {l : List Nat} {i j x : Nat} (hi : i < l.length) : (l.set i x).getD j 0 = if j = i then x else l.getD j 0 := by
 rw [List.getD_eq_getElem?_getD, List.getElem?_set, List.getD_eq_getElem?_getD]
 by_cases e : i = j
 · subst e; simp [hi]
 · rw [if_neg e, if_neg (Ne.symm e)]
def setB (l : List Nat) (i j : Nat) : List Nat := l.set i (l.getD i 0 ||| 2 ^ j)
theorem setB_len {l : List Nat} {i j : Nat} : (setB l i j).length = l.length := List.length_set
theorem setB_bit {l : List Nat} {i j a b : Nat} (hi : i < l.length) : ((setB l i j).getD a 0).testBit b = ((l.getD a 0).testBit b || (decide (a = i) && decide (b = j))) := by
 unfold setB
 rw [getD_setN hi]
 by_cases e : a = i
 · subst e
   rw [if_pos rfl, Nat.testBit_or, Nat.testBit_two_pow]
   simp [eq_comm]
 · rw [if_neg e]; simp [e]
def byK (at_ : List (Nat × Nat)) (n : Nat) : Nat → List Nat
 | 0 => List.replicate n 0
 | k + 1 => setB (byK at_ n k) (at_.getD k (0, 0)).1 (at_.getD k (0, 0)).2
def frK (at_ : List (Nat × Nat)) (n : Nat) : Nat → List Nat
 | 0 => List.replicate n 0
 | k + 1 => setB (frK at_ n k) (at_.getD k (0, 0)).2 (at_.getD k (0, 0)).1
theorem byK_len {at_ : List (Nat × Nat)} {n : Nat} : ∀ {k : Nat}, (byK at_ n k).length = n
 | 0 => by simp [byK]
 | k + 1 => by rw [byK, setB_len, byK_len]
theorem frK_len {at_ : List (Nat × Nat)} {n : Nat} : ∀ {k : Nat}, (frK at_ n k).length = n
 | 0 => by simp [frK]
 | k + 1 => by rw [frK, setB_len, frK_len]
def PrOk (at_ : List (Nat × Nat)) (n : Nat) : Prop := ∀ k, k < at_.length → (at_.getD k (0, 0)).1 < n ∧ (at_.getD k (0, 0)).2 < n
theorem repl_bit {n a b : Nat} : ((List.replicate n 0).getD a 0).testBit b = false := by
 rw [List.getD_eq_getElem?_getD, List.getElem?_replicate]
 split <;> exact Nat.zero_testBit b
theorem byK_bit {at_ : List (Nat × Nat)} {n a b : Nat} (h : PrOk at_ n) : ∀ {k : Nat}, k ≤ at_.length → (((byK at_ n k).getD a 0).testBit b = true ↔ ∃ m, m < k ∧ at_.getD m (0, 0) = (a, b))
 | 0, _ => by rw [byK, repl_bit]; simp
 | k + 1, hk => by
  rw [byK, setB_bit (by rw [byK_len]; exact (h k (by omega)).1), Bool.or_eq_true, byK_bit h (k := k) (by omega), Bool.and_eq_true, decide_eq_true_eq, decide_eq_true_eq]
  constructor
  · rintro (⟨m, h1, h2⟩ | ⟨h1, h2⟩)
    · exact ⟨m, by omega, h2⟩
    · exact ⟨k, by omega, by rw [h1, h2]⟩
  · rintro ⟨m, h1, h2⟩
    by_cases e : m = k
    · subst e; rw [h2]; exact .inr ⟨rfl, rfl⟩
    · exact .inl ⟨m, by omega, h2⟩
theorem frK_bit {at_ : List (Nat × Nat)} {n a b : Nat} (h : PrOk at_ n) : ∀ {k : Nat}, k ≤ at_.length → (((frK at_ n k).getD a 0).testBit b = true ↔ ∃ m, m < k ∧ at_.getD m (0, 0) = (b, a))
 | 0, _ => by rw [frK, repl_bit]; simp
 | k + 1, hk => by
  rw [frK, setB_bit (by rw [frK_len]; exact (h k (by omega)).2), Bool.or_eq_true, frK_bit h (k := k) (by omega), Bool.and_eq_true, decide_eq_true_eq, decide_eq_true_eq]
  constructor
  · rintro (⟨m, h1, h2⟩ | ⟨h1, h2⟩)
    · exact ⟨m, by omega, h2⟩
    · exact ⟨k, by omega, by rw [h1, h2]⟩
  · rintro ⟨m, h1, h2⟩
    by_cases e : m = k
    · subst e; rw [h2]; exact .inr ⟨rfl, rfl⟩
    · exact .inl ⟨m, by omega, h2⟩
theorem lt_of_bits {x n : Nat} (h : ∀ b, x.testBit b = true → b < n) : x < 2 ^ n := by
 apply Nat.lt_pow_two_of_testBit
 intro i hi
 cases hb : x.testBit i with
 | false => rfl
 | true => have := h i hb; omega
theorem byK_lt {at_ : List (Nat × Nat)} {n a k : Nat} (h : PrOk at_ n) (hk : k ≤ at_.length) : (byK at_ n k).getD a 0 < 2 ^ n := lt_of_bits fun b hb => by
 obtain ⟨m, h1, h2⟩ := (byK_bit h hk).1 hb
 have := (h m (by omega)).2
 rw [h2] at this; exact this
theorem frK_lt {at_ : List (Nat × Nat)} {n a k : Nat} (h : PrOk at_ n) (hk : k ≤ at_.length) : (frK at_ n k).getD a 0 < 2 ^ n := lt_of_bits fun b hb => by
 obtain ⟨m, h1, h2⟩ := (frK_bit h hk).1 hb
 have := (h m (by omega)).1
 rw [h2] at this; exact this
def zP (at_ : List (Nat × Nat)) : List (Int × Int × Unit) := at_.map fun p => ((p.1 : Int), (p.2 : Int), ())
theorem zP_len {at_ : List (Nat × Nat)} : (zP at_).length = at_.length := by simp [zP]
theorem zP_get {at_ : List (Nat × Nat)} {k : Nat} : (zP at_).getD k (0, 0, ()) = (((at_.getD k (0, 0)).1 : Int), ((at_.getD k (0, 0)).2 : Int), ()) := by
 unfold zP
 rw [List.getD_eq_getElem?_getD, List.getElem?_map, List.getD_eq_getElem?_getD]
 cases at_[k]? <;> rfl
theorem zN_set {l : List Nat} {i x : Nat} : (zN l).set i (x : Int) = zN (l.set i x) := by unfold zN; rw [List.map_set]
end Go.Ov
